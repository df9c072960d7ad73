/-
  THE ABSTRACT MACHINE, part E: binary and unary operations, structs and arrays from their parts, slices of slices and strings.
-/
import Derived.Test.YtgglgbfolgcaiaaGreatDoorHmDx
namespace Go.Am
open RowKit

section
variable {P:Program} {S:Snap} {W0:World} {H:Hp}

def plainV:Value→Bool
 | .int _ _ | .float _ _ | .complex _ _ _ | .string _=>false
 | _=>true
def guardV:Value→Bool
 | .nilIface | .agg _=>false
 | _=>true
theorem binOp_eql_gen {t:TypeId} {u v:Value} (hu:plainV u=true):binOp .eql t u v=(do pure (.bool (← Op.equal t u v))):=by
 cases u <;> first | (simp [plainV] at hu;done) | rfl
theorem binOp_neq_gen {t:TypeId} {u v:Value} (hu:plainV u=true):binOp .neq t u v=(do pure (.bool (!(← Op.equal t u v)))):=by
 cases u <;> first | (simp [plainV] at hu;done) | rfl
theorem eqGuard_gen {op:BinOp} {t:TypeId} {X Y:Operand} {u v:Value} (hu:guardV u=true) (w:World):(eqGuard op t X Y u v).run P w=.ok () w:=by
 cases u <;> first | (simp [guardV] at hu;done) | (cases op <;> rfl)

set_option maxHeartbeats 1000000 in
theorem eqGuard_aeq {ok : TypeId → Bool} (hok : ∀ t, ok t = true → P.eqGuardType P.depth t = false) {n : Nat} {op : BinOp} {t : TypeId} {X Y : Operand} {x y : AV} {u v : Value} {r : Bool}
    (hx:VRel S x u) (hy:VRel S y v) (h:aeq P ok n t x y=some r):(eqGuard op t X Y u v).run P S.w=.ok () S.w:=by
 cases n with
 | zero=>simp [aeq] at h
 | succ n =>
  unfold aeq at h
  split at h
  ·split at h
   ·split at h
    ·cases hx with | agg _ cx _ _ _ =>
     cases hy with | agg _ cy _ _ _ =>
     exact run_eqGuard_agg S.w op t X Y cx cy (hok t ‹_›)
    ·cases h
   ·cases h
  ·split at h
   ·split at h
    ·cases hx with | agg _ cx _ _ _ =>
     cases hy with | agg _ cy _ _ _ =>
     exact run_eqGuard_agg S.w op t X Y cx cy (hok t ‹_›)
    ·cases h
   ·cases h
  ·unfold aeqS at h
   split at h <;> first
    | (cases h;done)
    | (cases hx;exact eqGuard_gen rfl S.w)
  ·cases h

theorem equalI_run {t:TypeId} {ms:Array (String × TypeId)} (hu:P.underlying t=some (.interface ms)) {x y:AV} {u v:Value} {b:Bool} (hx:VRel S x u) (hy:VRel S y v) (h:aeqI x y=some b) (d:Nat) (w:World):(Op.equalIn (d+1) t u v).run P w=.ok b w:=by
 have hun:=run_underlying hu w
 unfold aeqI at h
 split at h
 ·cases hx;cases hy;injection h with h;subst h;unfold Op.equalIn;simp only [Sem.run_bind,hun,Result.andThen_ok];rfl
 ·cases hx;cases hy;injection h with h;subst h;unfold Op.equalIn;simp only [Sem.run_bind,hun,Result.andThen_ok];rfl
 ·cases hx;cases hy;injection h with h;subst h;unfold Op.equalIn;simp only [Sem.run_bind,hun,Result.andThen_ok];rfl
 ·cases h
theorem guardI_run {op:BinOp} {t:TypeId} {X Y:Operand} (hop:op=.eql ∨ op=.neq) (hc:constIn X Y=true) {x y:AV} {u v:Value} {b:Bool} (hx:VRel S x u) (hy:VRel S y v) (h:aeqI x y=some b) (w:World):(eqGuard op t X Y u v).run P w=.ok () w∧plainV u=true:=by
 unfold aeqI at h
 split at h
 ·cases hx;cases hy
  refine ⟨?_,rfl⟩
  unfold constIn at hc
  split at hc
  ·rcases hop with rfl | rfl <;> rfl
  ·rcases hop with rfl | rfl <;> cases X <;> rfl
  ·cases hc
 ·cases hx;cases hy
  exact ⟨by rcases hop with rfl | rfl <;> rfl,rfl⟩
 ·cases hx;cases hy
  exact ⟨by rcases hop with rfl | rfl <;> rfl,rfl⟩
 ·cases h
theorem ebinI_sound {op : BinOp} {t : TypeId} {X Y : Operand} {x y : AV} {u v : Value} {r : AV} (ht : isIfaceT P t = true) (hc : constIn X Y = true) (hx : VRel S x u) (hy : VRel S y v) (h : ebinI op x y = some r) :
    ∃ v',(do eqGuard op t X Y u v;binOp op t u v:Sem Value).run P S.w=.ok v' S.w∧VRel S r v':=by
 unfold isIfaceT at ht
 split at ht
 ·rename_i ms hu
  unfold ebinI at h
  split at h
  ·split at h
   ·rename_i b hb
    injection h with h
    subst h
    obtain ⟨g1,g3⟩:=guardI_run (P:=P) (op:=.eql) (t:=t) (.inl rfl) hc hx hy hb S.w
    have h1:=equalI_run hu hx hy hb 9999 S.w
    refine ⟨.bool b,?_,.bool _⟩
    rw [binOp_eql_gen g3]
    simp only [Sem.run_bind,g1,Result.andThen_ok,Op.equal,Op.maxDepth,h1,Sem.run_pure]
   ·cases h
  ·split at h
   ·rename_i b hb
    injection h with h
    subst h
    obtain ⟨g1,g3⟩:=guardI_run (P:=P) (op:=.neq) (t:=t) (.inr rfl) hc hx hy hb S.w
    have h1:=equalI_run hu hx hy hb 9999 S.w
    refine ⟨.bool (!b),?_,.bool _⟩
    rw [binOp_neq_gen g3]
    simp only [Sem.run_bind,g1,Result.andThen_ok,Op.equal,Op.maxDepth,h1,Sem.run_pure]
   ·cases h
  ·cases h
 ·cases ht
theorem aeqBin_sound {ok : TypeId → Bool} (hok : ∀ t, ok t = true → P.stoodInHeld t = false ∧ P.eqGuardType P.depth t = false) {op : BinOp} {t : TypeId} {X Y : Operand} {x y : AV} {u v : Value} {r : AV}
    (hx:VRel S x u) (hy:VRel S y v) (hk:plainV u=true) (h:aeqBin P ok op t x y=some r) :
    ∃ v',(do eqGuard op t X Y u v;binOp op t u v:Sem Value).run P S.w=.ok v' S.w∧VRel S r v':=by
 unfold aeqBin at h
 split at h
 ·split at h
  ·rename_i b hb
   injection h with h;subst h
   have h1:=aeq_sound (fun t h=>(hok t h).1) 20 10000 t x y u v b (by omega) hx hy hb
   have g1:=eqGuard_aeq (fun t h=>(hok t h).2) (op:=.eql) (X:=X) (Y:=Y) hx hy hb
   refine ⟨.bool b,?_,.bool _⟩
   rw [binOp_eql_gen hk]
   simp only [Sem.run_bind,g1,Result.andThen_ok,Op.equal,Op.maxDepth,h1,Sem.run_pure]
  ·cases h
 ·split at h
  ·rename_i b hb
   injection h with h;subst h
   have h1:=aeq_sound (fun t h=>(hok t h).1) 20 10000 t x y u v b (by omega) hx hy hb
   have g1:=eqGuard_aeq (fun t h=>(hok t h).2) (op:=.neq) (X:=X) (Y:=Y) hx hy hb
   refine ⟨.bool (!b),?_,.bool _⟩
   rw [binOp_neq_gen hk]
   simp only [Sem.run_bind,g1,Result.andThen_ok,Op.equal,Op.maxDepth,h1,Sem.run_pure]
  ·cases h
 ·cases h

theorem ashift_sound {op : BinOp} {k k' : IntKind} {a b : Int} {v : AV} (h : ashift op k k' a b = some v) (t : TypeId) :
    ∃ v',(binOp op t (.int k a) (.int k' b)).run P S.w=.ok v' S.w∧VRel S v v':=by
 unfold ashift at h
 split at h
 ·split at h
  ·cases h
  ·injection h with h;subst h;exact ⟨_,by simp [binOp,Op.shift, *],.int _ _⟩
 ·split at h
  ·cases h
  ·injection h with h;subst h;exact ⟨_,by simp [binOp,Op.shift, *],.int _ _⟩
 ·split at h
  ·rename_i hk;subst hk;exact intbin_sound h t
  ·cases h

theorem bin_eq {ok : TypeId → Bool} (hok : ∀ t, ok t = true → P.stoodInHeld t = false ∧ P.eqGuardType P.depth t = false) {op : BinOp} {t : TypeId} {X Y : Operand} {x y : AV} {u v : Value} {r : AV}
    (hns:∀ d,P.underlying t=some d→d ≠ .string∧∀ k,d ≠ .int k) (hx:VRel S x u) (hy:VRel S y v) (h:aeqBin P ok op t x y=some r) :
    ∃ v',(do eqGuard op t X Y u v;binOp op t u v:Sem Value).run P S.w=.ok v' S.w∧VRel S r v':=by
 have plain:∀ b,aeq P ok 20 t x y=some b→plainV u=true:=by
  intro b hb
  unfold aeq at hb
  split at hb
  ·split at hb
   ·cases hx;rfl
   ·cases hb
  ·split at hb
   ·cases hx;rfl
   ·cases hb
  ·rename_i ds _ _ hd
   obtain ⟨h1,h2⟩:=hns ds hd
   cases ds with
   | int k=>exact absurd rfl (h2 k)
   | string=>exact absurd rfl h1
   | _ =>
    unfold aeqS at hb
    split at hb <;> first
     | (cases hb;done)
     | (cases hx;rfl)
     | (rename_i hh;cases hh)
  ·cases hb
 have h2:=h
 unfold aeqBin at h2
 split at h2
 ·split at h2
  ·exact aeqBin_sound hok hx hy (plain _ ‹_›) h
  ·cases h2
 ·split at h2
  ·exact aeqBin_sound hok hx hy (plain _ ‹_›) h
  ·cases h2
 ·cases h2

theorem ebin_aeqBin {ok:TypeId→Bool} {op:BinOp} {t:TypeId} {d:TypeDesc} {x y:AV} (hu:P.underlying t=some d) (hs:∀ fs,d ≠ .struct fs) (ha:∀ n e,d ≠ .array n e):ebin d op x y=aeqBin P ok op t x y:=by
 have:aeq P ok 20 t x y=aeqS d x y:=by
  unfold aeq
  rw [hu]
  cases d <;> first | rfl | exact absurd rfl (hs _) | exact absurd rfl (ha _ _)
 unfold ebin aeqBin
 rw [this]

theorem abin_sound {ok : TypeId → Bool} (hok : ∀ t, ok t = true → P.stoodInHeld t = false ∧ P.eqGuardType P.depth t = false) {op : BinOp} {t : TypeId} {X Y : Operand} {x y : AV} {u v : Value} {r : AV}
    (hx:VRel S x u) (hy:VRel S y v) (h:abin P ok op t x y=some r) :
    ∃ v',(do eqGuard op t X Y u v;binOp op t u v:Sem Value).run P S.w=.ok v' S.w∧VRel S r v':=by
 unfold abin at h
 split at h
 ·unfold ibin at h
  split at h
  ·cases hx with | int _ _ =>
   cases hy with | int _ _ =>
   rw [Sem.run_bind,eqGuard_gen rfl,Result.andThen_ok]
   exact ashift_sound h t
  ·cases h
 ·unfold sbin at h
  split at h
  ·cases hx with | str _ b hb =>
   cases hy with | str _ b' hb' =>
   rw [Sem.run_bind,eqGuard_gen rfl,Result.andThen_ok]
   have hs:binOp op t (.string b) (.string b')=Op.stringOp op b b':=by cases op <;> rfl
   rw [hs]
   exact strbin_sound hb hb' h
  ·cases h
 ·rename_i fs hu
  exact bin_eq hok (fun d hd=>by rw [hu] at hd;injection hd with hd;subst hd;exact ⟨by simp,by simp⟩) hx hy h
 ·rename_i n' e' hu
  exact bin_eq hok (fun d hd=>by rw [hu] at hd;injection hd with hd;subst hd;exact ⟨by simp,by simp⟩) hx hy h
 ·rename_i d h1 h2 h3 h4 hu
  rw [ebin_aeqBin (ok:=ok) hu h3 h4] at h
  exact bin_eq hok (fun d' hd=>by rw [hu] at hd;injection hd with hd;subst hd;exact ⟨h2,h1⟩) hx hy h
 ·cases h

theorem aun_sound {op:UnOp} {x r:AV} {u:Value} (hx:VRel S x u) (h:aun op x=some r):∃ v',(Op.unary op u).run P S.w=.ok v' S.w∧VRel S r v':=by
 unfold aun at h
 split at h
 ·cases hx;injection h with h;subst h;exact ⟨_,rfl,.bool _⟩
 ·cases hx;injection h with h;subst h;exact ⟨_,rfl,.int _ _⟩
 ·cases hx with | int k n =>
  obtain ⟨v',h1,h2⟩:=intbin_sound (P:=P) (S:=S) h 0
  refine ⟨v',?_,h2⟩
  rw [← h1]
  simp [Op.unary,binOp]
 ·cases h

theorem fold_get (off : Nat) : ∀ (cs : List Value) (n : Nat) (arr : Array Value) (i : Nat),
    ((cs.zipIdx n).foldl (fun (a:Array Value) (p:Value × Nat)=>a.setIfInBounds (off+p.2) p.1) arr)[i]? =
     if off+n≤i∧i < off+n+cs.length∧i < arr.size then cs[i - off - n]? else arr[i]?:=by
 intro cs
 induction cs with
 | nil=>intro n arr i;simp;omega
 | cons c cs ih =>
  intro n arr i
  rw [List.zipIdx_cons,List.foldl_cons,ih]
  simp only [Array.size_setIfInBounds,List.length_cons]
  by_cases h:off+n=i
  ·subst h
   rw [if_neg (by omega)]
   by_cases hs:off+n < arr.size
   ·rw [if_pos (by omega)]
    simp [hs]
   ·rw [if_neg (by omega),Array.getElem?_eq_none (by simp;omega),Array.getElem?_eq_none (by omega)]
  ·rw [Array.getElem?_setIfInBounds_ne h]
   by_cases h2:off+(n+1)≤i∧i < off+(n+1)+cs.length∧i < arr.size
   ·rw [if_pos h2,if_pos (by omega)]
    rw [show i - off - n=(i - off - (n+1))+1 by omega,List.getElem?_cons_succ]
   ·rw [if_neg h2,if_neg (by omega)]
theorem fold_size (off : Nat) : ∀ (cs : List (Value × Nat)) (arr : Array Value),
    (cs.foldl (fun (a:Array Value) (p:Value × Nat)=>a.setIfInBounds (off+p.2) p.1) arr).size=arr.size:=by
 intro cs
 induction cs with
 | nil=>intro arr;rfl
 | cons c cs ih=>intro arr;rw [List.foldl_cons,ih];simp

theorem splice_length (l:List AV) (off:Nat) (cs:List AV) (h:off+cs.length≤l.length):(splice l off cs).length=l.length:=by
 simp [splice];omega
theorem splice_get (l : List AV) (off : Nat) (cs : List AV) (h : off + cs.length ≤ l.length) (i : Nat) :
    (splice l off cs)[i]?=if off≤i∧i < off+cs.length then cs[i - off]? else l[i]?:=by
 unfold splice
 by_cases h1:i < off
 ·rw [if_neg (by omega),List.getElem?_append_left (by simp;omega),List.getElem?_append_left (by simp;omega),List.getElem?_take_of_lt h1]
 ·by_cases h2:i < off+cs.length
  ·rw [if_pos (by omega),List.getElem?_append_left (by simp;omega),List.getElem?_append_right (by simp;omega)]
   congr 1
   simp;omega
  ·rw [if_neg (by omega),List.getElem?_append_right (by simp;omega),List.getElem?_drop]
   congr 1
   simp;omega

theorem all_splice {l cs:List AV} {off:Nat} (h:l.all AV.isCell=true) (hc:cs.all AV.isCell=true):(splice l off cs).all AV.isCell=true:=by
 rw [List.all_eq_true] at h hc ⊢
 intro x hx
 simp only [splice,List.mem_append] at hx
 rcases hx with (hx | hx) | hx
 ·exact h x (List.mem_of_mem_take hx)
 ·exact hc x hx
 ·exact h x (List.mem_of_mem_drop hx)
theorem CellsRel.splice {l : List AV} {c : Array Value} (h : CellsRel S l c) {cs : List AV} {d : Array Value} (hd : CellsRel S cs d) {off : Nat} (ho : off + cs.length ≤ l.length) :
    CellsRel S (splice l off cs) (d.zipIdx.foldl (fun (a:Array Value) (p:Value × Nat)=>a.setIfInBounds (off+p.2) p.1) c):=by
 rw [← Array.foldl_toList,Array.toList_zipIdx]
 refine ⟨by rw [fold_size,splice_length l off cs ho];exact h.size,fun i x v hx hv=>?_,all_splice h.cell hd.cell⟩
 rw [fold_get off d.toList 0 c i] at hv
 rw [splice_get l off cs ho] at hx
 have hl:d.toList.length=cs.length:=by rw [Array.length_toList];exact hd.size
 have hc:=h.size
 by_cases hi:off≤i∧i < off+cs.length
 ·rw [if_pos hi] at hx
  rw [if_pos (by omega)] at hv
  simp only [Nat.sub_zero,Array.getElem?_toList] at hv
  exact hd.rel _ x v hx hv
 ·rw [if_neg hi] at hx
  rw [if_neg (by omega)] at hv
  exact h.rel i x v hx hv

theorem mapM_some {α β:Type} {f:α→Option β}:∀ {l:List α} {r:List β},l.mapM f=some r→r.length=l.length∧∀ (i:Nat) (a:α),l[i]?=some a→∃ b,f a=some b∧r[i]?=some b:=by
 intro l
 induction l with
 | nil=>intro r h;simp at h;subst h;simp
 | cons x l ih =>
  intro r h
  rw [List.mapM_cons] at h
  cases hx:f x with
  | none=>simp [hx] at h
  | some b =>
   cases hl:l.mapM f with
   | none=>simp [hx,hl] at h
   | some bs =>
    simp [hx,hl] at h
    subst h
    obtain ⟨h1,h2⟩:=ih hl
    refine ⟨by simp [h1],fun i a hi=>?_⟩
    cases i with
    | zero=>simp at hi;subst hi;exact ⟨b,hx,rfl⟩
    | succ i=>simpa using h2 i a (by simpa using hi)

theorem afill_sound {place : Nat → Option (Nat × Nat)} : ∀ (parts : List (Nat × AV)) (vals : List (Nat × Value)) (ps : List (Nat × Nat × AV)) (l r : List AV) (c : Array Value),
    parts.length=vals.length→ps.length=parts.length →
    (∀ (j:Nat) (p:Nat × AV) (q:Nat × Value),parts[j]?=some p→vals[j]?=some q→p.1=q.1∧VRel S p.2 q.2) →
    (∀ (j:Nat) (p:Nat × AV),parts[j]?=some p→∃ o,place p.1=some o∧ps[j]?=some (o.1,o.2,p.2)) →
    CellsRel S l c→afill ps l=some r→∃ d,Instr.fill place c vals=some d∧CellsRel S r d:=by
 intro parts
 induction parts with
 | nil =>
  intro vals ps l r c hl hp _ _ hc h
  have h1:vals=[]:=List.eq_nil_of_length_eq_zero (by simpa using hl.symm)
  have h2:ps=[]:=List.eq_nil_of_length_eq_zero (by simpa using hp)
  subst h1 h2
  simp [afill] at h
  subst h
  exact ⟨c,rfl,hc⟩
 | cons p parts ih =>
  intro vals ps l r c hl hp hrel hpl hc h
  cases vals with
  | nil=>simp at hl
  | cons q vals =>
   cases ps with
   | nil=>simp at hp
   | cons p0 ps =>
    obtain ⟨h1,h2⟩:=hrel 0 p q rfl rfl
    obtain ⟨i,v⟩:=q
    obtain ⟨i',a⟩:=p
    simp only at h1 h2
    subst h1
    obtain ⟨⟨off,size⟩,ho,hp0⟩:=hpl 0 (i',a) rfl
    simp only [List.getElem?_cons_zero,Option.some.injEq] at hp0
    subst hp0
    unfold afill at h
    split at h
    ·rename_i hcond
     obtain ⟨hkn,hsz,hof⟩:=hcond
     have hv:=h2.cells hkn
     unfold Instr.fill
     simp only at ho
     simp only [ho]
     have hs1:v.cells.size=size:=by rw [hv.size];exact hsz
     have hs2:=hc.size
     rw [if_neg (by simp;omega)]
     refine ih vals ps _ r _ (by simpa using hl) (by simpa using hp) (fun j p q hp hq=>hrel (j+1) p q (by simpa using hp) (by simpa using hq))
      (fun j p hp=>by simpa using hpl (j+1) p (by simpa using hp)) ?_ h
     exact hc.splice hv (by omega)
    ·cases h
end
end Go.Am
