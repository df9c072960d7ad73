/-
  THE ABSTRACT MACHINE, part G: constants, structs and slices that are built, lengths, conversions; what looks at no object.
-/
import Derived.Test.YtgglgbfolgcaiaaGreatDoorHmFx
namespace Go.Am
open RowKit

section
variable {P:Program} {S:Snap} {W0:World} {H:Hp}

theorem ofConst_sound:∀ (n:Nat) (v:Value),VRel S (ofConst n v) v:=by
 intro n
 induction n with
 | zero =>
  intro v
  unfold ofConst
  split <;> first
   | exact .undef _
   | exact .bool _
   | exact .int _ _
   | exact .str _ _ rfl
   | exact .nilp
   | exact .nils
   | exact .nilm
   | exact .nilf
   | exact .nili
   | (rename_i h;cases h)
 | succ n ih =>
  have hl:∀ (cs:Array Value) (i:Nat) (c:AV) (v:Value),(cs.toList.map (ofConst n))[i]?=some c→cs[i]?=some v→VRel S c v:=by
   intro cs i c v hi hv
   rw [List.getElem?_map,Array.getElem?_toList,hv] at hi
   simp at hi;subst hi
   exact ih v
  intro v
  unfold ofConst
  split <;> first
   | exact .undef _
   | exact .bool _
   | exact .int _ _
   | exact .str _ _ rfl
   | exact .nilp
   | exact .nils
   | exact .nilm
   | exact .nilf
   | exact .nili
   | (rename_i n' cs h;injection h with h;subst h;split <;> first | exact .agg _ _ ‹_› (by simp) (hl cs) | exact .undef _)
   | (rename_i n' cs h;injection h with h;subst h;exact .tuple _ _ (by simp) (hl cs))
   | (rename_i n' t v h;injection h with h;subst h;exact .iface t _ _ (ih v))
   | (rename_i n' fn f c h;injection h with h;subst h;exact .fn fn _ _ _ _ (by simp) (by simp) (hl f) (hl c))

theorem zeroT_sound {t:TypeId} {z:AV} (h:zeroT P t=some z):∃ zc,(∀ w:World,(zeroValue t).run P w=.ok zc w)∧∀ S:Snap,VRel S z zc:=by
 unfold zeroT at h
 cases hi:P.info? t with
 | none=>simp [hi] at h
 | some i =>
  simp only [hi] at h
  cases hz:i.zero with
  | none=>simp [hz] at h
  | some zc =>
   simp [hz] at h
   subst h
   exact ⟨zc,fun w=>by simp [zeroValue,typeInfo,hi,hz],fun S=>ofConst_sound 3 zc⟩

theorem run_mapM_list {α β:Type} {f:α→Option β} {g:α→Sem β} {w:World} (hfg:∀ a b,f a=some b→(g a).run P w=.ok b w):∀ {l:List α} {r:List β},l.mapM f=some r→(l.mapM g).run P w=.ok r w:=by
 intro l
 induction l with
 | nil=>intro r h;simp at h;subst h;rfl
 | cons x l ih =>
  intro r h
  rw [List.mapM_cons] at h
  cases hx:f x with
  | none=>simp [hx] at h
  | some b =>
   cases hl:l.mapM f with
   | none=>simp [hx,hl] at h
   | some bs =>
    simp [hx,hl] at h
    subst h
    rw [List.mapM_cons]
    simp [hfg x b hx,ih hl]
theorem run_mapM_array {α β : Type} {f : α → Option β} {g : α → Sem β} {w : World} (hfg : ∀ a b, f a = some b → (g a).run P w = .ok b w) {l : Array α} {r : List β} (h : l.toList.mapM f = some r) :
    (l.mapM g).run P w=.ok r.toArray w:=by
 rw [Array.mapM_eq_mapM_toList,Sem.run_map,run_mapM_list hfg h]
 rfl

theorem parts_rel {ps : Array (Nat × Operand)} {ev : Operand → AV} {ρ : Operand → Value} (hev : ∀ x, VRel S (ev x) (ρ x)) (j : Nat) (p : Nat × AV) (q : Nat × Value)
    (hp:(ps.toList.map fun p=>(p.1,ev p.2))[j]?=some p) (hq:((ps.map fun (i,x)=>(i,ρ x)).toList)[j]?=some q):p.1=q.1∧VRel S p.2 q.2:=by
 simp only [Array.toList_map,List.getElem?_map,Option.map_eq_some_iff] at hp hq
 obtain ⟨a,ha,rfl⟩:=hp
 obtain ⟨b,hb,rfl⟩:=hq
 rw [ha] at hb
 injection hb with hb
 subst hb
 exact ⟨rfl,hev _⟩

theorem abuild_sound {t : TypeId} {ps : Array (Nat × Operand)} {ev : Operand → AV} {ρ : Operand → Value} (hev : ∀ x, VRel S (ev x) (ρ x)) {r : AV}
    (h:abuild P t (ps.toList.map fun p=>(p.1,ev p.2))=some r):∃ v',(Instr.build t (ps.map fun (i,x)=>(i,ρ x))).run P S.w=.ok v' S.w∧VRel S r v':=by
 unfold abuild at h
 split at h
 ·rename_i zero fs hz hu
  obtain ⟨zc,hzr,hzv⟩:=zeroT_sound hz
  have hzc:=hzv S
  cases hzc with | agg _ zarr hz0 hz1 hz2 =>
  split at h
  ·rename_i places hpl
   split at h
   ·rename_i pss hpss
    cases hf:afill pss zero with
    | none=>simp [hf] at h
    | some cells =>
     simp [hf] at h
     subst h
     have hrun:=run_mapM_array (P:=P) (w:=S.w) (g:=fun f:Field=>do pure (f.offset,← sizeOf f.type)) (fun f b hb=>by
      cases hs:szT P f.type with
      | none=>simp [hs] at hb
      | some n=>simp [hs] at hb;subst hb;simp [run_szT hs]) hpl
     obtain ⟨q1,q2⟩:=mapM_some hpss
     obtain ⟨d,hd1,hd2⟩:=afill_sound (S:=S) (place:=fun i=>places.toArray[i]?) _ _ pss zero cells zarr (by simp) q1 (parts_rel hev) (fun j p hp=>by
      obtain ⟨b,hb1,hb2⟩:=q2 j p hp
      simp only [Option.map_eq_some_iff] at hb1
      obtain ⟨o,ho,rfl⟩:=hb1
      exact ⟨o,by simpa using ho,hb2⟩) ⟨hz1,hz2,hz0⟩ hf
     exact ⟨.agg d,by unfold Instr.build;simp only [Sem.run_bind,hzr,Result.andThen_ok,run_underlying hu,hrun,Value.cells,hd1,Sem.run_pure],.agg _ _ hd2.cell hd2.size hd2.rel⟩
   ·cases h
  ·cases h
 ·rename_i zero n e hz hu
  obtain ⟨zc,hzr,hzv⟩:=zeroT_sound hz
  have hzc:=hzv S
  cases hzc with | agg _ zarr hz0 hz1 hz2 =>
  split at h
  ·rename_i size hs
   cases hf:afill (List.map (fun p=>(p.1 * size,size,p.2)) (ps.toList.map fun p=>(p.1,ev p.2))) zero with
   | none=>simp only [hf] at h;cases h
   | some cells =>
    simp only [hf,Option.map_some,Option.some.injEq] at h
    subst h
    obtain ⟨d,hd1,hd2⟩:=afill_sound (S:=S) (place:=fun i=>some (i * size,size)) _ (ps.map fun (i,x)=>(i,ρ x)).toList _ zero cells zarr (by simp) (by simp) (parts_rel hev) (fun j p hp=>by
     refine ⟨_,rfl,?_⟩
     rw [List.getElem?_map,hp];rfl) ⟨hz1,hz2,hz0⟩ hf
    exact ⟨.agg d,by unfold Instr.build;simp only [Sem.run_bind,hzr,Result.andThen_ok,run_underlying hu,run_szT hs,Value.cells,hd1,Sem.run_pure],.agg _ _ hd2.cell hd2.size hd2.rel⟩
  ·cases h
 ·cases h

def flat (l:List AV):List AV:=(l.map AV.cells).flatten

theorem flat_length {k:Nat}:∀ {l:List AV},(∀ e ∈ l,e.cells.length=k)→(flat l).length=l.length * k:=by
 intro l
 induction l with
 | nil=>intro _;simp [flat]
 | cons e l ih =>
  intro h
  have h1:=h e (by simp)
  have h2:=ih (fun e he=>h e (by simp [he]))
  simp only [flat,List.map_cons,List.flatten_cons,List.length_append,List.length_cons] at h2 ⊢
  rw [h1,h2,Nat.add_mul];omega
theorem flat_get {k:Nat}:∀ {l:List AV},(∀ e ∈ l,e.cells.length=k)→∀ (j i:Nat) (e:AV),l[j]?=some e→i < k→(flat l)[j * k+i]?=e.cells[i]?:=by
 intro l
 induction l with
 | nil=>intro _ j i e h;simp at h
 | cons a l ih =>
  intro h j i e hj hi
  have h1:=h a (by simp)
  have hf:flat (a :: l)=a.cells++flat l:=by simp [flat]
  rw [hf]
  cases j with
  | zero =>
   simp at hj;subst hj
   rw [List.getElem?_append_left (by omega)]
   simp
  | succ j =>
   rw [List.getElem?_append_right (by rw [h1,Nat.add_mul];omega)]
   rw [show (j+1) * k+i - a.cells.length=j * k+i by rw [h1,Nat.add_mul];omega]
   exact ih (fun e he=>h e (by simp [he])) j i e (by simpa using hj) hi
theorem flat_set {k:Nat} {l:List AV} (h:∀ e ∈ l,e.cells.length=k) {j:Nat} {v:AV} (hj:j < l.length) (hv:v.cells.length=k):flat (l.set j v)=splice (flat l) (j * k) v.cells:=by
 have hs:∀ e ∈ l.set j v,e.cells.length=k:=fun e he=>by
  rcases List.mem_or_eq_of_mem_set he with h' | rfl
  ·exact h e h'
  ·exact hv
 have hjk:j * k+k≤l.length * k:=by
  have:(j+1) * k≤l.length * k:=Nat.mul_le_mul_right k hj
  rw [Nat.add_mul] at this;omega
 apply List.ext_getElem?
 intro i
 rw [splice_get _ _ _ (by rw [flat_length h,hv];exact hjk)]
 rcases Nat.eq_zero_or_pos k with rfl | hk
 ·have h1:(flat (l.set j v))=[]:=List.eq_nil_of_length_eq_zero (by rw [flat_length hs];simp)
  have h2:(flat l)=[]:=List.eq_nil_of_length_eq_zero (by rw [flat_length h];simp)
  rw [h1,h2,hv]
  simp
 ·by_cases hlt:i < l.length * k
  ·obtain ⟨q,r,hr,rfl⟩:∃ q r,r < k∧i=q * k+r:=⟨i / k,i % k,Nat.mod_lt _ hk,by rw [Nat.mul_comm];exact (Nat.div_add_mod i k).symm⟩
   have hq:q < l.length:=by
    rcases Nat.lt_or_ge q l.length with h' | h'
    ·exact h'
    ·have:=Nat.mul_le_mul_right k h';omega
   by_cases hqj:q=j
   ·subst hqj
    rw [flat_get hs q r v (by simp [hq]) hr,if_pos (by omega)]
    congr 1;omega
   ·have hne : ¬ (j * k ≤ q * k + r ∧ q * k + r < j * k + v.cells.length) := by
       rintro ⟨h1,h2⟩
       rw [hv] at h2
       rcases Nat.lt_or_gt_of_ne hqj with h' | h'
       ·have:=Nat.mul_le_mul_right k (Nat.succ_le_of_lt h');rw [Nat.succ_mul] at this;omega
       ·have:=Nat.mul_le_mul_right k (Nat.succ_le_of_lt h');rw [Nat.succ_mul] at this;omega
    rw [if_neg hne,flat_get hs q r l[q] (by rw [List.getElem?_set_ne (Ne.symm hqj)];simp [hq]) hr,flat_get h q r l[q] (by simp [hq]) hr]
  ·have h2:¬ (j * k≤i∧i < j * k+v.cells.length):=by rw [hv];omega
   rw [if_neg h2,List.getElem?_eq_none (by rw [flat_length hs];simpa using hlt),List.getElem?_eq_none (by rw [flat_length h];omega)]

theorem flat_cell {l:List AV} (h:(flat l).all AV.isCell=true) {e:AV} (he:e ∈ l):e.cells.all AV.isCell=true:=by
 rw [List.all_eq_true] at h ⊢
 exact fun x hx=>h x (List.mem_flatten.2 ⟨e.cells,List.mem_map.2 ⟨e,he,rfl⟩,hx⟩)
theorem cell_flat {l:List AV} (h:∀ e ∈ l,e.cells.all AV.isCell=true):(flat l).all AV.isCell=true:=by
 rw [List.all_eq_true]
 intro x hx
 obtain ⟨c,hc,hxc⟩:=List.mem_flatten.1 hx
 obtain ⟨e,he,rfl⟩:=List.mem_map.1 hc
 exact List.all_eq_true.1 (h e he) x hxc

theorem vs_of_block {k : Nat} {tok : Tok} {l : List AV} {b off cap : Nat} {c : Array Value} {el : TypeId} {fz : Nat × Nat} (hb : S.w.heap[b]? = some (.cells c el fz)) (hcap : l.length ≤ cap) (hk : ∀ e ∈ l, e.cells.length = k) (hcell : (flat l).all AV.isCell = true)
    (hp:∀ i,i < l.length * k→S.pub b (off+i)) (hsz:off+l.length * k≤c.size) (hr:∀ (i:Nat) (x:AV) (v:Value),(flat l)[i]?=some x→c[off+i]?=some v→VRel S x v)
    (ht:TokOk S k tok l.length b off cap):VRel S (.vs k tok l) (.slice (some ⟨b,off,none⟩) l.length cap):=by
 have hin:∀ j i,j < l.length→i < k→j * k+i < l.length * k:=fun j i hj hi=>by
  have:=Nat.mul_le_mul_right k (Nat.succ_le_of_lt hj);rw [Nat.succ_mul] at this;omega
 refine .vs k tok l b off cap (fun j i=>c.getD (off+(j * k+i)) undef) hcap (fun e he=>⟨hk e he,flat_cell hcell he⟩) (fun j i hj hi=>⟨?_,?_⟩) (fun j e i x he hx=>?_) ht none (.inl rfl)
 ·have:=hin j i hj hi
  rw [show off+j * k+i=off+(j * k+i) by omega]
  have hlt:off+(j * k+i) < c.size:=by omega
  simp [World.cell?,hb,hlt]
 ·rw [show off+j * k+i=off+(j * k+i) by omega]
  exact hp _ (hin j i hj hi)
 ·have hjl : j < l.length := by
     rcases Nat.lt_or_ge j l.length with h' | h'
     ·exact h'
     ·rw [List.getElem?_eq_none h'] at he;cases he
  have hik:i < k:=by
   rw [← hk e (List.mem_of_getElem? he)]
   rcases Nat.lt_or_ge i e.cells.length with h' | h'
   ·exact h'
   ·rw [List.getElem?_eq_none h'] at hx;cases hx
  have:=hin j i hjl hik
  have hlt:off+(j * k+i) < c.size:=by omega
  refine hr (j * k+i) x _ (by rw [flat_get hk j i e he hik];exact hx) ?_
  simp [hlt]

theorem grow_heap (S:Snap) (o:Obj):(S.grow o).w.heap[S.w.heap.size]?=some o:=heap_alloc_new S.w o

theorem setElems_sound {size : Nat} : ∀ (parts : List (Nat × AV)) (vals : List (Nat × Value)) (l r : List AV) (c : Array Value), parts.length = vals.length →
    (∀ (j:Nat) (p:Nat × AV) (q:Nat × Value),parts[j]?=some p→vals[j]?=some q→p.1=q.1∧VRel S p.2 q.2) →
    (∀ e ∈ l,e.cells.length=size)→CellsRel S (flat l) c→setElems size parts l=some r →
    ∃ d,Instr.fill (fun i=>some (i * size,size)) c vals=some d∧CellsRel S (flat r) d∧(∀ e ∈ r,e.cells.length=size)∧r.length=l.length:=by
 intro parts
 induction parts with
 | nil =>
  intro vals l r c hl _ hk hc h
  have h1:vals=[]:=List.eq_nil_of_length_eq_zero (by simpa using hl.symm)
  subst h1
  simp [setElems] at h
  subst h
  exact ⟨c,rfl,hc,hk,rfl⟩
 | cons p parts ih =>
  intro vals l r c hl hrel hk hc h
  cases vals with
  | nil=>simp at hl
  | cons q vals =>
   obtain ⟨h1,h2⟩:=hrel 0 p q rfl rfl
   obtain ⟨i,v⟩:=q
   obtain ⟨i',a⟩:=p
   simp only at h1 h2
   subst h1
   unfold setElems at h
   split at h
   ·rename_i hcond
    obtain ⟨hkn,hsz,hlt⟩:=hcond
    have hv:=h2.cells hkn
    have hs1:v.cells.size=size:=by rw [hv.size];exact hsz
    have hs2:=hc.size
    have hjk:i' * size+size≤l.length * size:=by
     have:=Nat.mul_le_mul_right size (Nat.succ_le_of_lt hlt);rw [Nat.succ_mul] at this;exact this
    rw [flat_length hk] at hs2
    unfold Instr.fill
    simp only
    rw [if_neg (by simp;omega)]
    have hset:∀ e ∈ l.set i' a,e.cells.length=size:=fun e he=>by
     rcases List.mem_or_eq_of_mem_set he with h' | rfl
     ·exact hk e h'
     ·exact hsz
    obtain ⟨d,hd1,hd2,hd3,hd4⟩:=ih vals (l.set i' a) r _ (by simpa using hl) (fun j p q hp hq=>hrel (j+1) p q (by simpa using hp) (by simpa using hq)) hset (by
     rw [flat_set hk hlt hsz]
     exact hc.splice hv (by rw [flat_length hk];omega)) h
    exact ⟨d,hd1,hd2,hd3,by simpa using hd4⟩
   ·cases h

theorem flat_replicate (z:AV):∀ n,flat (List.replicate n z)=(List.replicate n z.cells).flatten:=by
 intro n;simp [flat]
theorem zeroRow_rel {z : AV} {zc : Value} {k : Nat} (hz : VRel S z zc) (hkn : z.known = true) (hk : z.cells.length = k) (h0 : 0 < k) (n : Nat) :
    CellsRel S (flat (List.replicate n z)) ((Array.range (n * k)).map (zc.cells[· % zc.cells.size]!)):=by
 have hc:=hz.cells hkn
 have hall:∀ e ∈ List.replicate n z,e.cells.length=k:=fun e he=>by rw [List.eq_of_mem_replicate he];exact hk
 refine ⟨by simp [flat_length hall],fun i x v hx hv=>?_,cell_flat fun e he=>by rw [List.eq_of_mem_replicate he];exact hc.cell⟩
 have hlt:i < n * k:=by
  rcases Nat.lt_or_ge i (n * k) with h' | h'
  ·exact h'
  ·rw [List.getElem?_eq_none (by rw [flat_length hall];simpa using h')] at hx;cases hx
 obtain ⟨q,r,hr,rfl⟩:∃ q r,r < k∧i=q * k+r:=⟨i / k,i % k,Nat.mod_lt _ h0,by rw [Nat.mul_comm];exact (Nat.div_add_mod i k).symm⟩
 have hq:q < n:=by
  rcases Nat.lt_or_ge q n with h' | h'
  ·exact h'
  ·have:=Nat.mul_le_mul_right k h';omega
 rw [flat_get hall q r z (by simp [hq]) hr] at hx
 have hsz:zc.cells.size=k:=by rw [hc.size,hk]
 have hmod:(q * k+r) % zc.cells.size=r:=by rw [hsz,Nat.mul_comm,Nat.mul_add_mod];exact Nat.mod_eq_of_lt hr
 simp only [Array.getElem?_map,Array.getElem?_range,hlt,Option.map_some,Option.some.injEq,if_true,hmod] at hv
 refine hc.rel r x v hx ?_
 rw [← hv]
 have:r < zc.cells.size:=by omega
 simp [this]

theorem elemT_some {t e:TypeId} (h:elemT P t=some e):P.underlying t=some (.slice e):=by
 unfold elemT at h
 split at h
 ·injection h with h;subst h;assumption
 ·cases h

theorem abuildS_sound {t : TypeId} {n : Nat} {ps : Array (Nat × Operand)} {ev : Operand → AV} {ρ : Operand → Value} (hev : ∀ x, VRel S (ev x) (ρ x)) {r : AV}
    (h:abuildS P t n (ps.toList.map fun p=>(p.1,ev p.2))=some r):Yields P W0 S H (Instr.buildSlice t n (ps.map fun (i,x)=>(i,ρ x))) r H:=by
 intro hI
 unfold abuildS at h
 split at h
 ·rename_i e he
  have hu:=elemT_some he
  split at h
  ·rename_i size z hs hz
   split at h
   ·rename_i hc
    obtain ⟨hc1,hc2,hc3,hc4⟩:=hc
    obtain ⟨zc,hzr,hzv⟩:=zeroT_sound hz
    cases hf:setElems size (ps.toList.map fun p=>(p.1,ev p.2)) (List.replicate n z) with
    | none=>simp [hf] at h
    | some l =>
     simp [hf] at h
     subst h
     obtain ⟨d,hd1,hd2,hd3,hd4⟩:=setElems_sound (S:=S) _ _ (List.replicate n z) l _ (by simp) (parts_rel hev)
      (fun e he=>by rw [List.eq_of_mem_replicate he];exact hc3) (zeroRow_rel (hzv S) hc2 hc3 hc4 n) hf
     simp only [List.length_replicate] at hd4
     refine ⟨.slice (some ⟨S.w.heap.size,0,none⟩) n n,S.grow (.cells d e),?_,Ext.grow hI _,hI.grow _,?_⟩
     ·have h1:¬ (n * size > 2 ^ 24):=by omega
      have hgo : ∀ zr : Array Value, Instr.fill (fun i => some (i * size, size)) ((Array.range (n * size)).map (zr[· % zr.size]!)) (ps.map fun ((i, x) : Nat × Operand) => (i, ρ x)).toList = some d →
          (match Instr.fill (fun i=>some (i * size,size)) ((Array.range (n * size)).map (zr[· % zr.size]!)) (ps.map fun ((i,x):Nat × Operand)=>(i,ρ x)).toList with
           | some cells=>(do pure (.slice (some (← newRow e cells)) n n):Sem Value)
           | _ => stuck "buildSlice: a part of the wrong size").run P S.w = .ok (.slice (some ⟨S.w.heap.size, 0, none⟩) n n) (S.grow (.cells d e)).w := by
       intro zr hz
       rw [hz]
       rfl
      unfold Instr.buildSlice
      simp only [Sem.run_bind,run_underlying hu,Result.andThen_ok,run_szT hs]
      rw [if_neg h1]
      by_cases h0:n * size=0
      ·simp only [h0,if_true,Sem.run_pure,Result.andThen_ok,Sem.run_bind]
       have e1:∀ f:Nat→Value,(Array.range 0).map f=#[]:=fun f=>by simp
       have:=hgo #[] (by rw [h0,e1] at hd1 ⊢;exact hd1)
       rw [h0] at this
       exact this
      ·simp only [h0,if_false,Sem.run_bind,hzr,Sem.run_pure,Result.andThen_ok]
       exact hgo _ hd1
     ·rw [← hd4]
      have hx:=Ext.grow hI (.cells d e)
      refine vs_of_block (S:=S.grow (.cells d e)) (c:=d) (el:=e) (fz:=(0,0)) (grow_heap S _) (Nat.le_refl _) hd3 hd2.cell (fun i _=>.inr rfl) ?_ (fun i x v hi hv=>?_) ?_
      ·have:=hd2.size;rw [flat_length hd3] at this;omega
      ·rw [Nat.zero_add] at hv
       exact (hd2.rel i x v hi hv).mono hx
      ·simp [TokOk]
   ·cases h
  ·cases h
 ·cases h

theorem alen_sound {t:TypeId} {x r:AV} {u:Value} (hx:VRel S x u) (h:alen P t x=some r) (ty:TypeId):∃ v',(Builtin.len_ #[t] ty #[u]).run P S.w=.ok v' S.w∧VRel S r v':=by
 unfold alen at h
 cases hu:P.underlying t with
 | none=>simp [hu] at h
 | some d =>
  rw [hu] at h
  have hun:=run_underlying hu S.w
  simp only at h
  unfold alenD at h
  split at h
  ·split at h
   ·injection h with h;subst h
    cases hx with | str _ b hb =>
    subst hb
    refine ⟨goInt b.size,by simp [Builtin.len_,hun],?_⟩
    rw [size_toList]
    exact .int _ _
   ·cases h
  ·rename_i n e
   injection h with h;subst h
   exact ⟨goInt n,by simp [Builtin.len_,hun],.int _ _⟩
  ·split at h
   ·injection h with h;subst h
    cases hx
    exact ⟨goInt 0,by simp [Builtin.len_,hun],.int _ _⟩
   ·rename_i k tok l
    injection h with h;subst h
    cases hx
    exact ⟨goInt l.length,by simp [Builtin.len_,hun],.int _ _⟩
   ·rename_i ag k o off len cap
    injection h with h;subst h
    cases hx
    exact ⟨goInt len,by simp [Builtin.len_,hun],.int _ _⟩
   ·rename_i ag k o e len
    injection h with h;subst h
    cases hx
    exact ⟨goInt len,by simp [Builtin.len_,hun],.int _ _⟩
   ·cases h
  ·cases h

theorem amin2_sound {x y r:AV} {u v:Value} (hx:VRel S x u) (hy:VRel S y v) (h:amin2 x y=some r) (a:Array TypeId) (ty:TypeId):∃ v',(Builtin.min_ a ty #[u,v]).run P S.w=.ok v' S.w∧VRel S r v':=by
 unfold amin2 at h
 split at h
 ·split at h
  ·rename_i hk;subst hk
   injection h with h;subst h
   cases hx;cases hy
   exact ⟨_,by simp [Builtin.min_,Builtin.min2],.int _ _⟩
  ·cases h
 ·cases h
theorem amax2_sound {x y r:AV} {u v:Value} (hx:VRel S x u) (hy:VRel S y v) (h:amax2 x y=some r) (a:Array TypeId) (ty:TypeId):∃ v',(Builtin.max_ a ty #[u,v]).run P S.w=.ok v' S.w∧VRel S r v':=by
 unfold amax2 at h
 split at h
 ·split at h
  ·rename_i hk;subst hk
   injection h with h;subst h
   cases hx;cases hy
   exact ⟨_,by simp [Builtin.max_,Builtin.max2],.int _ _⟩
  ·cases h
 ·cases h
end
end Go.Am
