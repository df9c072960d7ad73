/-
  Dividing lines into chunks, in the machine, both ways.
-/
import Derived.Test.YtehanadfidoodaaGreatDoorNkSmx
import Derived.Test.YtehanadfidoodaaGreatDoorNkQbx
import Derived.Test.YtehanadfidoodaaGreatDoorNkGPx
import Derived.Test.YtehanadfidoodaaGreatDoorNkGF1x
import Derived.Test.YtehanadfidoodaaGreatDoorEmWx
namespace Go.Am
set_option linter.unusedSimpArgs false
set_option linter.unusedVariables false
set_option linter.unusedSectionVars false
set_option maxRecDepth 100000

def cS (s:Str):Int:=(s.length:Int) + 16
theorem costL_bound:∀ (k:List Str),Lens k → 0 ≤ costL cS k ∧ costL cS k ≤ (k.length:Int) * 1048592:=by
  have:∀ (k:List Str) (n:Int),Lens k → n ≤ k.foldl (fun n x=>n + cS x) n ∧ k.foldl (fun n x=>n + cS x) n ≤ n + (k.length:Int) * 1048592:=by
    intro k
    induction k with
    | nil=>intro n _; simp
    | cons s k ih =>
      intro n hL
      have hs:=hL s (by simp)
      obtain ⟨h1,h2⟩:=ih (n + cS s) fun t ht=>hL t (by simp [ht])
      rw [List.foldl_cons]
      simp only [List.length_cons]
      have:cS s = (s.length:Int) + 16:=rfl
      constructor <;> omega
  intro k hk
  have:=this k 0 hk
  unfold costL
  simpa using this
section
variable {mem:Int} {l:List Str}
theorem ck_parts {d:List Str} (hd:CkOk cS mem d (ckRun cS mem d)):(ckRun cS mem d).cur.length ≤ d.length ∧ d.drop (d.length - (ckRun cS mem d).cur.length) = (ckRun cS mem d).cur:=by
  have h:=hd.flat
  generalize (ckRun cS mem d) = s at h
  subst h
  constructor
  · simp
  · rw [List.length_append,Nat.add_sub_cancel,List.drop_append_of_le_length (Nat.le_refl _),List.drop_length]; rfl
theorem ck_len {d:List Str} (hd:CkOk cS mem d (ckRun cS mem d)):(ckRun cS mem d).done.length ≤ d.length:=by
  have h:=hd.flat
  have hne:=hd.ne
  generalize (ckRun cS mem d) = s at h hne
  subst h
  have:∀ (A:List (List Str)),(∀ k ∈ A,k ≠ []) → A.length ≤ A.flatten.length:=by
    intro A
    induction A with
    | nil=>intro _; simp
    | cons k A ih =>
      intro h
      have h1:=ih fun k hk=>h k (by simp [hk])
      have h2:0 < k.length:=List.length_pos_iff.2 (h k (by simp))
      simp only [List.length_cons,List.flatten_cons,List.length_append]
      omega
  have:=this s.done hne
  simp only [List.length_append]
  omega
theorem take_drop_mid {d r:List Str} {i:Nat} (hi:i ≤ d.length):((d ++ r).take d.length).drop i = d.drop i:=by simp
theorem ckStep_old {s:Ck Str} {x:Str} (h:s.cur = [] ∨ s.cost + cS x ≤ mem):ckStep cS mem s x = ⟨s.done,s.cur ++ [x],s.cost + cS x⟩:=by
  unfold ckStep
  rw [if_neg]
  rintro ⟨h1,h2⟩
  rcases h with h | h
  · exact h1 h
  · omega
theorem ckStep_new {s:Ck Str} {x:Str} (h1:s.cur ≠ []) (h2:mem < s.cost + cS x):ckStep cS mem s x = ⟨s.done ++ [s.cur],[x],cS x⟩:=by
  unfold ckStep
  rw [if_pos ⟨h1,h2⟩]
theorem lens_cur {d:List Str} (hL:Lens d) (hd:CkOk cS mem d (ckRun cS mem d)):Lens (ckRun cS mem d).cur:=fun s hs=>hL s (by
  have h:=hd.flat
  rw [← h]
  simp [hs])
theorem split_loop {x : AV} (hx : SS x l) (hL : Lens l) (hl : l.length ≤ 1048576) (H0 : Hp) : ∀ (r d : List Str) (x6 : AV) (H : Hp), l = d ++ r → (∃ o, Rst o H x6 (ckRun cS mem d).done) →
    ∃ y H',runs_Split_L1 (.int .i64 mem) x x6 (.int .i64 ((d.length - (ckRun cS mem d).cur.length:Nat):Int)) (.int .i64 (ckRun cS mem d).cost) x (.int .i64 (l.length:Int)) (.int .i64 (d.length:Int)) H0 H = some (y,H') ∧ LL H' y (ckAll (ckRun cS mem l)):=by
  have hn:=SS.len hx 9
  intro r
  induction r with
  | nil =>
    intro d x6 H hd ⟨o,hr⟩
    rw [List.append_nil] at hd
    subst hd
    have hok:=ck_run cS mem l
    obtain ⟨hp1,hp2⟩:=ck_parts hok
    have hlt:decide ((l.length:Int) < (l.length:Int)) = false:=by simp
    rw [runs_Split_L1_eq]
    simp only [go_sem,hlt,runs_Split_J1_eq,hn,runs_Split_J2_eq]
    by_cases h0:l = []
    · subst h0
      have h1:decide ((0:Int) < ((([]:List Str).length:Nat):Int)) = false:=rfl
      simp only [h1,go_sem]
      exact ⟨_,_,rfl,hr.ll⟩
    · have h1:decide ((0:Int) < (l.length:Int)) = true:=by have:=List.length_pos_iff.2 h0; simp; exact this
      obtain ⟨a,q1,q2⟩:=hx.cut (i:=l.length - (ckRun cS mem l).cur.length) (j:=l.length) (by omega) (Nat.le_refl _)
      rw [List.take_length,hp2] at q2
      have hone:(setElems 1 [(0,a)] [AV.nils]).map (AV.vs 1 .clip) = some (.vs 1 .clip [a]):=by
        simp only [setElems,q2.cell.1,q2.cell.2]; rfl
      obtain ⟨o',x',H',p1,p2,p3,p4⟩:=hr.app q2 (by have:=ck_len hok; omega)
      simp only [h1,go_sem,q1,hone,p1]
      refine ⟨_,_,rfl,?_⟩
      unfold ckAll
      rw [if_neg (ck_cur cS mem h0)]
      exact p2.ll
  | cons s r ih =>
    intro d x6 H hd ⟨o,hr⟩
    have hok:=ck_run cS mem d
    obtain ⟨hp1,hp2⟩:=ck_parts hok
    have hLd:Lens d:=fun t ht=>hL t (by rw [hd]; simp [ht])
    have hcb:=costL_bound _ (lens_cur hLd hok)
    rw [← hok.cost] at hcb
    have hs:s.length ≤ 1048576:=hL s (by rw [hd]; simp)
    have hlen:l.length = d.length + (r.length + 1):=by rw [hd]; simp
    have hlt:decide ((d.length:Int) < (l.length:Int)) = true:=by simp; omega
    have hw1:IntKind.i64.wrap ((d.length:Int) + 1) = ((d.length + 1:Nat):Int):=by rw [wrap64 (by omega) (by omega)]; omega
    have hwc:IntKind.i64.wrap ((s.length:Int) + 16) = cS s:=by rw [wrap64 (by omega) (by omega)]; rfl
    have hcs:cS s = (s.length:Int) + 16:=rfl
    have hwa:IntKind.i64.wrap ((ckRun cS mem d).cost + cS s) = (ckRun cS mem d).cost + cS s:=wrap64 (by omega) (by omega)
    have hwz:IntKind.i64.wrap (0 + cS s) = cS s:=by rw [wrap64 (by omega) (by omega)]; omega
    have his:l[d.length]? = some s:=by rw [hd,List.getElem?_append_right (Nat.le_refl _)]; simp
    have hidx:=SS.idx hx his
    have ih':=fun x6 H h=>ih (d ++ [s]) x6 H (by rw [hd]; simp) h
    simp only [ckRun_snoc,List.length_append,List.length_singleton] at ih'
    rw [runs_Split_L1_eq]
    simp only [go_sem,hlt,runs_Split_J3_eq,hidx,aload_vpc,hwc]
    by_cases hc:(ckRun cS mem d).cur = []
    · have hgt:decide (((d.length - (ckRun cS mem d).cur.length:Nat):Int) < (d.length:Int)) = false:=by rw [hc]; simp
      have hst:=ckStep_old (mem:=mem) (s:=ckRun cS mem d) (x:=s) (.inl hc)
      rw [hst] at ih'
      obtain ⟨y,H',m1,m2⟩:=ih' x6 H ⟨o,hr⟩
      refine ⟨y,H',?_,m2⟩
      simp only [hgt,go_sem,runs_Split_J5_eq,hwa,runs_Split_J4_eq,hw1]
      rw [show d.length - (ckRun cS mem d).cur.length = d.length + 1 - ((ckRun cS mem d).cur ++ [s]).length by rw [hc]; simp]
      exact m1
    · have hgt:decide (((d.length - (ckRun cS mem d).cur.length:Nat):Int) < (d.length:Int)) = true:=by have:=List.length_pos_iff.2 hc; simp; omega
      by_cases hm:mem < (ckRun cS mem d).cost + cS s
      · have hst:=ckStep_new (mem:=mem) hc hm
        rw [hst] at ih'
        obtain ⟨a,q1,q2⟩:=hx.cut (i:=d.length - (ckRun cS mem d).cur.length) (j:=d.length) (by omega) (by omega)
        rw [hd,take_drop_mid (by omega),hp2] at q2
        have hone:(setElems 1 [(0,a)] [AV.nils]).map (AV.vs 1 .clip) = some (.vs 1 .clip [a]):=by
          simp only [setElems,q2.cell.1,q2.cell.2]; rfl
        obtain ⟨o',x',H1,p1,p2,p3,p4⟩:=hr.app q2 (by have:=ck_len hok; omega)
        obtain ⟨y,H',m1,m2⟩:=ih' x' H1 ⟨o',p2⟩
        refine ⟨y,H',?_,m2⟩
        simp only [hgt,go_sem,hwa,decide_eq_true hm,q1,hone,p1,runs_Split_J5_eq,hwz,runs_Split_J4_eq,hw1]
        exact m1
      · have hst:=ckStep_old (mem:=mem) (s:=ckRun cS mem d) (x:=s) (.inr (by omega))
        rw [hst] at ih'
        obtain ⟨y,H',m1,m2⟩:=ih' x6 H ⟨o,hr⟩
        refine ⟨y,H',?_,m2⟩
        simp only [hgt,go_sem,hwa,decide_eq_false hm,runs_Split_J5_eq,runs_Split_J4_eq,hw1]
        rw [show d.length - (ckRun cS mem d).cur.length = d.length + 1 - ((ckRun cS mem d).cur ++ [s]).length by simp]
        exact m1
theorem split_flat {x:AV} (hx:SS x l) (hL:Lens l) (hl:l.length ≤ 1048576) (H:Hp):∃ y,flatC C_runs_Split [x,.int .i64 mem] H = some (y,H) ∧ LsV y (ckAll (ckRun cS mem l)):=by
  obtain ⟨x1,h1,h2⟩:=SS.closed hx [] 0 4
  obtain ⟨x2,g1,g2⟩:=clone_flat h2 hl []
  obtain ⟨y,H',m1,m2⟩:=split_loop (mem:=mem) g2 hL hl [] l [] .nils [] rfl ⟨0,.inl ⟨rfl,.inl rfl⟩⟩
  obtain ⟨y',c1,c2⟩:=m2.close0
  refine ⟨y',?_,c2⟩
  refine flatC_cl (args':=[x1,.int .i64 mem]) (H1:=H') (v:=y) (by rw [List.mapM_cons,h1]; rfl) ?_ c1
  rw [F_runs_Split_eq]
  unfold F_runs_Split
  simp only [g1,go_sem,SS.len g2 9]
  exact m1

def ApS (H:Hp) (a:AV) (l:List Str):Prop:=(∃ t e,a = .vs 1 (.own t e) (l.map AV.str) ∧ H[t]? = some (.tok e)) ∨ a = .vs 1 .clip (l.map AV.str)
theorem ApS.ss {H:Hp} {a:AV} {l:List Str} (h:ApS H a l):SS a l:=by
  rcases h with ⟨t,e,rfl,_⟩ | rfl
  · exact .inr ⟨_,rfl⟩
  · exact .inr ⟨_,rfl⟩
theorem ApS.app {H : Hp} {a : AV} {l : List Str} (h : ApS H a l) (s : Str) (hl : l.length ≤ 1048576) :
    ∃ (a':AV) (H':Hp),aappE 1 16 a (.vs 1 .clip [.str s]) H = some (a',H') ∧ ApS H' a' (l ++ [s]) ∧ ∀ (o e:Nat) (es:List AV),H[o]? = some (AObj.row e es) → H'[o]? = some (AObj.row e es):=by
  unfold aappE
  have he:Go.Am.elems 1 (.vs 1 .clip [.str s]) H = some [.str s]:=rfl
  rw [he]
  have hfit:fits ((l.map AV.str).length + [AV.str s].length) 16 = true:=by simp [fits]; omega
  rcases h with ⟨t,e,rfl,ht⟩ | rfl
  · refine ⟨.vs 1 (.own t (e + 1)) (l.map AV.str ++ [.str s]),H.set t (.tok (e + 1)),?_,.inl ⟨t,e + 1,by simp,get_set_eq _ ht⟩,fun o e' es ho=>?_⟩
    · simp only [aappend,hfit,and_self,if_true,ht]
      rw [if_neg (by simp)]
      rfl
    · refine get_set_ne _ (fun he=>?_) ho
      subst he
      rw [ht] at ho
      cases ho
  · refine ⟨.vs 1 (.own H.length ((l.map AV.str).length + 1)) (l.map AV.str ++ [.str s]),H ++ [.tok ((l.map AV.str).length + 1)],?_,.inl ⟨H.length,(l.map AV.str).length + 1,by simp,by simp⟩,fun o e' es ho=>get_push ho _⟩
    simp only [aappend,hfit,and_self,if_true]
    rw [if_neg (by simp)]
    rfl
end
end Go.Am
namespace Go.Am
set_option linter.unusedSimpArgs false
set_option linter.unusedVariables false
set_option linter.unusedSectionVars false
set_option maxRecDepth 100000

theorem samel_loop {x y : AV} {l m : List Str} (hx : SS x l) (hy : SS y m) (hl : l.length ≤ 1048576) (hlm : l.length = m.length) (H0 H : Hp) : ∀ (k i : Nat), l.length - i = k → i ≤ l.length →
    L22_SameLines_L1 x y (.int .i64 (i:Int)) H0 H = some (.bool (decide (l.drop i = m.drop i)),H):=by
  have p3:=SS.len hx 9
  intro k
  induction k with
  | zero =>
    intro i hk hi
    have hlt:decide ((i:Int) < (l.length:Int)) = false:=by simp; omega
    have e:l.drop i = m.drop i:=by rw [List.drop_eq_nil_iff.2 (by omega),List.drop_eq_nil_iff.2 (by omega)]
    rw [L22_SameLines_L1_eq]
    simp only [go_sem,p3,hlt,L22_SameLines_J2_eq,decide_eq_true e]
  | succ k ih =>
    intro i hk hi
    have hlt:decide ((i:Int) < (l.length:Int)) = true:=by simp; omega
    have hw:IntKind.i64.wrap ((i:Int) + 1) = ((i + 1:Nat):Int):=by rw [wrap64 (by omega) (by omega)]; omega
    have h1:=SS.idx hx (List.getElem?_eq_getElem (show i < l.length by omega))
    have h2:=SS.idx hy (List.getElem?_eq_getElem (show i < m.length by omega))
    have hsb:sbin .neq (.str l[i]) (.str m[i]) = some (.bool (l[i] != m[i])):=rfl
    rw [L22_SameLines_L1_eq,List.drop_eq_getElem_cons (show i < l.length by omega),List.drop_eq_getElem_cons (show i < m.length by omega)]
    simp only [go_sem,p3,hlt,L22_SameLines_J3_eq,h1,h2,aload_vpc,hsb]
    by_cases he:l[i] = m[i]
    · have:(l[i] != m[i]) = false:=by simp [he]
      simp only [this,go_sem,L22_SameLines_J4_eq,hw]
      rw [ih (i + 1) (by omega) (by omega)]
      have e:decide (l[i] :: l.drop (i + 1) = m[i] :: m.drop (i + 1)) = decide (l.drop (i + 1) = m.drop (i + 1)):=by
        rw [decide_eq_decide,List.cons.injEq]
        exact ⟨fun h=>h.2,fun h=>⟨he,h⟩⟩
      rw [e]
    · have:(l[i] != m[i]) = true:=by simp [he]
      have e:decide (l[i] :: l.drop (i + 1) = m[i] :: m.drop (i + 1)) = false:=by
        rw [decide_eq_false_iff_not,List.cons.injEq]
        exact fun h=>he h.1
      simp only [this,go_sem,e]
theorem samel_flat {x y:AV} {l m:List Str} (hx:SS x l) (hy:SS y m) (hl:l.length ≤ 1048576) (hm:m.length ≤ 1048576) (H:Hp):flatC C_L22_SameLines [x,y] H = some (.bool (decide (l = m)),H):=by
  obtain ⟨x1,k1,k2⟩:=SS.closed hx [] 0 4
  obtain ⟨y1,g1,g2⟩:=SS.closed hy [] 0 4
  have p1:=SS.len k2 9
  have p2:=SS.len g2 9
  refine flat2 k1 g1 (H1:=[]) ?_ rfl
  rw [F_L22_SameLines_eq]
  unfold F_L22_SameLines
  by_cases hlm:l.length = m.length
  · have hne:((l.length:Int) != (m.length:Int)) = false:=by simp [hlm]
    have:=samel_loop k2 g2 hl hlm [] [] l.length 0 rfl (Nat.zero_le _)
    rw [show ((0:Nat):Int) = 0 from rfl,List.drop_zero,List.drop_zero] at this
    simp only [go_sem,p1,p2,hne,L22_SameLines_J1_eq,this]
  · have hne:((l.length:Int) != (m.length:Int)) = true:=by simp; omega
    have:¬ l = m:=fun e=>hlm (by rw [e])
    simp only [go_sem,p1,p2,hne,decide_eq_false this]


end Go.Am
namespace Go.Am
set_option linter.unusedSimpArgs false
set_option linter.unusedVariables false
set_option linter.unusedSectionVars false
set_option maxRecDepth 100000

theorem getF_app {l:List Fil} {n:Txt} (h:getF l n = none) (f:Fil) (hf:f.name = n):getF (l ++ [f]) n = some f:=by
  induction l with
  | nil=>simp [getF,hf]
  | cons g l ih =>
    unfold getF at h
    split at h
    · cases h
    · rename_i hn
      rw [List.cons_append,getF,if_neg hn]
      exact ih h
theorem updF_app {l:List Fil} {n:Txt} (h:getF l n = none) (f:Fil) (hf:f.name = n) (u:Fil → Fil):updF (l ++ [f]) n u = l ++ [u f]:=by
  induction l with
  | nil=>simp [updF,hf]
  | cons g l ih =>
    unfold getF at h
    split at h
    · cases h
    · rename_i hn
      rw [List.cons_append,updF,if_neg hn,ih h]
      rfl
section
variable {tm:Tmp} {s:Sto} {n:Txt}
theorem run_new (hc : s.crashed = false) (h0 : s.count = 0) (hcl : tm.closed = false) (hn : n = tmpName tm.owner (tm.last + 1)) (hb : nameB n = true) (hg : getF s.files n = none) (h64 : s.files.length < 64) :
    tmNew tm s = ((n,0),({ tm with last:=tm.last + 1,names:=tm.names ++ [n] },{ s with files:=s.files ++ [⟨n,[],0⟩] })):=by
  subst hn
  unfold tmNew
  rw [if_neg (by simp [hcl])]
  have:s.create (tmpName tm.owner (tm.last + 1)) = (0,{ s with files:=s.files ++ [⟨tmpName tm.owner (tm.last + 1),[],0⟩] }):=by
    unfold Sto.create
    rw [tick_still hc h0,if_neg (by simp [hc]),if_neg (by simp [hb]),hg]
    dsimp only
    rw [if_neg (by omega)]
  rw [this]
  rfl
theorem run_write {fs : List Fil} (hc : s.crashed = false) (h0 : s.count = 0) (hcl : tm.closed = false) (hn : n ∈ tm.names) (hs : n ∉ tm.sld) (hfs : s.files = fs ++ [⟨n, [], 0⟩]) (hg : getF fs n = none) {l : List Txt} (hfit : fitsR l = true) (hl : usedL fs + costR l ≤ s.limit) (ht : usedL fs + costR l ≤ tm.limit) :
    tmWrite tm s n l = (0,{ s with files:=fs ++ [⟨n,encS l,0⟩],peak:=max s.peak (usedL fs + costR l) }):=by
  have hu:usedL s.files = usedL fs:=by rw [hfs,usedL_app]; simp [usedL]
  have hf:tmFind tm n = 0:=by unfold tmFind; rw [if_neg (by simp [hcl]),if_pos hn]
  have hun:=usedN_le tm.names s.files
  unfold tmWrite
  rw [if_neg (by simp [hf]),if_neg hs,if_neg (by simp [hfit]),if_neg (by unfold tmUsed; omega)]
  unfold Sto.append
  rw [tick_still hc h0,if_neg (by simp [hc]),hfs,getF_app hg _ rfl]
  dsimp only
  rw [← hfs,hu,encS_len,if_neg (by omega),hfs,updF_app hg _ rfl]
  rfl
theorem run_seal {fs : List Fil} {x : Txt} {k : Nat} (hc : s.crashed = false) (h0 : s.count = 0) (hcl : tm.closed = false) (hn : n ∈ tm.names) (hfs : s.files = fs ++ [⟨n, x, k⟩]) (hg : getF fs n = none) :
    tmSeal tm s n = (0,({ tm with sld:=addS tm.sld n },{ s with files:=fs ++ [⟨n,x,x.length⟩] })):=by
  have hf:tmFind tm n = 0:=by unfold tmFind; rw [if_neg (by simp [hcl]),if_pos hn]
  have hsy:s.sync n = (0,{ s with files:=fs ++ [⟨n,x,x.length⟩] }):=by
    unfold Sto.sync
    rw [tick_still hc h0,if_neg (by simp [hc]),hfs,getF_app hg _ rfl]
    dsimp only
    rw [updF_app hg _ rfl]
  unfold tmSeal
  rw [if_neg (by simp [hf]),hsy]
  rfl
end
theorem SysAt.frame {H H':Hp} {o t:Nat} {tm:Tmp} {s:Sto} {A:List Nat} (h:SysAt H o t tm s A) (hf:∀ a ∈ A,H'[a]? = H[a]?):SysAt H' o t tm s A:=by
  obtain ⟨B,S,⟨ms,clk,nx,sl,h1,rfl⟩,h2,h3,rfl⟩:=h
  exact ⟨_,S,⟨ms,clk,nx,sl,h1.frame fun a ha=>hf a (by simp only [List.mem_append]; exact .inl ha),rfl⟩,h2.frame fun a ha=>hf a (by simp [ha]),h3,rfl⟩
theorem small_loop {x : AV} {l : List Str} (hx : SS x l) (hl : l.length ≤ 1048576) (hL : Lens l) (H0 H : Hp) : ∀ (r d : List Str) (n : Int), l = d ++ r → d.length ≤ 12 → 0 ≤ n → n ≤ (d.length : Int) * 5000 →
    ∃ b,L22_small_L1 x (.int .i64 n) (.int .i64 (d.length:Int)) H0 H = some (.bool b,H) ∧ (b = true → l.length ≤ 12):=by
  have hn:=SS.len hx 9
  intro r
  induction r with
  | nil =>
    intro d n hd h12 hn0 hn1
    rw [List.append_nil] at hd
    subst hd
    have hlt:decide ((l.length:Int) < (l.length:Int)) = false:=by simp
    rw [L22_small_L1_eq]
    simp only [go_sem,hn,hlt,L22_small_J1_eq]
    exact ⟨_,rfl,fun _=>h12⟩
  | cons s r ih =>
    intro d n hd h12 hn0 hn1
    have hlen:l.length = d.length + (r.length + 1):=by rw [hd]; simp
    have hlt:decide ((d.length:Int) < (l.length:Int)) = true:=by rw [decide_eq_true_eq]; omega
    have hw1:IntKind.i64.wrap ((d.length:Int) + 1) = ((d.length + 1:Nat):Int):=by rw [wrap64 (by omega) (by omega)]; omega
    have his:l[d.length]? = some s:=by rw [hd,List.getElem?_append_right (Nat.le_refl _)]; simp
    have hidx:=SS.idx hx his
    have hs:=hL s (by rw [hd]; simp)
    rw [L22_small_L1_eq]
    simp only [go_sem,hn,hlt,L22_small_J2_eq]
    by_cases h2:12 ≤ d.length
    · have e1:decide ((12:Int) ≤ (d.length:Int)) = true:=by rw [decide_eq_true_eq]; omega
      simp only [e1,go_sem]
      exact ⟨false,rfl,fun h=>by cases h⟩
    · have e1:decide ((12:Int) ≤ (d.length:Int)) = false:=by rw [decide_eq_false_iff_not]; omega
      simp only [e1,go_sem,hidx,aload_vpc]
      by_cases h5:5000 < s.length
      · have e2:decide ((5000:Int) < (s.length:Int)) = true:=by rw [decide_eq_true_eq]; omega
        simp only [e2,go_sem]
        exact ⟨false,rfl,fun h=>by cases h⟩
      · have e2:decide ((5000:Int) < (s.length:Int)) = false:=by rw [decide_eq_false_iff_not]; omega
        have hwn:IntKind.i64.wrap (n + (s.length:Int)) = n + (s.length:Int):=wrap64 (by omega) (by omega)
        obtain ⟨b,m1,m2⟩:=ih (d ++ [s]) (n + (s.length:Int)) (by rw [hd]; simp) (by simp; omega) (by omega) (by simp; omega)
        rw [List.length_append,List.length_singleton] at m1
        refine ⟨b,?_,m2⟩
        simp only [e2,go_sem,L22_small_J4_eq,hidx,aload_vpc,hwn,L22_small_J3_eq,hw1]
        exact m1
theorem small_flat {x:AV} {l:List Str} (hx:SS x l) (hl:l.length ≤ 1048576) (hL:Lens l) (H:Hp):∃ b,flatC C_L22_small [x] H = some (.bool b,H) ∧ (b = true → l.length ≤ 12):=by
  obtain ⟨x1,k1,k2⟩:=SS.closed hx [] 0 4
  obtain ⟨b,m1,m2⟩:=small_loop k2 hl hL [] [] l [] 0 rfl (by simp) (by omega) (by simp)
  refine ⟨b,flat1 k1 (H1:=[]) ?_ rfl,m2⟩
  rw [F_L22_small_eq]
  unfold F_L22_small
  exact m1
theorem keyed_flat {q:AV} {p:Spec} (hq:SpecAV q p) (H:Hp):∃ b,flatC C_L22_keyed [q] H = some (.bool b,H):=by
  obtain ⟨q1,g1,g2⟩:=hq.close [] 0 2
  obtain ⟨xp,rfl,hxp⟩:=g2
  have hk:=Sl.len hxp 149
  refine ⟨decide (((p.keys.map Ke.av).length:Int) ≤ 4),flat1 g1 (H1:=[.cells (p.cells xp)]) ?_ rfl⟩
  have g:([AObj.cells (p.cells xp)]:Hp)[0]? = some (.cells (p.cells xp)):=rfl
  have l0:=ldn g 0 (v:=xp) rfl
  rw [F_L22_keyed_eq]
  unfold F_L22_keyed
  simp only [abox_agg,go_sem,List.nil_append,List.length_nil,Nat.zero_add,l0,hk]
theorem costR_le:∀ (l:List Txt),(∀ s ∈ l,s.length ≤ 4096) → costR l ≤ l.length * 4102:=by
  intro l
  induction l with
  | nil=>intro _; exact Nat.le_refl _
  | cons s l ih =>
    intro h
    have h1:=h s (by simp)
    have h2:=ih fun t ht=>h t (by simp [ht])
    simp only [costR,List.length_cons]
    omega
theorem sortS_mem (L:Loc) (p:Spec) (l:List Str):∀ s ∈ sortS L p l,s ∈ l:=by
  intro s hs
  unfold sortS at hs
  split at hs
  · exact hs
  · split at hs
    · rcases onceL_mem _ _ s hs with h | h
      · cases h
      · exact (ins_facts L p l).2 s h
    · exact (ins_facts L p l).2 s hs
end Go.Am
