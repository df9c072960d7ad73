/-
  Dividing lines into chunks, in the machine, both ways.
-/
import Derived.Test.YtehanadfidoodaaGreatDoorNkSmx
import Derived.Test.YtehanadfidoodaaGreatDoorNkQbx
import Derived.Test.YtehanadfidoodaaGreatDoorNkGPx
import Derived.Test.YtehanadfidoodaaGreatDoorNkGF1x
import Derived.Test.YtehanadfidoodaaGreatDoorEmWx
namespace Go.Am
set_option linter.unusedSimpArgs false
set_option linter.unusedVariables false
set_option linter.unusedSectionVars false
set_option maxRecDepth 100000

def cS (s:Str):Int:=(s.length:Int) + 16
theorem costL_bound:∀ (k:List Str),Lens k → 0 ≤ costL cS k ∧ costL cS k ≤ (k.length:Int) * 1048592:=by
  have:∀ (k:List Str) (n:Int),Lens k → n ≤ k.foldl (fun n x=>n + cS x) n ∧ k.foldl (fun n x=>n + cS x) n ≤ n + (k.length:Int) * 1048592:=by
    intro k
    induction k with
    | nil=>intro n _; simp
    | cons s k ih =>
      intro n hL
      have hs:=hL s (by simp)
      obtain ⟨h1,h2⟩:=ih (n + cS s) fun t ht=>hL t (by simp [ht])
      rw [List.foldl_cons]
      simp only [List.length_cons]
      have:cS s = (s.length:Int) + 16:=rfl
      constructor <;> omega
  intro k hk
  have:=this k 0 hk
  unfold costL
  simpa using this
section
variable {mem:Int} {l:List Str}
theorem ck_parts {d:List Str} (hd:CkOk cS mem d (ckRun cS mem d)):(ckRun cS mem d).cur.length ≤ d.length ∧ d.drop (d.length - (ckRun cS mem d).cur.length) = (ckRun cS mem d).cur:=by
  have h:=hd.flat
  generalize (ckRun cS mem d) = s at h
  subst h
  constructor
  · simp
  · rw [List.length_append,Nat.add_sub_cancel,List.drop_append_of_le_length (Nat.le_refl _),List.drop_length]; rfl
theorem ck_len {d:List Str} (hd:CkOk cS mem d (ckRun cS mem d)):(ckRun cS mem d).done.length ≤ d.length:=by
  have h:=hd.flat
  have hne:=hd.ne
  generalize (ckRun cS mem d) = s at h hne
  subst h
  have:∀ (A:List (List Str)),(∀ k ∈ A,k ≠ []) → A.length ≤ A.flatten.length:=by
    intro A
    induction A with
    | nil=>intro _; simp
    | cons k A ih =>
      intro h
      have h1:=ih fun k hk=>h k (by simp [hk])
      have h2:0 < k.length:=List.length_pos_iff.2 (h k (by simp))
      simp only [List.length_cons,List.flatten_cons,List.length_append]
      omega
  have:=this s.done hne
  simp only [List.length_append]
  omega
theorem take_drop_mid {d r:List Str} {i:Nat} (hi:i ≤ d.length):((d ++ r).take d.length).drop i = d.drop i:=by simp
theorem ckStep_old {s:Ck Str} {x:Str} (h:s.cur = [] ∨ s.cost + cS x ≤ mem):ckStep cS mem s x = ⟨s.done,s.cur ++ [x],s.cost + cS x⟩:=by
  unfold ckStep
  rw [if_neg]
  rintro ⟨h1,h2⟩
  rcases h with h | h
  · exact h1 h
  · omega
theorem ckStep_new {s:Ck Str} {x:Str} (h1:s.cur ≠ []) (h2:mem < s.cost + cS x):ckStep cS mem s x = ⟨s.done ++ [s.cur],[x],cS x⟩:=by
  unfold ckStep
  rw [if_pos ⟨h1,h2⟩]
theorem lens_cur {d:List Str} (hL:Lens d) (hd:CkOk cS mem d (ckRun cS mem d)):Lens (ckRun cS mem d).cur:=fun s hs=>hL s (by
  have h:=hd.flat
  rw [← h]
  simp [hs])
theorem split_loop {x : AV} (hx : SS x l) (hL : Lens l) (hl : l.length ≤ 1048576) (H0 : Hp) : ∀ (r d : List Str) (x6 : AV) (H : Hp), l = d ++ r → (∃ o, Rst o H x6 (ckRun cS mem d).done) →
    ∃ y H',runs_Split_L1 (.int .i64 mem) x x6 (.int .i64 ((d.length - (ckRun cS mem d).cur.length:Nat):Int)) (.int .i64 (ckRun cS mem d).cost) x (.int .i64 (l.length:Int)) (.int .i64 (d.length:Int)) H0 H = some (y,H') ∧ LL H' y (ckAll (ckRun cS mem l)):=by
  have hn:=SS.len hx 9
  intro r
  induction r with
  | nil =>
    intro d x6 H hd ⟨o,hr⟩
    rw [List.append_nil] at hd
    subst hd
    have hok:=ck_run cS mem l
    obtain ⟨hp1,hp2⟩:=ck_parts hok
    have hlt:decide ((l.length:Int) < (l.length:Int)) = false:=by simp
    rw [runs_Split_L1_eq]
    simp only [go_sem,hlt,runs_Split_J1_eq,hn,runs_Split_J2_eq]
    by_cases h0:l = []
    · subst h0
      have h1:decide ((0:Int) < ((([]:List Str).length:Nat):Int)) = false:=rfl
      simp only [h1,go_sem]
      exact ⟨_,_,rfl,hr.ll⟩
    · have h1:decide ((0:Int) < (l.length:Int)) = true:=by have:=List.length_pos_iff.2 h0; simp; exact this
      obtain ⟨a,q1,q2⟩:=hx.cut (i:=l.length - (ckRun cS mem l).cur.length) (j:=l.length) (by omega) (Nat.le_refl _)
      rw [List.take_length,hp2] at q2
      have hone:(setElems 1 [(0,a)] [AV.nils]).map (AV.vs 1 .clip) = some (.vs 1 .clip [a]):=by
        simp only [setElems,q2.cell.1,q2.cell.2]; rfl
      obtain ⟨o',x',H',p1,p2,p3,p4⟩:=hr.app q2 (by have:=ck_len hok; omega)
      simp only [h1,go_sem,q1,hone,p1]
      refine ⟨_,_,rfl,?_⟩
      unfold ckAll
      rw [if_neg (ck_cur cS mem h0)]
      exact p2.ll
  | cons s r ih =>
    intro d x6 H hd ⟨o,hr⟩
    have hok:=ck_run cS mem d
    obtain ⟨hp1,hp2⟩:=ck_parts hok
    have hLd:Lens d:=fun t ht=>hL t (by rw [hd]; simp [ht])
    have hcb:=costL_bound _ (lens_cur hLd hok)
    rw [← hok.cost] at hcb
    have hs:s.length ≤ 1048576:=hL s (by rw [hd]; simp)
    have hlen:l.length = d.length + (r.length + 1):=by rw [hd]; simp
    have hlt:decide ((d.length:Int) < (l.length:Int)) = true:=by simp; omega
    have hw1:IntKind.i64.wrap ((d.length:Int) + 1) = ((d.length + 1:Nat):Int):=by rw [wrap64 (by omega) (by omega)]; omega
    have hwc:IntKind.i64.wrap ((s.length:Int) + 16) = cS s:=by rw [wrap64 (by omega) (by omega)]; rfl
    have hcs:cS s = (s.length:Int) + 16:=rfl
    have hwa:IntKind.i64.wrap ((ckRun cS mem d).cost + cS s) = (ckRun cS mem d).cost + cS s:=wrap64 (by omega) (by omega)
    have hwz:IntKind.i64.wrap (0 + cS s) = cS s:=by rw [wrap64 (by omega) (by omega)]; omega
    have his:l[d.length]? = some s:=by rw [hd,List.getElem?_append_right (Nat.le_refl _)]; simp
    have hidx:=SS.idx hx his
    have ih':=fun x6 H h=>ih (d ++ [s]) x6 H (by rw [hd]; simp) h
    simp only [ckRun_snoc,List.length_append,List.length_singleton] at ih'
    rw [runs_Split_L1_eq]
    simp only [go_sem,hlt,runs_Split_J3_eq,hidx,aload_vpc,hwc]
    by_cases hc:(ckRun cS mem d).cur = []
    · have hgt:decide (((d.length - (ckRun cS mem d).cur.length:Nat):Int) < (d.length:Int)) = false:=by rw [hc]; simp
      have hst:=ckStep_old (mem:=mem) (s:=ckRun cS mem d) (x:=s) (.inl hc)
      rw [hst] at ih'
      obtain ⟨y,H',m1,m2⟩:=ih' x6 H ⟨o,hr⟩
      refine ⟨y,H',?_,m2⟩
      simp only [hgt,go_sem,runs_Split_J5_eq,hwa,runs_Split_J4_eq,hw1]
      rw [show d.length - (ckRun cS mem d).cur.length = d.length + 1 - ((ckRun cS mem d).cur ++ [s]).length by rw [hc]; simp]
      exact m1
    · have hgt:decide (((d.length - (ckRun cS mem d).cur.length:Nat):Int) < (d.length:Int)) = true:=by have:=List.length_pos_iff.2 hc; simp; omega
      by_cases hm:mem < (ckRun cS mem d).cost + cS s
      · have hst:=ckStep_new (mem:=mem) hc hm
        rw [hst] at ih'
        obtain ⟨a,q1,q2⟩:=hx.cut (i:=d.length - (ckRun cS mem d).cur.length) (j:=d.length) (by omega) (by omega)
        rw [hd,take_drop_mid (by omega),hp2] at q2
        have hone:(setElems 1 [(0,a)] [AV.nils]).map (AV.vs 1 .clip) = some (.vs 1 .clip [a]):=by
          simp only [setElems,q2.cell.1,q2.cell.2]; rfl
        obtain ⟨o',x',H1,p1,p2,p3,p4⟩:=hr.app q2 (by have:=ck_len hok; omega)
        obtain ⟨y,H',m1,m2⟩:=ih' x' H1 ⟨o',p2⟩
        refine ⟨y,H',?_,m2⟩
        simp only [hgt,go_sem,hwa,decide_eq_true hm,q1,hone,p1,runs_Split_J5_eq,hwz,runs_Split_J4_eq,hw1]
        exact m1
      · have hst:=ckStep_old (mem:=mem) (s:=ckRun cS mem d) (x:=s) (.inr (by omega))
        rw [hst] at ih'
        obtain ⟨y,H',m1,m2⟩:=ih' x6 H ⟨o,hr⟩
        refine ⟨y,H',?_,m2⟩
        simp only [hgt,go_sem,hwa,decide_eq_false hm,runs_Split_J5_eq,runs_Split_J4_eq,hw1]
        rw [show d.length - (ckRun cS mem d).cur.length = d.length + 1 - ((ckRun cS mem d).cur ++ [s]).length by simp]
        exact m1
theorem split_flat {x:AV} (hx:SS x l) (hL:Lens l) (hl:l.length ≤ 1048576) (H:Hp):∃ y,flatC C_runs_Split [x,.int .i64 mem] H = some (y,H) ∧ LsV y (ckAll (ckRun cS mem l)):=by
  obtain ⟨x1,h1,h2⟩:=SS.closed hx [] 0 4
  obtain ⟨x2,g1,g2⟩:=clone_flat h2 hl []
  obtain ⟨y,H',m1,m2⟩:=split_loop (mem:=mem) g2 hL hl [] l [] .nils [] rfl ⟨0,.inl ⟨rfl,.inl rfl⟩⟩
  obtain ⟨y',c1,c2⟩:=m2.close0
  refine ⟨y',?_,c2⟩
  refine flatC_cl (args':=[x1,.int .i64 mem]) (H1:=H') (v:=y) (by rw [List.mapM_cons,h1]; rfl) ?_ c1
  rw [F_runs_Split_eq]
  unfold F_runs_Split
  simp only [g1,go_sem,SS.len g2 9]
  exact m1

def ApS (H:Hp) (a:AV) (l:List Str):Prop:=(∃ t e,a = .vs 1 (.own t e) (l.map AV.str) ∧ H[t]? = some (.tok e)) ∨ a = .vs 1 .clip (l.map AV.str)
theorem ApS.ss {H:Hp} {a:AV} {l:List Str} (h:ApS H a l):SS a l:=by
  rcases h with ⟨t,e,rfl,_⟩ | rfl
  · exact .inr ⟨_,rfl⟩
  · exact .inr ⟨_,rfl⟩
theorem ApS.app {H : Hp} {a : AV} {l : List Str} (h : ApS H a l) (s : Str) (hl : l.length ≤ 1048576) :
    ∃ (a':AV) (H':Hp),aappE 1 16 a (.vs 1 .clip [.str s]) H = some (a',H') ∧ ApS H' a' (l ++ [s]) ∧ ∀ (o e:Nat) (es:List AV),H[o]? = some (AObj.row e es) → H'[o]? = some (AObj.row e es):=by
  unfold aappE
  have he:Go.Am.elems 1 (.vs 1 .clip [.str s]) H = some [.str s]:=rfl
  rw [he]
  have hfit:fits ((l.map AV.str).length + [AV.str s].length) 16 = true:=by simp [fits]; omega
  rcases h with ⟨t,e,rfl,ht⟩ | rfl
  · refine ⟨.vs 1 (.own t (e + 1)) (l.map AV.str ++ [.str s]),H.set t (.tok (e + 1)),?_,.inl ⟨t,e + 1,by simp,get_set_eq _ ht⟩,fun o e' es ho=>?_⟩
    · simp only [aappend,hfit,and_self,if_true,ht]
      rw [if_neg (by simp)]
      rfl
    · refine get_set_ne _ (fun he=>?_) ho
      subst he
      rw [ht] at ho
      cases ho
  · refine ⟨.vs 1 (.own H.length ((l.map AV.str).length + 1)) (l.map AV.str ++ [.str s]),H ++ [.tok ((l.map AV.str).length + 1)],?_,.inl ⟨H.length,(l.map AV.str).length + 1,by simp,by simp⟩,fun o e' es ho=>get_push ho _⟩
    simp only [aappend,hfit,and_self,if_true]
    rw [if_neg (by simp)]
    rfl
end
end Go.Am
namespace Go.Am
set_option linter.unusedSimpArgs false
set_option linter.unusedVariables false
set_option linter.unusedSectionVars false
set_option maxRecDepth 100000

theorem getF_app {l:List Fil} {n:Txt} (h:getF l n = none) (f:Fil) (hf:f.name = n):getF (l ++ [f]) n = some f:=by
  induction l with
  | nil=>simp [getF,hf]
  | cons g l ih =>
    unfold getF at h
    split at h
    · cases h
    · rename_i hn
      rw [List.cons_append,getF,if_neg hn]
      exact ih h
theorem updF_app {l:List Fil} {n:Txt} (h:getF l n = none) (f:Fil) (hf:f.name = n) (u:Fil → Fil):updF (l ++ [f]) n u = l ++ [u f]:=by
  induction l with
  | nil=>simp [updF,hf]
  | cons g l ih =>
    unfold getF at h
    split at h
    · cases h
    · rename_i hn
      rw [List.cons_append,updF,if_neg hn,ih h]
      rfl
section
variable {tm:Tmp} {s:Sto} {n:Txt}
theorem run_new (hc : s.crashed = false) (h0 : s.count = 0) (hcl : tm.closed = false) (hn : n = tmpName tm.owner (tm.last + 1)) (hb : nameB n = true) (hg : getF s.files n = none) (h64 : s.files.length < 64) :
    tmNew tm s = ((n,0),({ tm with last:=tm.last + 1,names:=tm.names ++ [n] },{ s with files:=s.files ++ [⟨n,[],0⟩] })):=by
  subst hn
  unfold tmNew
  rw [if_neg (by simp [hcl])]
  have:s.create (tmpName tm.owner (tm.last + 1)) = (0,{ s with files:=s.files ++ [⟨tmpName tm.owner (tm.last + 1),[],0⟩] }):=by
    unfold Sto.create
    rw [tick_still hc h0,if_neg (by simp [hc]),if_neg (by simp [hb]),hg]
    dsimp only
    rw [if_neg (by omega)]
  rw [this]
  rfl
theorem run_write {fs : List Fil} (hc : s.crashed = false) (h0 : s.count = 0) (hcl : tm.closed = false) (hn : n ∈ tm.names) (hs : n ∉ tm.sld) (hfs : s.files = fs ++ [⟨n, [], 0⟩]) (hg : getF fs n = none) {l : List Txt} (hfit : fitsR l = true) (hl : usedL fs + costR l ≤ s.limit) (ht : usedL fs + costR l ≤ tm.limit) :
    tmWrite tm s n l = (0,{ s with files:=fs ++ [⟨n,encS l,0⟩],peak:=max s.peak (usedL fs + costR l) }):=by
  have hu:usedL s.files = usedL fs:=by rw [hfs,usedL_app]; simp [usedL]
  have hf:tmFind tm n = 0:=by unfold tmFind; rw [if_neg (by simp [hcl]),if_pos hn]
  have hun:=usedN_le tm.names s.files
  unfold tmWrite
  rw [if_neg (by simp [hf]),if_neg hs,if_neg (by simp [hfit]),if_neg (by unfold tmUsed; omega)]
  unfold Sto.append
  rw [tick_still hc h0,if_neg (by simp [hc]),hfs,getF_app hg _ rfl]
  dsimp only
  rw [← hfs,hu,encS_len,if_neg (by omega),hfs,updF_app hg _ rfl]
  rfl
theorem run_seal {fs : List Fil} {x : Txt} {k : Nat} (hc : s.crashed = false) (h0 : s.count = 0) (hcl : tm.closed = false) (hn : n ∈ tm.names) (hfs : s.files = fs ++ [⟨n, x, k⟩]) (hg : getF fs n = none) :
    tmSeal tm s n = (0,({ tm with sld:=addS tm.sld n },{ s with files:=fs ++ [⟨n,x,x.length⟩] })):=by
  have hf:tmFind tm n = 0:=by unfold tmFind; rw [if_neg (by simp [hcl]),if_pos hn]
  have hsy:s.sync n = (0,{ s with files:=fs ++ [⟨n,x,x.length⟩] }):=by
    unfold Sto.sync
    rw [tick_still hc h0,if_neg (by simp [hc]),hfs,getF_app hg _ rfl]
    dsimp only
    rw [updF_app hg _ rfl]
  unfold tmSeal
  rw [if_neg (by simp [hf]),hsy]
  rfl
end
theorem SysAt.frame {H H':Hp} {o t:Nat} {tm:Tmp} {s:Sto} {A:List Nat} (h:SysAt H o t tm s A) (hf:∀ a ∈ A,H'[a]? = H[a]?):SysAt H' o t tm s A:=by
  obtain ⟨B,S,⟨ms,clk,nx,sl,h1,rfl⟩,h2,h3,rfl⟩:=h
  exact ⟨_,S,⟨ms,clk,nx,sl,h1.frame fun a ha=>hf a (by simp only [List.mem_append]; exact .inl ha),rfl⟩,h2.frame fun a ha=>hf a (by simp [ha]),h3,rfl⟩
theorem small_loop {x : AV} {l : List Str} (hx : SS x l) (hl : l.length ≤ 1048576) (hL : Lens l) (H0 H : Hp) : ∀ (r d : List Str) (n : Int), l = d ++ r → d.length ≤ 12 → 0 ≤ n → n ≤ (d.length : Int) * 5000 →
    ∃ b,L22_small_L1 x (.int .i64 n) (.int .i64 (d.length:Int)) H0 H = some (.bool b,H) ∧ (b = true → l.length ≤ 12):=by
  have hn:=SS.len hx 9
  intro r
  induction r with
  | nil =>
    intro d n hd h12 hn0 hn1
    rw [List.append_nil] at hd
    subst hd
    have hlt:decide ((l.length:Int) < (l.length:Int)) = false:=by simp
    rw [L22_small_L1_eq]
    simp only [go_sem,hn,hlt,L22_small_J1_eq]
    exact ⟨_,rfl,fun _=>h12⟩
  | cons s r ih =>
    intro d n hd h12 hn0 hn1
    have hlen:l.length = d.length + (r.length + 1):=by rw [hd]; simp
    have hlt:decide ((d.length:Int) < (l.length:Int)) = true:=by rw [decide_eq_true_eq]; omega
    have hw1:IntKind.i64.wrap ((d.length:Int) + 1) = ((d.length + 1:Nat):Int):=by rw [wrap64 (by omega) (by omega)]; omega
    have his:l[d.length]? = some s:=by rw [hd,List.getElem?_append_right (Nat.le_refl _)]; simp
    have hidx:=SS.idx hx his
    have hs:=hL s (by rw [hd]; simp)
    rw [L22_small_L1_eq]
    simp only [go_sem,hn,hlt,L22_small_J2_eq]
    by_cases h2:12 ≤ d.length
    · have e1:decide ((12:Int) ≤ (d.length:Int)) = true:=by rw [decide_eq_true_eq]; omega
      simp only [e1,go_sem]
      exact ⟨false,rfl,fun h=>by cases h⟩
    · have e1:decide ((12:Int) ≤ (d.length:Int)) = false:=by rw [decide_eq_false_iff_not]; omega
      simp only [e1,go_sem,hidx,aload_vpc]
      by_cases h5:5000 < s.length
      · have e2:decide ((5000:Int) < (s.length:Int)) = true:=by rw [decide_eq_true_eq]; omega
        simp only [e2,go_sem]
        exact ⟨false,rfl,fun h=>by cases h⟩
      · have e2:decide ((5000:Int) < (s.length:Int)) = false:=by rw [decide_eq_false_iff_not]; omega
        have hwn:IntKind.i64.wrap (n + (s.length:Int)) = n + (s.length:Int):=wrap64 (by omega) (by omega)
        obtain ⟨b,m1,m2⟩:=ih (d ++ [s]) (n + (s.length:Int)) (by rw [hd]; simp) (by simp; omega) (by omega) (by simp; omega)
        rw [List.length_append,List.length_singleton] at m1
        refine ⟨b,?_,m2⟩
        simp only [e2,go_sem,L22_small_J4_eq,hidx,aload_vpc,hwn,L22_small_J3_eq,hw1]
        exact m1
theorem small_flat {x:AV} {l:List Str} (hx:SS x l) (hl:l.length ≤ 1048576) (hL:Lens l) (H:Hp):∃ b,flatC C_L22_small [x] H = some (.bool b,H) ∧ (b = true → l.length ≤ 12):=by
  obtain ⟨x1,k1,k2⟩:=SS.closed hx [] 0 4
  obtain ⟨b,m1,m2⟩:=small_loop k2 hl hL [] [] l [] 0 rfl (by simp) (by omega) (by simp)
  refine ⟨b,flat1 k1 (H1:=[]) ?_ rfl,m2⟩
  rw [F_L22_small_eq]
  unfold F_L22_small
  exact m1
theorem costR_le:∀ (l:List Txt),(∀ s ∈ l,s.length ≤ 4096) → costR l ≤ l.length * 4102:=by
  intro l
  induction l with
  | nil=>intro _; exact Nat.le_refl _
  | cons s l ih =>
    intro h
    have h1:=h s (by simp)
    have h2:=ih fun t ht=>h t (by simp [ht])
    simp only [costR,List.length_cons]
    omega
theorem sortS_mem (L:Loc) (p:Spec) (l:List Str):∀ s ∈ sortS L p l,s ∈ l:=by
  intro s hs
  unfold sortS at hs
  split at hs
  · exact hs
  · split at hs
    · rcases onceL_mem _ _ s hs with h | h
      · cases h
      · exact (ins_facts L p l).2 s h
    · exact (ins_facts L p l).2 s hs
end Go.Am
namespace Go.Am
set_option linter.unusedSimpArgs false
set_option linter.unusedVariables false
set_option linter.unusedSectionVars false
set_option maxRecDepth 100000

theorem FailAfter_run {H : Hp} {o : Nat} {s : Sto} {A : List Nat} (h : StoreAt H o s A) (hc : s.crashed = false) (n : Nat) (hn : n ≤ 9223372036854775807) :
    ∃ H',C_store_Store_FailAfter [.ptr o 0,.int .i64 (n:Int)] H = some (.tuple [],H') ∧ StoRes H H' o { s with count:=n } A A:=by
  obtain ⟨m,clk,ds,h,rfl⟩:=h
  have hnil:ebin (.pointer 120) .neq (.ptr o 0) .nilp = some (.bool true):=rfl
  have hcl:H[o]? = some (.cells (stC m s)):=h.cells
  have l4:=ldn hcl 4 (v:=.bool s.crashed) rfl
  rw [hc] at l4
  have hmx:amax2 (.int .i64 (n:Int)) (.int .i64 0) = some (.int .i64 (n:Int)):=by
    simp [amax2]; omega
  have s5:=stn hcl 5 (v:=.int .i64 (n:Int)) rfl rfl (by simp [stC])
  have g:=get_set_eq (AObj.cells (List.set (stC m s) 5 (.int .i64 (n:Int)))) hcl
  have hS:Stp [o] H (H.set o (.cells (List.set (stC m s) 5 (.int .i64 (n:Int))))):=Stp.set _ _ (by simp)
  refine ⟨_,?_,(h.cell (s':={ s with count:=n }) hS g rfl).res hS⟩
  rw [F_store_Store_FailAfter_eq]
  unfold F_store_Store_FailAfter
  simp only [hnil,go_sem,Nat.zero_add,l4,Bool.not_false,hmx,s5]
theorem TxAt.cut {H : Hp} {x : AV} {l : Txt} (h : TxAt H x l) {n : Nat} (hn : n ≤ l.length) :
    ∃ x',asliceV 1 x none (some (.int .i64 (n:Int))) (some (.int .i64 (n:Int))) = some x' ∧ tokA x' = [] ∧ (∀ H',TxAt H' x' (l.take n)) ∧ x'.cells = [x'] ∧ x'.known = true:=by
  have hb:abounds l.length l.length none (some (.int .i64 (n:Int))) (some (.int .i64 (n:Int))) = some (0,n,n):=by
    rw [abounds_hm (len:=l.length) (cap:=l.length) .i64 .i64 (by omega) (by omega) (by omega)]
    simp
  have key:∀ t,asliceV 1 (.vs 1 t (l.map bv)) none (some (.int .i64 (n:Int))) (some (.int .i64 (n:Int))) = some (.vs 1 .clip ((l.take n).map bv)):=fun t=>by
    unfold asliceV
    dsimp only
    rw [if_pos rfl,List.length_map,hb]
    simp
  rcases h with ⟨rfl,rfl⟩ | ⟨t,e,rfl,ht⟩ | rfl
  · have:n = 0:=by simpa using hn
    subst this
    exact ⟨.nils,by unfold asliceV; dsimp only; rw [show abounds 0 0 none (some (.int .i64 ((0:Nat):Int))) (some (.int .i64 ((0:Nat):Int))) = some (0,0,0) from by simpa using hb],rfl,fun _=>.inl ⟨rfl,rfl⟩,rfl,rfl⟩
  · exact ⟨_,key _,rfl,fun _=>.inr (.inr rfl),rfl,rfl⟩
  · exact ⟨_,key _,rfl,fun _=>.inr (.inr rfl),rfl,rfl⟩
theorem shr0 (n:Nat):ibin .shr (.int .u64 0) (.int .i64 (n:Int)) = some (.int .u64 0):=by
  rw [ibin_shr]
  simp [shrK]
theorem rem8 (i:Nat):ibin .rem (.int .i64 (i:Int)) (.int .i64 8) = some (.int .i64 ((i % 8:Nat):Int)):=by
  unfold ibin ashift
  simp only [if_true,intbin]
  rw [if_neg (by omega)]
  congr 2
theorem StoRes.trans {H H1 H2:Hp} {o:Nat} {s1 s2:Sto} {A A1 A2:List Nat} (h:StoRes H H1 o s1 A A1) (k:StoRes H1 H2 o s2 A1 A2):StoRes H H2 o s2 A A2 :=
  ⟨k.at',h.stp.trans k.stp (fun _ h=>h) (fun a ha=>h.own a ha),fun a ha=>(k.own a ha).elim (h.own a) fun hh=>.inr (Nat.le_trans h.stp.len hh)⟩
theorem restart_step {H : Hp} {o : Nat} {s : Sto} {A : List Nat} (h : StoreAt H o s A) (hk : StoOk s) (hsy : ∀ f ∈ s.files, f.syn = f.text.length) {x : AV} {ns : List Txt} (hx : SS x ns) {i : Nat} {n : Txt} (hi : ns[i]? = some n) (hi64 : i ≤ 64) {f : Fil} (hn : getF s.files n = some f) (nl : AV) (H0 : Hp) :
    ∃ H' A',store_Store_Restart_J2 (.ptr o 0) (.int .u64 0) x nl (.int .i64 (i:Int)) (.bool true) H0 H = store_Store_Restart_J3 (.ptr o 0) (.int .u64 0) x nl (.int .i64 (i:Int)) H0 H' ∧ StoRes H H' o s A A':=by
  obtain ⟨m,clk,ds,h,rfl⟩:=h
  have hidx:=SS.idx hx hi
  have l3:=ldn h.cells 3 (v:=.map m) rfl
  rcases h.look n with ⟨k,_⟩ | ⟨a,d,b,rfl,c3,c4,c5,c6⟩
  · rw [hn] at k; cases k
  obtain ⟨k1,hd,k3,k4⟩:=h.mid
  have hdm:d.fil ∈ s.files:=by rw [← h.files]; simp
  have hsd:=hsy _ hdm
  have hused:=hk.used
  have hlim:=hk.limit
  have hle:d.fil.text.length ≤ usedL s.files:=by rw [← h.files,List.map_append,List.map_cons,usedL_mid]; omega
  have m0:=ldn hd.cells 0 (v:=d.tx) rfl
  have m1:=ldn hd.cells 1 (v:=.int .i64 (d.fil.text.length:Int)) (by rw [← hsd]; rfl)
  have hlen:=hd.text.len 5
  have hrem:ibin .rem (.int .i64 (i:Int)) (.int .i64 8) = some (.int .i64 ((i % 8:Nat):Int)):=rem8 i
  have hmul:ibin .mul (.int .i64 8) (.int .i64 ((i % 8:Nat):Int)) = some (.int .i64 ((8 * (i % 8):Nat):Int)):=by
    have:IntKind.i64.wrap (8 * ((i % 8:Nat):Int)) = ((8 * (i % 8):Nat):Int):=by rw [wrap64 (by omega) (by omega)]; omega
    simp only [go_sem,this]
  have hshr:=shr0 (8 * (i % 8))
  have hrem2:ibin .rem (.int .u64 0) (.int .u64 256) = some (.int .u64 0):=rfl
  have hcv:cvInt .i64 (.int .u64 0) = some (.int .i64 0):=rfl
  have hs0:IntKind.i64.wrap ((d.fil.text.length:Int) - (d.fil.text.length:Int)) = 0:=by rw [wrap64 (by omega) (by omega)]; omega
  have hmin:amin2 (.int .i64 0) (.int .i64 0) = some (.int .i64 0):=rfl
  have ha0:IntKind.i64.wrap ((d.fil.text.length:Int) + 0) = (d.fil.text.length:Int):=by rw [wrap64 (by omega) (by omega)]; omega
  have hcl:H[o]? = some (.cells (stC m s)):=h.cells
  have l1:=ldn hcl 1 (v:=.int .i64 (usedL s.files:Int)) rfl
  have hu0:IntKind.i64.wrap ((usedL s.files:Int) - 0) = (usedL s.files:Int):=by rw [wrap64 (by omega) (by omega)]; omega
  have s1:=stn hcl 1 (v:=.int .i64 (usedL s.files:Int)) rfl rfl (by simp [stC])
  have hself:List.set (stC m s) 1 (.int .i64 (usedL s.files:Int)) = stC m s:=rfl
  rw [hself] at s1
  have hHe:H.set o (.cells (stC m s)) = H:=List.ext_getElem? fun j=>by
    by_cases e:j = o
    · subst e; rw [get_set_eq _ hcl,hcl]
    · rw [List.getElem?_set_ne (fun e'=>e e'.symm)]
  rw [hHe] at s1
  obtain ⟨x',p1,p2,p3,p4,p5⟩:=hd.text.cut (n:=d.fil.text.length) (Nat.le_refl _)
  have s2:=stn hd.cells 0 (v:=x') p4 p5 (by simp)
  have g2:=get_set_eq (AObj.cells (List.set [d.tx,.int .i64 (d.fil.syn:Int)] 0 x')) hd.cells
  have s3:=stn g2 1 (v:=.int .i64 (d.fil.text.length:Int)) rfl rfl (by simp)
  have g3:=get_set_eq (AObj.cells (List.set (List.set [d.tx,.int .i64 (d.fil.syn:Int)] 0 x') 1 (.int .i64 (d.fil.text.length:Int)))) g2
  generalize hH1:H.set d.f (.cells (List.set [d.tx,.int .i64 (d.fil.syn:Int)] 0 x')) = H1 at s2 g2 s3 g3
  generalize hH2:H1.set d.f (.cells (List.set (List.set [d.tx,.int .i64 (d.fil.syn:Int)] 0 x') 1 (.int .i64 (d.fil.text.length:Int)))) = H2 at s3 g3
  have hS:Stp [d.f] H H2:=by
    rw [← hH2,← hH1]
    exact (Stp.set _ _ (by simp)).trans (Stp.set _ _ (by simp)) (fun _ h=>h) fun _ h=>.inl h
  have hko:=k3 d.f (by simp [FD.own])
  have hto:({ d with tx:=x' }:FD).own = [d.f]:=by simp [FD.own,p2]
  have hat:=h.upd (d':={ d with tx:=x' }) (s':=s) (H':=H2) (hS.get h.cells (by simpa using fun e=>hko.1 e.symm)) (by rw [hS.get h.map (by simpa using fun e=>hko.2 e.symm),h.map]) rfl (by rw [← h.files]; simp)
    ⟨by rw [g3,hsd]; rfl,by have:=p3 H2; rwa [List.take_length] at this⟩ (hS.mono fun a ha=>by simp [FD.own,List.mem_singleton.1 ha]) (by rw [hto]; simp) (fun y hy=>.inl (by rw [hto] at hy; simp [FD.own,List.mem_singleton.1 hy]))
  refine ⟨H2,_,?_,⟨⟨m,clk,_,hat,rfl⟩,hS.mono fun a ha=>by simp [FD.own,List.mem_singleton.1 ha],fun y hy=>?_⟩⟩
  · rw [store_Store_Restart_J2_eq]
    simp only [go_sem,hidx,aload_vpc,Nat.zero_add,l3,c6,hrem,hmul,hshr,hrem2,hcv,m1,m0,hlen,hs0,hmin,ha0,l1,hu0,s1,p1,s2,s3]
  · rw [List.mem_cons,List.mem_cons,List.flatMap_append,List.flatMap_cons,hto] at hy
    refine .inl ?_
    rw [List.mem_cons,List.mem_cons,List.flatMap_append,List.flatMap_cons]
    rcases hy with e | e | hy
    · exact .inl e
    · exact .inr (.inl e)
    · refine .inr (.inr ?_)
      simp only [List.mem_append] at hy ⊢
      rcases hy with k | k | k
      · exact .inl k
      · exact .inr (.inl (by simp [FD.own,List.mem_singleton.1 k]))
      · exact .inr (.inr k)
theorem restart_loop {o : Nat} {s : Sto} (hk : StoOk s) (hsy : ∀ f ∈ s.files, f.syn = f.text.length) {x : AV} {ns : List Txt} (hx : SS x ns) (hns : ∀ n ∈ ns, ∃ f, getF s.files n = some f) (hl : ns.length ≤ 64) (H0 : Hp) : ∀ (r d : List Txt) (H : Hp) (A : List Nat), ns = d ++ r → StoreAt H o s A →
    ∃ H' A',store_Store_Restart_L1 (.ptr o 0) (.int .u64 0) x (.int .i64 (ns.length:Int)) (.int .i64 (d.length:Int)) H0 H = some (.tuple [],H') ∧ StoRes H H' o s A A':=by
  intro r
  induction r with
  | nil =>
    intro d H A hd h
    rw [List.append_nil] at hd
    subst hd
    have hlt:decide ((ns.length:Int) < (ns.length:Int)) = false:=by simp
    refine ⟨H,A,?_,h,Stp.refl _ _,fun a ha=>.inl ha⟩
    rw [store_Store_Restart_L1_eq]
    simp only [go_sem,hlt]
  | cons n r ih =>
    intro d H A hd h
    have hlen2:ns.length = d.length + (r.length + 1):=by rw [hd]; simp
    have hlt:decide ((d.length:Int) < (ns.length:Int)) = true:=by simp; omega
    have hw1:IntKind.i64.wrap ((d.length:Int) + 1) = ((d.length + 1:Nat):Int):=by rw [wrap64 (by omega) (by omega)]; omega
    have hin:ns[d.length]? = some n:=by rw [hd,List.getElem?_append_right (Nat.le_refl _)]; simp
    obtain ⟨f,hf⟩:=hns n (by rw [hd]; simp)
    obtain ⟨H1,A1,q1,q2⟩:=restart_step h hk hsy hx hin (by omega) hf (.int .i64 (ns.length:Int)) H0
    obtain ⟨H2,A2,r1,r2⟩:=ih (d ++ [n]) H1 A1 (by rw [hd]; simp) q2.at'
    rw [List.length_append,List.length_singleton] at r1
    refine ⟨H2,A2,?_,q2.trans r2⟩
    rw [store_Store_Restart_L1_eq]
    simp only [go_sem,hlt,q1,store_Store_Restart_J3_eq,hw1]
    exact r1
theorem Restart0_run {H : Hp} {o : Nat} {s : Sto} {A : List Nat} (h : StoreAt H o s A) (hk : StoOk s) (hsy : ∀ f ∈ s.files, f.syn = f.text.length) :
    ∃ H' A',C_store_Store_Restart [.ptr o 0,.int .u64 0] H = some (.tuple [],H') ∧ StoRes H H' o { s with crashed:=false,count:=0 } A A':=by
  obtain ⟨m,clk,ds,h,rfl⟩:=h
  have hnil:ebin (.pointer 120) .eql (.ptr o 0) .nilp = some (.bool false):=rfl
  have hcl:H[o]? = some (.cells (stC m s)):=h.cells
  have s4:=stn hcl 4 (v:=.bool false) rfl rfl (by simp [stC])
  have g4:=get_set_eq (AObj.cells (List.set (stC m s) 4 (.bool false))) hcl
  have s5:=stn g4 5 (v:=.int .i64 0) rfl rfl (by simp [stC])
  have g5:=get_set_eq (AObj.cells (List.set (List.set (stC m s) 4 (.bool false)) 5 (.int .i64 0))) g4
  generalize hH1:H.set o (.cells (List.set (stC m s) 4 (.bool false))) = H1 at s4 g4 s5 g5
  generalize hH2:H1.set o (.cells (List.set (List.set (stC m s) 4 (.bool false)) 5 (.int .i64 0))) = H2 at s5 g5
  have hS:Stp [o] H H2:=by
    rw [← hH2,← hH1]
    exact (Stp.set _ _ (by simp)).trans (Stp.set _ _ (by simp)) (fun _ h=>h) fun _ h=>.inl h
  have h2:=h.cell (s':={ s with crashed:=false,count:=0 }) hS g5 rfl
  have hk2:StoOk { s with crashed:=false,count:=0 }:=⟨hk.limit,hk.used,hk.peak,hk.name,hk.nd,hk.syn,hk.len,by simp⟩
  obtain ⟨x,q1,q2⟩:=names_run h2 hk2
  have hnl:(sortK (s.files.map Fil.name)).length ≤ 64:=by rw [(sortK_perm _).length_eq,List.length_map]; exact hk.len
  obtain ⟨H',A',r1,r2⟩:=restart_loop (s:={ s with crashed:=false,count:=0 }) hk2 hsy q2 (fun n hn=>getF_mem ((sortK_mem _ _).1 hn)) hnl H _ [] H2 _ rfl ⟨m,clk,ds,h2,rfl⟩
  refine ⟨H',A',?_,(h2.res hS).trans r2⟩
  rw [F_store_Store_Restart_eq]
  unfold F_store_Store_Restart
  simp only [hnil,go_sem,store_Store_Restart_J1_eq,Nat.zero_add,s4,s5,q1,SS.len q2 9]
  exact r1
end Go.Am
