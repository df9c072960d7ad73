/-
  The store in the machine: failing at an operation, starting anew.
-/
import Derived.Test.YtebjpfbenjgglaaDoorTdAx
import Derived.Test.YtebjpfbenjgglaaDoorTdLcx
namespace Go.Am
set_option linter.unusedSimpArgs false
set_option linter.unusedVariables false
set_option linter.unusedSectionVars false
set_option maxRecDepth 100000

theorem TxAt.cut {H : Hp} {x : AV} {l : Txt} (h : TxAt H x l) {n : Nat} (hn : n ≤ l.length) :
    ∃ x',asliceV 1 x none (some (.int .i64 (n:Int))) (some (.int .i64 (n:Int)))=some x'∧tokA x'=[]∧(∀ H',TxAt H' x' (l.take n))∧x'.cells=[x']∧x'.known=true:=by
 have hb:abounds l.length l.length none (some (.int .i64 (n:Int))) (some (.int .i64 (n:Int)))=some (0,n,n):=by
  rw [abounds_hm (len:=l.length) (cap:=l.length) .i64 .i64 (by omega) (by omega) (by omega)]
  simp
 have key:∀ t,asliceV 1 (.vs 1 t (l.map bv)) none (some (.int .i64 (n:Int))) (some (.int .i64 (n:Int)))=some (.vs 1 .clip ((l.take n).map bv)):=fun t=>by
  unfold asliceV
  dsimp only
  rw [if_pos rfl,List.length_map,hb]
  simp
 rcases h with ⟨rfl,rfl⟩ | ⟨t,e,rfl,ht⟩ | rfl
 ·have:n=0:=by simpa using hn
  subst this
  exact ⟨.nils,by unfold asliceV;dsimp only;rw [show abounds 0 0 none (some (.int .i64 ((0:Nat):Int))) (some (.int .i64 ((0:Nat):Int)))=some (0,0,0) from by simpa using hb],rfl,fun _=>.inl ⟨rfl,rfl⟩,rfl,rfl⟩
 ·exact ⟨_,key _,rfl,fun _=>.inr (.inr rfl),rfl,rfl⟩
 ·exact ⟨_,key _,rfl,fun _=>.inr (.inr rfl),rfl,rfl⟩
theorem StoRes.trans {H H1 H2:Hp} {o:Nat} {s1 s2:Sto} {A A1 A2:List Nat} (h:StoRes H H1 o s1 A A1) (k:StoRes H1 H2 o s2 A1 A2):StoRes H H2 o s2 A A2 :=
 ⟨k.at',h.stp.trans k.stp (fun _ h=>h) (fun a ha=>h.own a ha),fun a ha=>(k.own a ha).elim (h.own a) fun hh=>.inr (Nat.le_trans h.stp.len hh)⟩
end Go.Am
namespace Go.Am
set_option linter.unusedSimpArgs false
set_option linter.unusedVariables false
set_option linter.unusedSectionVars false
set_option maxRecDepth 100000

theorem updF_names (l:List Fil) (n:Txt) (u:Fil→Fil) (h:∀ f,(u f).name=f.name):(updF l n u).map Fil.name=l.map Fil.name:=by
 induction l with
 | nil=>rfl
 | cons f l ih =>
  rw [updF]
  split
  ·simp [h]
  ·simp [ih]
theorem updF_all {P:Fil→Prop} (l:List Fil) (n:Txt) (u:Fil→Fil) (hl:∀ f ∈ l,P f) (h:∀ f,P f→P (u f)):∀ f ∈ updF l n u,P f:=by
 induction l with
 | nil=>intro f hf;cases hf
 | cons x l ih =>
  rw [updF]
  split
  ·intro f hf
   rcases List.mem_cons.1 hf with rfl | hf
   ·exact h x (hl x (by simp))
   ·exact hl f (by simp [hf])
  ·intro f hf
   rcases List.mem_cons.1 hf with rfl | hf
   ·exact hl _ (by simp)
   ·exact ih (fun g hg=>hl g (by simp [hg])) f hf
end Go.Am
namespace Go.Am
set_option linter.unusedSimpArgs false
set_option linter.unusedVariables false
set_option linter.unusedSectionVars false
set_option maxRecDepth 100000

theorem RowN.stp {N:Nat} {H H':Hp} {x:AV} {l:List AV} {A:List Nat} (h:RowN N H 1 x l) (hs:Stp A H H') (hA:∀ a ∈ A,a < N):RowN N H' 1 x l:=by
 rcases h with k | ⟨t,e,k1,k2,k3⟩
 ·exact .inl k
 ·exact .inr ⟨t,e,k1,hs.get k2 fun hh=>by have:=hA t hh;omega,k3⟩
theorem RowN.ss {N:Nat} {H:Hp} {x:AV} {l:List Txt} (h:RowN N H 1 x (l.map AV.str)):SS x l:=h.imp id fun ⟨t,e,a,_⟩=>⟨_,a⟩
section
variable {o t N:Nat} {tm:Tmp} {s:Sto} {A:List Nat} {n:Txt} {f:Fil} {ls:List Txt} (hm:TmpOk tm) (hk:StoOk s) (hf:tmFind tm n=0) (hc:s.crashed=false) (h0:s.count=0) (hg:getF s.files n=some f) (ht:f.text=encS ls) (hfit:fitsR ls=true) (hlen:f.text.length≤262144) (hl:ls.length≤1048576) (hA:∀ a ∈ A,a < N)
include hm hk hf hc h0 hg ht hfit hlen hl hA
end
end Go.Am
namespace Go.Am
set_option linter.unusedSimpArgs false
set_option linter.unusedVariables false
set_option linter.unusedSectionVars false
set_option maxRecDepth 100000

theorem SS.lo {x:AV} {l:List Str} (h:SS x l) {n:Nat} (hn:n≤l.length):∃ x',asliceV 1 x (some (.int .i64 (n:Int))) none none=some x'∧SS x' (l.drop n):=by
 rcases h with ⟨rfl,h0⟩ | ⟨tok,rfl⟩
 ·have:l=[]:=List.map_eq_nil_iff.1 h0
  subst this
  have hn0:n=0:=by simpa using hn
  subst hn0
  exact ⟨.nils,asliceV_nils_lo 1 .i64,.inl ⟨rfl,rfl⟩⟩
 ·exact ⟨_,asliceV_lo 1 tok .i64 (by omega) (by simp;omega),.inr ⟨tok,by simp⟩⟩
theorem asliceV_hi {l:List AV} {n:Nat} (z:Nat) (t:Tok) (h1:n≤l.length):∃ t',asliceV z (.vs z t l) none (some (.int .i64 (n:Int))) none=some (.vs z t' (l.take n)):=by
 refine ⟨if n=l.length then t else .no,?_⟩
 simp only [asliceV]
 delta abounds
 simp [abound,h1]
theorem SS.hi {x:AV} {l:List Str} (h:SS x l) {n:Nat} (hn:n≤l.length):∃ x',asliceV 1 x none (some (.int .i64 (n:Int))) none=some x'∧SS x' (l.take n):=by
 rcases h with ⟨rfl,h0⟩ | ⟨tok,rfl⟩
 ·have:l=[]:=List.map_eq_nil_iff.1 h0
  subst this
  have hn0:n=0:=by simpa using hn
  subst hn0
  refine ⟨.nils,?_,.inl ⟨rfl,by simp⟩⟩
  simp only [asliceV]
  delta abounds
  simp [abound]
 ·obtain ⟨t',h1⟩:=asliceV_hi 1 tok (l:=l.map AV.str) (n:=n) (by simp;omega)
  exact ⟨_,h1,.inr ⟨t',by simp⟩⟩

abbrev rS (pk:Nat) (fs:List Fil) (cr:Bool) (c:Nat):Sto:=⟨262144,pk,fs,cr,c⟩
theorem costR_lines (l:List Txt):costR l=linesN l+6 * l.length:=by
 induction l with
 | nil=>rfl
 | cons s l ih=>simp only [costR,linesN,ih,List.length_cons];omega
theorem getF_updF {l:List Fil} {n m:Txt} {u:Fil→Fil} (hu:∀ g,(u g).name=g.name):getF (updF l m u) n=if n=m then (getF l n).map u else getF l n:=by
 induction l with
 | nil=>simp [updF,getF]
 | cons g l ih =>
  rw [updF]
  by_cases h:m=g.name
  ·rw [if_pos h]
   by_cases hn:n=g.name
   ·have:n=m:=hn.trans h.symm
    rw [if_pos this]
    simp [getF,hu,hn]
   ·have:n ≠ m:=fun e=>hn (e.trans h)
    rw [if_neg this]
    simp [getF,hu,hn]
  ·rw [if_neg h]
   by_cases hn:n=g.name
   ·have:n ≠ m:=fun e=>h (e.symm.trans hn)
    rw [if_neg this]
    simp [getF,hn]
   ·simp only [getF,if_neg hn]
    exact ih
section
variable {x:AV} {l:List Txt} (hx:SS x l) (hl8:l.length≤8) (hsum:linesN l≤5000) (hfit:fitsR l=true) (kept:Nat)
include hx hl8 hsum hfit
end
end Go.Am
namespace Go.Am
set_option linter.unusedSimpArgs false
set_option linter.unusedVariables false
set_option linter.unusedSectionVars false
set_option maxRecDepth 100000

theorem Used18_run {H:Hp} {t:Nat} {s:Sto} {S:List Nat} (h:StoreAt H t s S):C_store_Store_Used [.ptr t 0] H=some (.int .i64 (usedL s.files:Int),H):=by
 obtain ⟨m,clk,ds,h,rfl⟩:=h
 have hnil:ebin (.pointer 68) .eql (.ptr t 0) .nilp=some (.bool false):=rfl
 have l1:=ldn h.cells 1 (v:=.int .i64 (usedL s.files:Int)) rfl
 rw [F_store_Store_Used_eq]
 unfold F_store_Store_Used
 simp only [hnil,go_sem,store_Store_Used_J1_eq,Nat.zero_add,l1]
theorem CloseC_run {H:Hp} {o t:Nat} {tm:Tmp} {s:Sto} {A:List Nat} (h:SysAt H o t tm s A) (hcl:tm.closed=true):C_tempfile_Temps_Close [.ptr o 0] H=some (.int .i64 8,H):=by
 obtain ⟨B,S,⟨ms,clk,nx,sl,h1,rfl⟩,h2,h3,rfl⟩:=h
 have hnil:ebin (.pointer 89) .eql (.ptr o 0) .nilp=some (.bool false):=rfl
 have l6:=ldn h1.cells 6 (v:=.bool true) (by rw [hcl];rfl)
 rw [F_tempfile_Temps_Close_eq]
 unfold F_tempfile_Temps_Close
 simp only [hnil,go_sem,tempfile_Temps_Close_J1_eq,Nat.zero_add,l6]
theorem TRemove_err {H:Hp} {o t:Nat} {tm:Tmp} {s:Sto} {A:List Nat} (h:SysAt H o t tm s A) (hm:TmpOk tm) {n:Txt} (hf:tmFind tm n ≠ 0):C_tempfile_Temps_Remove [.ptr o 0,.str n] H=some (.int .i64 (tmFind tm n),H):=by
 obtain ⟨B,S,⟨ms,clk,nx,sl,h1,rfl⟩,h2,h3,rfl⟩:=h
 have hfr:=find_run h1 hm n
 have e0:(tmFind tm n != 0)=true:=by simpa using hf
 rw [F_tempfile_Temps_Remove_eq]
 unfold F_tempfile_Temps_Remove
 simp only [hfr,go_sem,e0]
theorem TRemove_ok {H : Hp} {o t : Nat} {tm : Tmp} {s : Sto} {A : List Nat} (h : SysAt H o t tm s A) (hm : TmpOk tm) (hk : StoOk s) (hc : s.crashed = false) (h0 : s.count = 0) {n : Txt} (hf : tmFind tm n = 0) (hne : tm.names ≠ []) {f : Fil} (hg : getF s.files n = some f) :
    ∃ H' A' sl,C_tempfile_Temps_Remove [.ptr o 0,.str n] H=some (.int .i64 0,H')∧SysRes H H' o t { tm with names:=keptL n tm.names,sld:=sl } { s with files:=rmF s.files n } A A':=by
 obtain ⟨B,S,⟨ms,clk,nx,sl,h1,rfl⟩,h2,h3,rfl⟩:=h
 have hfr:=find_run h1 hm n
 have e0:(tmFind tm n != 0)=false:=by rw [hf];rfl
 have ez:((0:Int) != 0)=false:=rfl
 have l0:=ldn h1.cells 0 (v:=.ptr t 0) rfl
 have hrem:s.remove n=(0,{ s with files:=rmF s.files n }):=by
  unfold Sto.remove
  rw [tick_still hc h0,if_neg (by simp [hc]),hg]
 obtain ⟨H1,S1,r1,r2⟩:=Remove_run h2 hk n
 rw [hrem] at r1 r2
 have hr1:=SysAt.store (o:=o) (tm:=tm) ⟨ms,clk,nx,sl,h1,rfl⟩ h3 r2
 have h1':TmAt H1 o t ms clk nx sl tm:=h1.frame fun a ha=>r2.stp.at' a (h1.lt a ha) (h3 a ha)
 obtain ⟨H2,nx2,sl2,q1,q2,q3,q4⟩:=forget_run h1' hm n hne
 have hS1lt:=r2.at'.lt
 have hd1:∀ a ∈ o :: ms :: tokA nx,a ∉ S1:=fun a ha hs=>by
  rcases r2.own a hs with k1 | k1
  ·exact h3 a ha k1
  ·have:=h1.lt a ha;omega
 have hsto2:StoreAt H2 t { s with files:=rmF s.files n } S1:=r2.at'.stp q3 fun a ha hx=>hd1 a hx ha
 have hd2:∀ a ∈ o :: ms :: tokA nx2,a ∉ S1:=fun a ha hs=>by
  rcases List.mem_cons.1 ha with e | ha
  ·exact hd1 a (by simp [e]) hs
  rcases List.mem_cons.1 ha with e | ha
  ·exact hd1 a (by simp [e]) hs
  ·have:=q4 a ha
   have:=hS1lt a hs
   omega
 have hlo:=r2.stp.len
 have hl0:H.length≤H1.length:=hlo
 refine ⟨H2,(o :: ms :: tokA nx2)++S1,sl2.map (·.1),?_,⟨_,S1,⟨ms,clk,nx2,sl2,q2,rfl⟩,hsto2,hd2,rfl⟩,hr1.stp.trans q3 (fun _ h=>h) fun a ha=>.inl (List.mem_append_left _ ha),fun a ha=>?_⟩
 ·rw [F_tempfile_Temps_Remove_eq]
  unfold F_tempfile_Temps_Remove
  simp only [hfr,go_sem,e0,tempfile_Temps_Remove_J1_eq,Nat.zero_add,l0,r1,ez,tempfile_Temps_Remove_J2_eq,q1]
 ·rcases List.mem_append.1 ha with k | k
  ·rcases List.mem_cons.1 k with e | k
   ·exact .inl (by simp [e])
   rcases List.mem_cons.1 k with e | k
   ·exact .inl (by simp [e])
   ·have:=q4 a k;exact .inr (by omega)
  ·rcases r2.own a k with k1 | k1
   ·exact .inl (List.mem_append_right _ k1)
   ·exact .inr k1
theorem fil_cmp (a a' : Txt) (m m' n n' : Int) : aeqBin Go.Proofs.Tryd.prog cfg.eqok .neq 83 (.agg [.str a, .int .i64 m, .int .i64 n]) (.agg [.str a', .int .i64 m', .int .i64 n']) =
    (match (match some (a == a') with
     | some true=>(match some (m == m') with
      | some true=>(match some (n == n') with
       | some true=>some true
       | r=>r)
      | r=>r)
     | r=>r:Option Bool) with
    | some b=>some (.bool (!b))
    | none=>none):=by kernel_rfl
theorem fil_eq (f:Fil):aeqBin Go.Proofs.Tryd.prog cfg.eqok .neq 83 (filAV f) (filAV f)=some (.bool false):=by
 unfold filAV
 rw [fil_cmp]
 simp
theorem sameF_loop {x z : AV} {l : List Fil} (hx : Sl 3 x (l.map filAV)) (hz : Sl 3 z (l.map filAV)) (hl : l.length ≤ 64) (H0 H : Hp) : ∀ (r d : List Fil), l = d ++ r →
    R18_SameFiles_L1 x z (.int .i64 (d.length:Int)) H0 H=some (.bool true,H):=by
 have hxl:alenD (.slice 83) x=some (.int .i64 (l.length:Int)):=by
  have:=Sl.len hx 83
  rwa [List.length_map] at this
 intro r
 induction r with
 | nil =>
  intro d hd
  rw [List.append_nil] at hd
  subst hd
  have hlt:decide ((l.length:Int) < (l.length:Int))=false:=by simp
  rw [R18_SameFiles_L1_eq]
  simp only [go_sem,hxl,hlt,R18_SameFiles_J2_eq]
 | cons f r ih =>
  intro d hd
  have hlen:l.length=d.length+(r.length+1):=by rw [hd];simp
  have hlt:decide ((d.length:Int) < (l.length:Int))=true:=by simp;omega
  have hw1:IntKind.i64.wrap ((d.length:Int)+1)=((d.length+1:Nat):Int):=by rw [wrap64 (by omega) (by omega)];omega
  have hif:l[d.length]?=some f:=by rw [hd,List.getElem?_append_right (Nat.le_refl _)];simp
  have hix:aindexS 3 x (.int .i64 (d.length:Int))=some (.vp (filAV f).cells):=Sl.idx hx (c:=filAV f) (by simp [hif])
  have hiz:aindexS 3 z (.int .i64 (d.length:Int))=some (.vp (filAV f).cells):=Sl.idx hz (c:=filAV f) (by simp [hif])
  have k:=ih (d++[f]) (by rw [hd];simp)
  rw [List.length_append,List.length_singleton] at k
  rw [R18_SameFiles_L1_eq]
  simp only [go_sem,hxl,hlt,R18_SameFiles_J3_eq,hix,hiz,load_fil,fil_eq,R18_SameFiles_J4_eq,hw1]
  exact k
theorem Sl.closeF {x:AV} {l:List Fil} (h:Sl 3 x (l.map filAV)):∃ x',closeV [] 0 6 x=some x'∧Sl 3 x' (l.map filAV):=by
 rcases h with ⟨rfl,e⟩ | ⟨tk,rfl⟩
 ·exact ⟨.nils,rfl,.inl ⟨rfl,e⟩⟩
 ·exact ⟨_,by rw [closeV_vs',mapM_fil],.inr ⟨_,rfl⟩⟩
theorem sameF_flat {x z:AV} {l:List Fil} (hx:Sl 3 x (l.map filAV)) (hz:Sl 3 z (l.map filAV)) (hl:l.length≤64) (H:Hp):flatC C_R18_SameFiles [x,z] H=some (.bool true,H):=by
 obtain ⟨x',hx1,hx2⟩:=hx.closeF
 obtain ⟨z',hz1,hz2⟩:=hz.closeF
 refine flat2 hx1 hz1 (H1:=[]) ?_ rfl
 have hne:((l.length:Int) != (l.length:Int))=false:=by simp
 have hxl:=Sl.len hx2 83
 have hzl:=Sl.len hz2 83
 rw [List.length_map] at hxl hzl
 rw [F_R18_SameFiles_eq]
 unfold F_R18_SameFiles
 simp only [go_sem,hxl,hzl,hne,R18_SameFiles_J1_eq]
 exact sameF_loop hx2 hz2 hl [] [] l [] rfl
end Go.Am
namespace Go.Am
set_option linter.unusedSimpArgs false
set_option linter.unusedVariables false
set_option linter.unusedSectionVars false
set_option maxRecDepth 100000

structure Bnd (tm:Tmp) (s:Sto) (L k:Nat):Prop where
 ok:TmpOk tm
 sto:StoOk s
 calm:s.crashed=false∧s.count=0
 lim:tm.limit=L
 used:usedN tm.names s.files≤L
 last:tm.last≤k
 nd:tm.names.Nodup
 files:∀ n ∈ tm.names,getF s.files n ≠ none
 opn:tm.closed=false
theorem usedN_sub {a b:List Txt} (h:∀ n ∈ a,n ∈ b) (l:List Fil):usedN a l≤usedN b l:=by
 induction l with
 | nil=>simp [usedN]
 | cons f l ih =>
  simp only [usedN]
  by_cases h1:f.name ∈ a
  ·rw [if_pos h1,if_pos (h _ h1)];omega
  ·rw [if_neg h1];omega
theorem usedN_rm (nm:List Txt) (l:List Fil) (n:Txt):usedN nm (rmF l n)≤usedN nm l:=by
 induction l with
 | nil=>simp [usedN,rmF]
 | cons f l ih =>
  rw [rmF]
  split
  ·simp only [usedN];omega
  ·simp only [usedN];omega
theorem usedN_upd (nm:List Txt) (l:List Fil) (n:Txt) (u:Fil→Fil) (k:Nat) (hn:∀ f,(u f).name=f.name) (hu:∀ f,(u f).text.length≤f.text.length+k):usedN nm (updF l n u)≤usedN nm l+k:=by
 induction l with
 | nil=>simp [usedN,updF]
 | cons f l ih =>
  rw [updF]
  split
  ·simp only [usedN,hn]
   have:=hu f
   split <;> omega
  ·simp only [usedN];omega
theorem usedL_upd (l:List Fil) (n:Txt) (u:Fil→Fil) (k:Nat) (hu:∀ f,(u f).text.length≤f.text.length+k):usedL (updF l n u)≤usedL l+k:=by
 induction l with
 | nil=>simp [usedL,updF]
 | cons f l ih =>
  rw [updF]
  split
  ·have:=hu f
   simp only [usedL];omega
  ·simp only [usedL];omega
theorem usedN_new (nm:List Txt) (l:List Fil) (n:Txt) (h:getF l n=none):usedN (nm++[n]) l=usedN nm l:=by
 have hh:=getF_none.1 h
 induction l with
 | nil=>simp [usedN]
 | cons f l ih =>
  have hf:f.name ≠ n:=hh f (by simp)
  have hl:getF l n=none:=getF_none.2 fun g hg=>hh g (by simp [hg])
  simp only [usedN,ih hl (fun g hg=>hh g (by simp [hg]))]
  have:(f.name ∈ nm++[n])=(f.name ∈ nm):=by simp [hf]
  simp only [this]
theorem getF_app_ne {l:List Fil} {n:Txt} (h:getF l n ≠ none) (f:Fil):getF (l++[f]) n ≠ none:=by
 induction l with
 | nil=>simp [getF] at h
 | cons g l ih =>
  rw [List.cons_append]
  unfold getF at h ⊢
  split
  ·exact fun h=>by cases h
  ·rename_i hn
   rw [if_neg hn] at h
   exact ih h
theorem upd_ok {s:Sto} (hk:StoOk s) (n:Txt) (u:Fil→Fil) (k p:Nat) (hn:∀ f,(u f).name=f.name) (hu:∀ f,(u f).text.length≤f.text.length+k) (hs:∀ f,f.syn≤f.text.length→(u f).syn≤(u f).text.length) (hl:usedL s.files+k≤s.limit) (hp:p≤s.limit):StoOk { s with files:=updF s.files n u,peak:=p }:=by
 have h1:=updF_names s.files n u hn
 have h2:=usedL_upd s.files n u k hu
 have h4:=hk.len
 refine ⟨hk.limit,Nat.le_trans h2 hl,hp,updF_all (P:=fun f=>nameB f.name=true) s.files n _ hk.name fun f h=>by rw [hn];exact h,by show ((updF s.files n u).map Fil.name).Nodup;rw [h1];exact hk.nd,updF_all (P:=fun f=>f.syn≤f.text.length) s.files n _ hk.syn hs,?_,hk.count⟩
 show (updF s.files n u).length≤64
 have:=congrArg List.length h1
 rw [List.length_map,List.length_map] at this
 omega
theorem upd_files {s:Sto} {nm:List Txt} (h:∀ n ∈ nm,getF s.files n ≠ none) (n:Txt) (u:Fil→Fil) (hn:∀ f,(u f).name=f.name):∀ m ∈ nm,getF (updF s.files n u) m ≠ none:=by
 intro m hm
 rw [getF_updF hn]
 split
 ·have:=h m hm
  cases hg:getF s.files m with
  | none=>exact absurd hg this
  | some f=>exact fun h=>by cases h
 ·exact h m hm
theorem new_inv {tm:Tmp} {s:Sto} {L k:Nat} (h:Bnd tm s L k) (hk:k < 1000000):Bnd (tmNew tm s).2.1 (tmNew tm s).2.2 L (k+1)∧((tmNew tm s).1.2 ≠ 0→(tmNew tm s).2.2=s):=by
 have hup:Bnd tm s L (k+1):=⟨h.ok,h.sto,h.calm,h.lim,h.used,Nat.le_succ_of_le h.last,h.nd,h.files,h.opn⟩
 have h1:=h.last
 unfold tmNew
 rw [if_neg (by simp [h.opn])]
 generalize hn:tmpName tm.owner (tm.last+1)=n
 unfold Sto.create
 rw [tick_still h.calm.1 h.calm.2,if_neg (by simp [h.calm.1])]
 cases hb:nameB n with
 | false=>exact ⟨hup,fun _=>rfl⟩
 | true =>
  rw [if_neg (by simp)]
  cases hg:getF s.files n with
  | some f=>exact ⟨hup,fun _=>rfl⟩
  | none =>
   dsimp only
   by_cases h64:64≤s.files.length
   ·rw [if_pos h64];exact ⟨hup,fun _=>rfl⟩
   ·rw [if_neg h64]
    have hl:=h.ok.len
    have hnn:n ∉ tm.names:=fun hh=>h.files n hh hg
    have hfn:n ∉ s.files.map Fil.name:=fun hh=>by
     obtain ⟨f,hf,e⟩:=List.mem_map.1 hh
     exact getF_none.1 hg f hf e
    refine ⟨⟨⟨h.ok.owner,h.ok.limit,by show (tm.names++[n]).length≤tm.last+1;simp;omega,by show tm.last+1≤1000000;omega⟩,⟨h.sto.limit,by show usedL (s.files++[(⟨n,[],0⟩:Fil)])≤s.limit;rw [usedL_app];simpa [usedL] using h.sto.used,h.sto.peak,?_,?_,?_,by show (s.files++[(⟨n,[],0⟩:Fil)]).length≤64;simp;omega,h.sto.count⟩,h.calm,h.lim,?_,by show tm.last+1≤k+1;omega,?_,?_,h.opn⟩,fun h=>absurd rfl h⟩
    ·intro f hf
     rcases List.mem_append.1 hf with hf | hf
     ·exact h.sto.name f hf
     ·rw [List.mem_singleton.1 hf];exact hb
    ·show ((s.files++[(⟨n,[],0⟩:Fil)]).map Fil.name).Nodup
     rw [List.map_append,List.nodup_append]
     exact ⟨h.sto.nd,by simp,fun a ha b hb=>by
      simp at hb
      subst hb
      exact fun e=>hfn (e ▸ ha)⟩
    ·intro f hf
     rcases List.mem_append.1 hf with hf | hf
     ·exact h.sto.syn f hf
     ·rw [List.mem_singleton.1 hf];exact Nat.le_refl _
    ·show usedN (tm.names++[n]) (s.files++[(⟨n,[],0⟩:Fil)])≤L
     rw [usedN_app,usedN_new _ _ _ hg]
     have:=h.used
     simp [usedN]
     exact this
    ·show (tm.names++[n]).Nodup
     rw [List.nodup_append]
     exact ⟨h.nd,by simp,fun a ha b hb=>by
      simp at hb
      subst hb
      exact fun e=>hnn (e ▸ ha)⟩
    ·intro m hm
     rcases List.mem_append.1 hm with hm | hm
     ·exact getF_app_ne (h.files m hm) _
     ·rw [List.mem_singleton.1 hm]
      show getF (s.files++[(⟨n,[],0⟩:Fil)]) n ≠ none
      rw [getF_app hg _ rfl]
      exact fun h=>by cases h
theorem write_inv {tm:Tmp} {s:Sto} {L k:Nat} (h:Bnd tm s L k) (n:Txt) (l:List Txt):Bnd tm (tmWrite tm s n l).2 L (k+1)∧((tmWrite tm s n l).1 ≠ 0→(tmWrite tm s n l).2=s):=by
 have hup:Bnd tm s L (k+1):=⟨h.ok,h.sto,h.calm,h.lim,h.used,Nat.le_succ_of_le h.last,h.nd,h.files,h.opn⟩
 unfold tmWrite
 by_cases hf:tmFind tm n=0
 ·rw [if_neg (by simp [hf])]
  by_cases hs:n ∈ tm.sld
  ·rw [if_pos hs];exact ⟨hup,fun _=>rfl⟩
  ·rw [if_neg hs]
   cases hfit:fitsR l with
   | false=>exact ⟨hup,fun _=>rfl⟩
   | true =>
    rw [if_neg (by simp)]
    by_cases hb:(tm.limit:Int) - (tmUsed tm s:Int) < (costR l:Int)
    ·rw [if_pos hb];exact ⟨hup,fun _=>rfl⟩
    ·rw [if_neg hb]
     unfold Sto.append
     rw [tick_still h.calm.1 h.calm.2,if_neg (by simp [h.calm.1])]
     cases hg:getF s.files n with
     | none=>exact ⟨hup,fun _=>rfl⟩
     | some f =>
      dsimp only
      by_cases hl:s.limit < usedL s.files+(encS l).length
      ·rw [if_pos hl];exact ⟨hup,fun _=>rfl⟩
      ·rw [if_neg hl]
       have hu:=h.used
       have hli:=h.lim
       have hpk:=h.sto.peak
       have hel:=encS_len l
       refine ⟨⟨h.ok,upd_ok h.sto n _ (encS l).length _ (fun _=>rfl) (fun f=>by simp) (fun f hf=>by simp;omega) (by omega) (by omega),h.calm,h.lim,?_,Nat.le_succ_of_le h.last,h.nd,upd_files h.files n _ (fun _=>rfl),h.opn⟩,fun h=>absurd rfl h⟩
       have:=usedN_upd tm.names s.files n (fun f=>{ f with text:=f.text++encS l }) (encS l).length (fun _=>rfl) (fun f=>by simp)
       unfold tmUsed at hb
       show usedN tm.names (updF s.files n fun f=>{ f with text:=f.text++encS l })≤L
       omega
 ·rw [if_pos hf];exact ⟨hup,fun _=>rfl⟩
theorem seal_inv {tm:Tmp} {s:Sto} {L k:Nat} (h:Bnd tm s L k) (n:Txt):Bnd (tmSeal tm s n).2.1 (tmSeal tm s n).2.2 L (k+1)∧((tmSeal tm s n).1 ≠ 0→(tmSeal tm s n).2.2=s):=by
 have hup:Bnd tm s L (k+1):=⟨h.ok,h.sto,h.calm,h.lim,h.used,Nat.le_succ_of_le h.last,h.nd,h.files,h.opn⟩
 unfold tmSeal
 by_cases hf:tmFind tm n=0
 ·rw [if_neg (by simp [hf])]
  cases hg:getF s.files n with
  | none =>
   have hsy:s.sync n=(5,s):=by
    unfold Sto.sync
    rw [tick_still h.calm.1 h.calm.2,if_neg (by simp [h.calm.1]),hg]
   rw [hsy]
   exact ⟨hup,fun _=>rfl⟩
  | some f =>
   have hsy:s.sync n=(0,{ s with files:=updF s.files n fun f=>{ f with syn:=f.text.length } }):=by
    unfold Sto.sync
    rw [tick_still h.calm.1 h.calm.2,if_neg (by simp [h.calm.1]),hg]
   rw [hsy,if_neg (by simp)]
   have hp:=h.sto.peak
   have hu:=h.used
   have hus:=h.sto.used
   refine ⟨⟨⟨h.ok.owner,h.ok.limit,h.ok.len,h.ok.last⟩,upd_ok h.sto n (fun f=>{ f with syn:=f.text.length }) 0 s.peak (fun _=>rfl) (fun f=>by simp) (fun f hf=>by simp) (by omega) hp,h.calm,h.lim,?_,Nat.le_succ_of_le h.last,h.nd,upd_files h.files n _ (fun _=>rfl),h.opn⟩,fun h=>absurd rfl h⟩
   have:=usedN_upd tm.names s.files n (fun f=>{ f with syn:=f.text.length }) 0 (fun _=>rfl) (fun f=>by simp)
   show usedN tm.names (updF s.files n fun f=>{ f with syn:=f.text.length })≤L
   omega
 ·rw [if_pos hf];exact ⟨hup,fun _=>rfl⟩
theorem remove_inv {tm:Tmp} {s:Sto} {L k:Nat} (h:Bnd tm s L k) (n:Txt) (sl:List Txt):Bnd { tm with names:=keptL n tm.names,sld:=sl } { s with files:=rmF s.files n } L (k+1):=by
 have hsub:∀ m ∈ keptL n tm.names,m ∈ tm.names:=fun m hm=>(List.mem_filter.1 hm).1
 have hkl:(keptL n tm.names).length≤tm.names.length:=List.length_filter_le _ _
 have hl:=h.ok.len
 have hu:=h.used
 refine ⟨⟨h.ok.owner,h.ok.limit,by show (keptL n tm.names).length≤tm.last;omega,h.ok.last⟩,rm_ok h.sto n,h.calm,h.lim,?_,Nat.le_succ_of_le h.last,h.nd.sublist List.filter_sublist,fun m hm=>?_,h.opn⟩
 ·have h1:=usedN_rm (keptL n tm.names) s.files n
  have h2:=usedN_sub hsub s.files
  show usedN (keptL n tm.names) (rmF s.files n)≤L
  omega
 ·have hne : m ≠ n := fun e => by
     have:=(List.mem_filter.1 hm).2
     simp [e] at this
  show getF (rmF s.files n) m ≠ none
  rw [rmF_ne hne]
  exact h.files m (hsub m hm)
end Go.Am
namespace Go.Am
set_option linter.unusedSimpArgs false
set_option linter.unusedVariables false
set_option linter.unusedSectionVars false
set_option maxRecDepth 100000

abbrev resC (s:Txt) (n e:Int):List AV:=[.str s,.int .i64 n,.int .i64 e]
theorem res_store {H : Hp} {o : Nat} {l : List AV} (h : H[o]? = some (.cells l)) (hl : l.length = 3) (s : Txt) (n e : Int) :
    astoreU 3 (.ptr o 0) (.agg (resC s n e)) H=some (.tuple [],H.set o (.cells (resC s n e)))∧aload true 3 (.ptr o 0) (H.set o (.cells (resC s n e)))=some (.agg (resC s n e)):=by
 constructor
 ·rw [astore_of (v:=.agg (resC s n e)) (sz:=3) h rfl rfl (by omega)]
  congr 3
  obtain ⟨a,b,c,rfl⟩:∃ a b c,l=[a,b,c]:=match l,hl with | [a,b,c],_=>⟨a,b,c,rfl⟩
  rfl
 ·rw [aload_of (get_set_eq _ h)]
  simp [Go.Am.apart]
end Go.Am
namespace Go.Am
set_option linter.unusedSimpArgs false
set_option linter.unusedVariables false
set_option linter.unusedSectionVars false
set_option maxRecDepth 100000

def Good (tm:Tmp) (s:Sto) (L k:Nat):Prop:=(tm.closed=true∧TmpOk tm∧StoOk s∧s.crashed=false∧s.count=0) ∨ Bnd tm s L k
theorem Good.ok {tm:Tmp} {s:Sto} {L k:Nat} (h:Good tm s L k):TmpOk tm:=h.elim (fun h=>h.2.1) fun h=>h.ok
theorem Good.sto {tm:Tmp} {s:Sto} {L k:Nat} (h:Good tm s L k):StoOk s:=h.elim (fun h=>h.2.2.1) fun h=>h.sto
theorem Good.calm {tm:Tmp} {s:Sto} {L k:Nat} (h:Good tm s L k):s.crashed=false∧s.count=0:=h.elim (fun h=>h.2.2.2) fun h=>h.calm
theorem Bnd.up {tm:Tmp} {s:Sto} {L k:Nat} (h:Bnd tm s L k):Bnd tm s L (k+1):=⟨h.ok,h.sto,h.calm,h.lim,h.used,Nat.le_succ_of_le h.last,h.nd,h.files,h.opn⟩
theorem Good.up {tm:Tmp} {s:Sto} {L k:Nat} (h:Good tm s L k):Good tm s L (k+1):=h.imp id fun h=>h.up
theorem NewC_run {H:Hp} {o t:Nat} {tm:Tmp} {s:Sto} {A:List Nat} (h:SysAt H o t tm s A) (hcl:tm.closed=true):C_tempfile_Temps_New [.ptr o 0] H=some (.tuple [.str [],.int .i64 8],H):=by
 obtain ⟨B,S,⟨ms,clk,nx,sl,h1,rfl⟩,h2,h3,rfl⟩:=h
 have hnil:ebin (.pointer 89) .eql (.ptr o 0) .nilp=some (.bool false):=rfl
 have l6:=ldn h1.cells 6 (v:=.bool true) (by rw [hcl];rfl)
 rw [F_tempfile_Temps_New_eq]
 unfold F_tempfile_Temps_New
 simp only [hnil,go_sem,tempfile_Temps_New_J1_eq,Nat.zero_add,l6]
section
variable {o t L k:Nat} {tm:Tmp} {s:Sto} {A:List Nat} {H:Hp} (h:SysAt H o t tm s A) (hg:Good tm s L k) (hk:k < 1000000)
include h hg hk
theorem new_live:∃ H' A' tm' s' tx e,C_tempfile_Temps_New [.ptr o 0] H=some (.tuple [.str tx,.int .i64 e],H')∧SysRes H H' o t tm' s' A A'∧Good tm' s' L (k+1)∧(e ≠ 0→s'=s):=by
 rcases hg with hc | hb
 ·exact ⟨H,A,tm,s,[],8,NewC_run h hc.1,h.self,.inl hc,fun _=>rfl⟩
 ·obtain ⟨H',A',r1,r2⟩:=TNew_run h hb.ok hb.sto (by have:=hb.last;omega)
  obtain ⟨i1,i2⟩:=new_inv hb hk
  exact ⟨H',A',_,_,_,_,r1,r2,.inr i1,i2⟩
theorem write_live (n:Txt) {x:AV} {l:List Txt} (hx:SS x l) (hL:∀ s ∈ l,s.length≤1048576) (hl:costR l≤1048576):∃ H' A' s' e,C_tempfile_Temps_Write [.ptr o 0,.str n,x] H=some (.int .i64 e,H')∧SysRes H H' o t tm s' A A'∧Good tm s' L (k+1)∧(e ≠ 0→s'=s):=by
 obtain ⟨H',A',r1,r2⟩:=Write_run h hg.ok hg.sto n hx hL hl
 rcases hg with hc | hb
 ·have : tmWrite tm s n l = (8, s) := by
     unfold tmWrite
     have hf:tmFind tm n=8:=by unfold tmFind;rw [if_pos hc.1]
     rw [if_pos (by rw [hf];decide),hf]
  rw [this] at r1 r2
  exact ⟨H',A',s,8,r1,r2,.inl hc,fun _=>rfl⟩
 ·obtain ⟨i1,i2⟩:=write_inv hb n l
  exact ⟨H',A',_,_,r1,r2,.inr i1,i2⟩
theorem seal_live (n:Txt):∃ H' A' tm' s' e,C_tempfile_Temps_Seal [.ptr o 0,.str n] H=some (.int .i64 e,H')∧SysRes H H' o t tm' s' A A'∧Good tm' s' L (k+1)∧(e ≠ 0→s'=s):=by
 obtain ⟨H',A',r1,r2⟩:=Seal_run h hg.ok hg.sto n
 rcases hg with hc | hb
 ·have : tmSeal tm s n = (8, (tm, s)) := by
     unfold tmSeal
     have hf:tmFind tm n=8:=by unfold tmFind;rw [if_pos hc.1]
     rw [if_pos (by rw [hf];decide),hf]
  rw [this] at r1 r2
  exact ⟨H',A',tm,s,8,r1,r2,.inl hc,fun _=>rfl⟩
 ·obtain ⟨i1,i2⟩:=seal_inv hb n
  exact ⟨H',A',_,_,_,r1,r2,.inr i1,i2⟩
theorem read_live (n:Txt) (i:Int) (hi:-9223372036854775808≤i∧i≤9223372036854775807):∃ H' tx m e,C_tempfile_Temps_Read [.ptr o 0,.str n,.int .i64 i] H=some (.tuple [.str tx,.int .i64 m,.int .i64 e],H')∧SysRes H H' o t tm s A A:=by
 obtain ⟨H',r1,r2,r3⟩:=TRead_any h hg.ok hg.sto n i hi
 rw [tick_still hg.calm.1 hg.calm.2,ite_self] at r2
 exact ⟨H',_,_,_,r1,r2,r3,fun a ha=>.inl ha⟩
theorem remove_live (n:Txt):∃ H' A' tm' s' e,C_tempfile_Temps_Remove [.ptr o 0,.str n] H=some (.int .i64 e,H')∧SysRes H H' o t tm' s' A A'∧Good tm' s' L (k+1)∧(e ≠ 0→s'=s):=by
 by_cases hf:tmFind tm n=0
 ·rcases hg with hc | hb
  ·unfold tmFind at hf
   rw [if_pos hc.1] at hf
   cases hf
  ·have hn : n ∈ tm.names := by
      unfold tmFind at hf
      rw [if_neg (by simp [hb.opn])] at hf
      split at hf
      ·assumption
      ·cases hf
   obtain ⟨f,hgf⟩:=Option.ne_none_iff_exists'.1 (hb.files n hn)
   obtain ⟨H',A',sl,r1,r2⟩:=TRemove_ok h hb.ok hb.sto hb.calm.1 hb.calm.2 hf (fun e=>by rw [e] at hn;cases hn) hgf
   exact ⟨H',A',_,_,0,r1,r2,.inr (remove_inv hb n sl),fun h=>absurd rfl h⟩
 ·exact ⟨H,A,tm,s,_,TRemove_err h hg.ok hf,h.self,hg.up,fun _=>rfl⟩
theorem close_live:∃ H' A' tm' s' e,C_tempfile_Temps_Close [.ptr o 0] H=some (.int .i64 e,H')∧SysRes H H' o t tm' s' A A'∧Good tm' s' L (k+1)∧(e ≠ 0→s'=s):=by
 rcases hg with hc | hb
 ·exact ⟨H,A,tm,s,8,CloseC_run h hc.1,h.self,.inl hc,fun _=>rfl⟩
 ·obtain ⟨H',A',tm',s',r1,r2,r3,r4,r5,r6,r7,_⟩:=Close_run h hb.ok hb.sto hb.calm.1 hb.calm.2 hb.nd hb.files hb.opn
  exact ⟨H',A',tm',s',0,r1,r2,.inl ⟨r5,r3,r4,r6,r7⟩,fun h=>absurd rfl h⟩
theorem do_live (c : Cl) (hc : ClOk c) (hs : ClSm c) {y : AV} (hy : SS y c.lines) (h0 : 0 ≤ c.op) (h5 : c.op ≤ 5) :
    ∃ H' A' tm' s' tx n e,C_L19_do [.ptr t 0,.ptr o 0,.agg (c.cells y)] H=some (.tuple [.ptr o 0,.agg (resC tx n e)],H')∧SysAt H' o t tm' s' A'∧Good tm' s' L (k+1)∧(e ≠ 0→s'=s):=by
 have hbx:abox (.agg (c.cells y)) H=some (.ptr H.length 0,H++[AObj.cells (c.cells y)]):=abox_of rfl
 have hl1:(H++[AObj.cells (c.cells y)]).length=H.length+1:=by simp
 have hlA:=h.lt
 have g0:(H++[AObj.cells (c.cells y)]++[AObj.cells [(.str []),(.int .i64 0),(.int .i64 0)]])[H.length]?=some (.cells (c.cells y)):=by simp
 have g1:(H++[AObj.cells (c.cells y)]++[AObj.cells [(.str []),(.int .i64 0),(.int .i64 0)]])[H.length+1]?=some (.cells [(.str []),(.int .i64 0),(.int .i64 0)]):=by
  rw [List.getElem?_append_right (by simp)];simp
 have l0:=ldn g0 0 (v:=.int .i64 c.op) rfl
 have l1:=ldn g0 1 (v:=.str c.name) rfl
 have l2:=ldn g0 2 (v:=y) rfl
 have l3:=ldn g0 3 (v:=.int .i64 c.at') rfl
 have hsys:SysAt (H++[AObj.cells (c.cells y)]++[AObj.cells [(.str []),(.int .i64 0),(.int .i64 0)]]) o t tm s A:=h.frame fun a ha=>by
  rw [List.append_assoc,List.getElem?_append_left (hlA a ha)]
 have hl2:(H++[AObj.cells (c.cells y)]++[AObj.cells [(.str []),(.int .i64 0),(.int .i64 0)]]).length=H.length+2:=by simp
 generalize hH2:H++[AObj.cells (c.cells y)]++[AObj.cells [(.str []),(.int .i64 0),(.int .i64 0)]]=H2 at l0 l1 l2 l3 g1 hsys hl2
 have fin : ∀ {H3 : Hp} {A3 : List Nat} {tm' : Tmp} {s' : Sto} (tx : Txt) (n e : Int), SysRes H2 H3 o t tm' s' A A3 →
     astoreU 3 (.ptr (H.length+1) 0) (.agg (resC tx n e)) H3=some (.tuple [],H3.set (H.length+1) (.cells (resC tx n e)))∧aload true 3 (.ptr (H.length+1) 0) (H3.set (H.length+1) (.cells (resC tx n e)))=some (.agg (resC tx n e))∧SysAt (H3.set (H.length+1) (.cells (resC tx n e))) o t tm' s' A3:=fun tx n e hr=>by
  have hq:H.length+1 ∉ A:=fun hh=>by have:=hlA _ hh;omega
  obtain ⟨a1,a2⟩:=res_store (hr.stp.get g1 hq) rfl tx n e
  exact ⟨a1,a2,hr.at'.frame fun a ha=>List.getElem?_set_ne (fun e=>by
   rcases hr.own a ha with k1 | k1
   ·have:=hlA a k1;omega
   ·omega)⟩
 have fa:∀ (tx:Txt) (e:Int),(afill [(0,1,.str tx),(2,1,.int .i64 e)] [(.str []),(.int .i64 0),(.int .i64 0)]).map AV.agg=some (.agg (resC tx 0 e)):=fun _ _=>rfl
 have fb:∀ (e:Int),(afill [(2,1,.int .i64 e)] [(.str []),(.int .i64 0),(.int .i64 0)]).map AV.agg=some (.agg (resC [] 0 e)):=fun _=>rfl
 have fc:∀ (tx:Txt) (n e:Int),(afill [(0,1,.str tx),(1,1,.int .i64 n),(2,1,.int .i64 e)] [(.str []),(.int .i64 0),(.int .i64 0)]).map AV.agg=some (.agg (resC tx n e)):=fun _ _ _=>rfl
 rw [F_L19_do_eq]
 unfold F_L19_do
 rcases (show c.op=0 ∨ c.op=1 ∨ c.op=2 ∨ c.op=3 ∨ c.op=4 ∨ c.op=5 by omega) with hop | hop | hop | hop | hop | hop
 all_goals rw [hop] at l0
 ·obtain ⟨H3,A3,tm',s',tx,e,r1,r2,r3,r4⟩:=new_live hsys hg hk
  obtain ⟨s1,s2,s3⟩:=fin tx 0 e r2
  exact ⟨_,A3,tm',s',tx,0,e,by simp only [hbx,go_sem,hl1,hH2,Nat.zero_add,l0,Int.reduceBEq,r1,List.getElem?_cons_zero,List.getElem?_cons_succ,fa,s1,s2],s3,r3,r4⟩
 ·have hcl : costR c.lines ≤ 1048576 := by
     have:=hs.sum;have:=hs.cnt
     rw [costR_lines];omega
  obtain ⟨H3,A3,s',e,r1,r2,r3,r4⟩:=write_live hsys hg hk c.name hy hc.lines hcl
  obtain ⟨s1,s2,s3⟩:=fin [] 0 e r2
  exact ⟨_,A3,tm,s',[],0,e,by simp only [hbx,go_sem,hl1,hH2,Nat.zero_add,l0,l1,l2,Int.reduceBEq,r1,fb,s1,s2],s3,r3,r4⟩
 ·obtain ⟨H3,A3,tm',s',e,r1,r2,r3,r4⟩:=seal_live hsys hg hk c.name
  obtain ⟨s1,s2,s3⟩:=fin [] 0 e r2
  exact ⟨_,A3,tm',s',[],0,e,by simp only [hbx,go_sem,hl1,hH2,Nat.zero_add,l0,l1,Int.reduceBEq,r1,fb,s1,s2],s3,r3,r4⟩
 ·obtain ⟨H3,tx,m,e,r1,r2⟩:=read_live hsys hg hk c.name c.at' hc.at'
  obtain ⟨s1,s2,s3⟩:=fin tx m e r2
  exact ⟨_,A,tm,s,tx,m,e,by simp only [hbx,go_sem,hl1,hH2,Nat.zero_add,l0,l1,l3,Int.reduceBEq,r1,List.getElem?_cons_zero,List.getElem?_cons_succ,fc,s1,s2],s3,hg.up,fun _=>rfl⟩
 ·obtain ⟨H3,A3,tm',s',e,r1,r2,r3,r4⟩:=remove_live hsys hg hk c.name
  obtain ⟨s1,s2,s3⟩:=fin [] 0 e r2
  exact ⟨_,A3,tm',s',[],0,e,by simp only [hbx,go_sem,hl1,hH2,Nat.zero_add,l0,l1,Int.reduceBEq,r1,fb,s1,s2],s3,r3,r4⟩
 ·obtain ⟨H3,A3,tm',s',e,r1,r2,r3,r4⟩:=close_live hsys hg hk
  obtain ⟨s1,s2,s3⟩:=fin [] 0 e r2
  exact ⟨_,A3,tm',s',[],0,e,by simp only [hbx,go_sem,hl1,hH2,Nat.zero_add,l0,l1,Int.reduceBEq,r1,fb,s1,s2],s3,r3,r4⟩
end
theorem bounds_loop {limit : Int} {x : AV} {cs : List Cl} (hx : CsV x cs) (hco : ∀ c ∈ cs, ClOk c) (hcs : CsOk cs) {o t : Nat} (H0 : Hp) : ∀ (r d : List Cl) (H : Hp) (tm : Tmp) (s : Sto) (A : List Nat), cs = d ++ r → SysAt H o t tm s A → Good tm s (max 0 limit).toNat d.length →
    ∃ H',L19_TempfileBounds_L1 (.int .i64 limit) x (.ptr t 0) (.ptr o 0) (.int .i64 (d.length:Int)) H0 H=some (.bool true,H'):=by
 have h40:=hcs.cnt
 intro r
 induction r with
 | nil =>
  intro d H tm s A hd h hg
  rw [List.append_nil] at hd
  subst hd
  have hlt:decide ((cs.length:Int) < (cs.length:Int))=false:=by simp
  obtain ⟨H',hw⟩:=awake19_run H
  refine ⟨H',?_⟩
  rw [L19_TempfileBounds_L1_eq]
  simp only [go_sem,hx.len 46,hlt,L19_TempfileBounds_J3_eq,hw]
 | cons c r ih =>
  intro d H tm s A hd h hg
  have hlen:cs.length=d.length+(r.length+1):=by rw [hd];simp
  have hlt:decide ((d.length:Int) < (cs.length:Int))=true:=by simp;omega
  have hw1:IntKind.i64.wrap ((d.length:Int)+1)=((d.length+1:Nat):Int):=by rw [wrap64 (by omega) (by omega)];omega
  have hcm:c ∈ cs:=by rw [hd];simp
  obtain ⟨y,hi,hy⟩:=hx.idx (i:=d.length) (c:=c) (by rw [hd,List.getElem?_append_right (Nat.le_refl _)];simp)
  have hb1:(H++[AObj.cells [(.int .i64 0),(.str []),.nils,(.int .i64 0),(.int .u64 0)]])[H.length]?=some (.cells [(.int .i64 0),(.str []),.nils,(.int .i64 0),(.int .u64 0)]):=by simp
  have hyk:(AV.agg (c.cells y)).known=true:=by
   rcases hy with ⟨rfl,_⟩ | ⟨tk,rfl⟩
   ·rfl
   ·simp [AV.known,Cl.cells]
  have hst:astoreU 5 (.ptr H.length 0) (.agg (c.cells y)) (H++[AObj.cells [(.int .i64 0),(.str []),.nils,(.int .i64 0),(.int .u64 0)]])=some (.tuple [],H++[AObj.cells (c.cells y)]):=by
   rw [astore_of (v:=.agg (c.cells y)) (sz:=5) hb1 hyk rfl (by simp)]
   simp [splice,Cl.cells,AV.cells]
  have g1:(H++[AObj.cells (c.cells y)])[H.length]?=some (.cells (c.cells y)):=by simp
  have l0:=ldn g1 0 (v:=.int .i64 c.op) rfl
  have hld:aload true 5 (.ptr H.length 0) (H++[AObj.cells (c.cells y)])=some (.agg (c.cells y)):=by
   rw [aload_of g1];simp [Go.Am.apart,Cl.cells]
  have hlA:=h.lt
  have h1:SysAt (H++[AObj.cells (c.cells y)]) o t tm s A:=h.frame fun a ha=>List.getElem?_append_left (hlA a ha)
  rw [L19_TempfileBounds_L1_eq]
  by_cases ho:c.op < 0 ∨ 5 < c.op
  ·obtain ⟨H',k⟩:=ih (d++[c]) (H++[AObj.cells (c.cells y)]) tm s A (by rw [hd];simp) h1 (by rw [List.length_append,List.length_singleton];exact hg.up)
   rw [List.length_append,List.length_singleton] at k
   refine ⟨H',?_⟩
   by_cases hn:c.op < 0
   ·have e1:decide (c.op < 0)=true:=decide_eq_true hn
    simp only [go_sem,hx.len 46,hlt,L19_TempfileBounds_J4_eq,hi,aload_cl,hst,Nat.zero_add,l0,e1,L19_TempfileBounds_J5_eq,hw1]
    exact k
   ·have e1:decide (c.op < 0)=false:=decide_eq_false hn
    have e2:decide (5 < c.op)=true:=decide_eq_true (by omega)
    simp only [go_sem,hx.len 46,hlt,L19_TempfileBounds_J4_eq,hi,aload_cl,hst,Nat.zero_add,l0,e1,e2,L19_TempfileBounds_J5_eq,hw1]
    exact k
  ·have e1:decide (c.op < 0)=false:=decide_eq_false (by omega)
   have e2:decide (5 < c.op)=false:=decide_eq_false (by omega)
   have h1k:=h1
   obtain ⟨B1,S1,_,hst1,_,_⟩:=h1k
   obtain ⟨xb,b1,b2⟩:=List_ro hst1 hg.sto
   obtain ⟨H2,A2,tm2,s2,tx,n,e,q1,q2,q3,q4⟩:=do_live h1 hg (by omega) c (hco c hcm) (hcs.all c hcm) hy (by omega) (by omega)
   have hl2:=q2.lt
   have gz:(H2++[AObj.cells [(.str []),(.int .i64 0),(.int .i64 0)]])[H2.length]?=some (.cells [(.str []),(.int .i64 0),(.int .i64 0)]):=by simp
   obtain ⟨s1,s1'⟩:=res_store gz rfl tx n e
   have gr:=get_set_eq (AObj.cells (resC tx n e)) gz
   have l2:=ldn gr 2 (v:=.int .i64 e) rfl
   have h3:SysAt ((H2++[AObj.cells [(.str []),(.int .i64 0),(.int .i64 0)]]).set H2.length (.cells (resC tx n e))) o t tm2 s2 A2:=q2.frame fun a ha=>by
    have:=hl2 a ha
    rw [List.getElem?_set_ne (by omega),List.getElem?_append_left this]
   generalize hH3:(H2++[AObj.cells [(.str []),(.int .i64 0),(.int .i64 0)]]).set H2.length (.cells (resC tx n e))=H3 at s1 s1' l2 h3
   obtain ⟨H',k⟩:=ih (d++[c]) H3 tm2 s2 A2 (by rw [hd];simp) h3 (by rw [List.length_append,List.length_singleton];exact q3)
   rw [List.length_append,List.length_singleton] at k
   have h3k:=h3
   obtain ⟨B3,S3,_,hst3,_,_⟩:=h3k
   obtain ⟨xc,c1,c2⟩:=List_ro hst3 q3.sto
   have hus:=Used_ro h3 q3.ok q3.sto
   have hu18:=Used18_run hst3
   generalize hU:(if tm2.closed then (0:Int) else (tmUsed tm2 s2:Int))=U at hus
   have hU1:¬ (limit < U∧0 < U):=fun hh=>by
    rcases q3 with q | q
    ·rw [q.1] at hU;simp at hU;omega
    ·rw [q.opn] at hU
     have:=q.used
     unfold tmUsed at hU
     simp at hU
     omega
   have hU2:¬ ((usedL s2.files:Int) < U):=fun hh=>by
    have:=usedN_le tm2.names s2.files
    cases hcl:tm2.closed with
    | true=>rw [hcl] at hU;simp at hU;omega
    | false=>rw [hcl] at hU;unfold tmUsed at hU;simp at hU;omega
   have d2:decide ((usedL s2.files:Int) < U)=false:=decide_eq_false hU2
   refine ⟨H',?_⟩
   have step:L19_TempfileBounds_J7 (.int .i64 limit) x (.ptr t 0) (.ptr o 0) (.int .i64 (d.length:Int)) H0 H3=some (.bool true,H'):=by
    rw [L19_TempfileBounds_J7_eq]
    by_cases hl:limit < U
    ·have d1:decide (limit < U)=true:=decide_eq_true hl
     have d3:decide (0 < U)=false:=decide_eq_false fun hh=>hU1 ⟨hl,hh⟩
     simp only [hus,go_sem,d1,d3,hu18,d2,L19_TempfileBounds_J5_eq,hw1]
     exact k
    ·have d1:decide (limit < U)=false:=decide_eq_false hl
     simp only [hus,go_sem,d1,hu18,d2,L19_TempfileBounds_J5_eq,hw1]
     exact k
   by_cases he:e=0
   ·have ez:(e != 0)=false:=by simp [he]
    simp only [go_sem,hx.len 46,hlt,L19_TempfileBounds_J4_eq,hi,aload_cl,hst,Nat.zero_add,l0,e1,e2,L19_TempfileBounds_J6_eq,b1,hld,q1,List.getElem?_cons_zero,List.getElem?_cons_succ,s1,l2,ez]
    exact step
   ·have ez:(e != 0)=true:=by simpa using he
    have hss:=q4 he
    subst hss
    have hsf:=sameF_flat b2 c2 (Nat.le_trans (listF_len _) hg.sto.len) H3
    simp only [go_sem,hx.len 46,hlt,L19_TempfileBounds_J4_eq,hi,aload_cl,hst,Nat.zero_add,l0,e1,e2,L19_TempfileBounds_J6_eq,b1,hld,q1,List.getElem?_cons_zero,List.getElem?_cons_succ,s1,l2,ez,c1,hsf,Bool.not_true]
    exact step
theorem Bounds_law {limit:Int} (hlim:-9223372036854775808≤limit∧limit≤9223372036854775807) {x:AV} {cs:List Cl} (hx:CsV x cs) (hco:∀ c ∈ cs,ClOk c) (hl:cs.length≤1048576):∃ H',C_L19_TempfileBounds [.int .i64 limit,x] []=some (.bool true,H'):=by
 rw [F_L19_TempfileBounds_eq]
 unfold F_L19_TempfileBounds
 obtain ⟨b,k1,k2⟩:=few_flat hx hl []
 cases b with
 | false =>
  obtain ⟨H',hw⟩:=awake19_run []
  exact ⟨H',by simp only [k1,go_sem,Bool.not_false,hw]⟩
 | true =>
  obtain ⟨H1,q1,q2,_⟩:=New_run 262144 (by omega) []
  have hs0:(⟨(min (max 262144 0) 262144:Int).toNat,0,[],false,0⟩:Sto)=rS 0 [] false 0:=rfl
  rw [hs0] at q2
  have o0:StoOk (rS 0 [] false 0):=⟨Nat.le_refl _,by simp [usedL],Nat.zero_le _,by simp,by simp,by simp,by simp,Nat.zero_le _⟩
  obtain ⟨H2,A2,r1,r2,_,_⟩:=TOpen_empty q2 o0 rfl [97] (by decide) (by decide) limit
  obtain ⟨H',k⟩:=bounds_loop hx hco (k2 rfl) (limit:=limit) [] cs [] H2 _ _ A2 rfl r2 (.inr ⟨⟨by show 1≤16;omega,by show (max 0 limit).toNat≤9223372036854775807;omega,Nat.le_refl _,by show 0≤1000000;omega⟩,o0,⟨rfl,rfl⟩,rfl,by simp [usedN],Nat.le_refl _,by simp,by simp,rfl⟩)
  have hnil:ebin (.pointer 89) .eql (.ptr (H1.length+1) 0) .nilp=some (.bool false):=rfl
  have e0:((0:Int) != 0)=false:=rfl
  refine ⟨H',?_⟩
  simp only [k1,go_sem,Bool.not_true,L19_TempfileBounds_J1_eq,q1,r1,List.getElem?_cons_zero,List.getElem?_cons_succ,e0,hnil,L19_TempfileBounds_J2_eq]
  exact k
end Go.Am
