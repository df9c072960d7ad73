/-
  Lemmas that both seats of chapter 19 share (cut out of the texts Le to Lk by wip/tf/kcut.py).
-/
import Derived.Test.YtebjpfbenjgglaaGreatDoorTzLcx
import Derived.Test.YtebjpfbenjgglaaGreatDoorTzNex
import Derived.Test.YtebjpfbenjgglaaGreatDoorTzLbx
import Derived.Test.YtebjpfbenjgglaaGreatDoorTzAx
import Derived.Test.YtebjpfbenjgglaaGreatDoorTzGRx
import Derived.Sort.Walk0
namespace Go.Am
set_option linter.unusedSimpArgs false
set_option linter.unusedVariables false
set_option linter.unusedSectionVars false
set_option maxRecDepth 100000

abbrev resC (s:Txt) (n e:Int):List AV:=[.str s,.int .i64 n,.int .i64 e]
theorem res_store {H : Hp} {o : Nat} {l : List AV} (h : H[o]? = some (.cells l)) (hl : l.length = 3) (s : Txt) (n e : Int) :
    astoreU 3 (.ptr o 0) (.agg (resC s n e)) H=some (.tuple [],H.set o (.cells (resC s n e)))∧aload true 3 (.ptr o 0) (H.set o (.cells (resC s n e)))=some (.agg (resC s n e)):=by
 constructor
 ·rw [astore_of (v:=.agg (resC s n e)) (sz:=3) h rfl rfl (by omega)]
  congr 3
  obtain ⟨a,b,c,rfl⟩:∃ a b c,l=[a,b,c]:=match l,hl with | [a,b,c],_=>⟨a,b,c,rfl⟩
  rfl
 ·rw [aload_of (get_set_eq _ h)]
  simp [Go.Am.apart]
theorem find_nil (n:AV) (H:Hp):C_tempfile_Temps_find [.nilp,n] H=some (.int .i64 5,H):=by
 have hnil:ebin (.pointer 77) .eql .nilp .nilp=some (.bool true):=rfl
 rw [F_tempfile_Temps_find_eq]
 unfold F_tempfile_Temps_find
 simp only [hnil,go_sem]
theorem new_nil (H:Hp):C_tempfile_Temps_New [.nilp] H=some (.tuple [.str [],.int .i64 5],H):=by
 have hnil:ebin (.pointer 77) .eql .nilp .nilp=some (.bool true):=rfl
 rw [F_tempfile_Temps_New_eq]
 unfold F_tempfile_Temps_New
 simp only [hnil,go_sem]
theorem close_nil (H:Hp):C_tempfile_Temps_Close [.nilp] H=some (.int .i64 5,H):=by
 have hnil:ebin (.pointer 77) .eql .nilp .nilp=some (.bool true):=rfl
 rw [F_tempfile_Temps_Close_eq]
 unfold F_tempfile_Temps_Close
 simp only [hnil,go_sem]
theorem b50:((5:Int) != 0)=true:=rfl
theorem write_nil (n x:AV) (H:Hp):C_tempfile_Temps_Write [.nilp,n,x] H=some (.int .i64 5,H):=by
 rw [F_tempfile_Temps_Write_eq]
 unfold F_tempfile_Temps_Write
 simp only [find_nil,go_sem,b50]
theorem seal_nil (n:AV) (H:Hp):C_tempfile_Temps_Seal [.nilp,n] H=some (.int .i64 5,H):=by
 rw [F_tempfile_Temps_Seal_eq]
 unfold F_tempfile_Temps_Seal
 simp only [find_nil,go_sem,b50]
theorem tremove_nil (n:AV) (H:Hp):C_tempfile_Temps_Remove [.nilp,n] H=some (.int .i64 5,H):=by
 rw [F_tempfile_Temps_Remove_eq]
 unfold F_tempfile_Temps_Remove
 simp only [find_nil,go_sem,b50]
theorem tread_nil (n i:AV) (H:Hp):C_tempfile_Temps_Read [.nilp,n,i] H=some (.tuple [.str [],.int .i64 0,.int .i64 5],H):=by
 rw [F_tempfile_Temps_Read_eq]
 unfold F_tempfile_Temps_Read
 simp only [find_nil,go_sem,b50]
theorem used_nil (H:Hp):roC C_tempfile_Temps_Used [.nilp] H=some (.int .i64 0,H):=by
 have hnil:ebin (.pointer 77) .eql .nilp .nilp=some (.bool true):=rfl
 refine roC_of (H1:=H) (v:=.int .i64 0) ?_ (Keep.refl _ _) (Nat.le_refl _) rfl
 rw [F_tempfile_Temps_Used_eq]
 unfold F_tempfile_Temps_Used
 simp only [hnil,go_sem]
theorem RowN.stp {N:Nat} {H H':Hp} {x:AV} {l:List AV} {A:List Nat} (h:RowN N H 1 x l) (hs:Stp A H H') (hA:∀ a ∈ A,a < N):RowN N H' 1 x l:=by
 rcases h with k | ⟨t,e,k1,k2,k3⟩
 ·exact .inl k
 ·exact .inr ⟨t,e,k1,hs.get k2 fun hh=>by have:=hA t hh;omega,k3⟩
theorem RowN.ss {N:Nat} {H:Hp} {x:AV} {l:List Txt} (h:RowN N H 1 x (l.map AV.str)):SS x l:=h.imp id fun ⟨t,e,a,_⟩=>⟨_,a⟩
theorem sameN_loop {x z : AV} {l : List Txt} (hx : SS x l) (hz : SS z l) (hl : l.length ≤ 1048576) (H0 H : Hp) : ∀ (r d : List Txt), l = d ++ r →
    L19_sameNames_L1 x z (.int .i64 (d.length:Int)) H0 H=some (.bool true,H):=by
 intro r
 induction r with
 | nil =>
  intro d hd
  rw [List.append_nil] at hd
  subst hd
  have hlt:decide ((l.length:Int) < (l.length:Int))=false:=by simp
  rw [L19_sameNames_L1_eq]
  simp only [go_sem,hx.len 9,hlt,L19_sameNames_J2_eq]
 | cons s r ih =>
  intro d hd
  have hlen:l.length=d.length+(r.length+1):=by rw [hd];simp
  have hlt:decide ((d.length:Int) < (l.length:Int))=true:=by simp;omega
  have hw1:IntKind.i64.wrap ((d.length:Int)+1)=((d.length+1:Nat):Int):=by rw [wrap64 (by omega) (by omega)];omega
  have hi:l[d.length]?=some s:=by rw [hd,List.getElem?_append_right (Nat.le_refl _)];simp
  have hne:(!(s == s))=false:=by simp
  have k:=ih (d++[s]) (by rw [hd];simp)
  rw [List.length_append,List.length_singleton] at k
  rw [L19_sameNames_L1_eq]
  simp only [go_sem,hx.len 9,hlt,L19_sameNames_J3_eq,SS.idx hx hi,SS.idx hz hi,aload_vpc,hne,L19_sameNames_J4_eq,hw1]
  exact k
theorem sameN_flat {x z:AV} {l:List Txt} (hx:SS x l) (hz:SS z l) (hl:l.length≤1048576) (H:Hp):flatC C_L19_sameNames [x,z] H=some (.bool true,H):=by
 obtain ⟨x',hx1,hx2⟩:=hx.closed [] 0 4
 obtain ⟨z',hz1,hz2⟩:=hz.closed [] 0 4
 refine flat2 hx1 hz1 (H1:=[]) ?_ rfl
 have hne:((l.length:Int) != (l.length:Int))=false:=by simp
 rw [F_L19_sameNames_eq]
 unfold F_L19_sameNames
 simp only [go_sem,hx2.len 9,hz2.len 9,hne,L19_sameNames_J1_eq]
 exact sameN_loop hx2 hz2 hl [] [] l [] rfl
theorem costR_lines (l:List Txt):costR l=linesN l+6 * l.length:=by
 induction l with
 | nil=>rfl
 | cons s l ih=>simp only [costR,linesN,ih,List.length_cons];omega
theorem getF_updF {l:List Fil} {n m:Txt} {u:Fil→Fil} (hu:∀ g,(u g).name=g.name):getF (updF l m u) n=if n=m then (getF l n).map u else getF l n:=by
 induction l with
 | nil=>simp [updF,getF]
 | cons g l ih =>
  rw [updF]
  by_cases h:m=g.name
  ·rw [if_pos h]
   by_cases hn:n=g.name
   ·have:n=m:=hn.trans h.symm
    rw [if_pos this]
    simp [getF,hu,hn]
   ·have:n ≠ m:=fun e=>hn (e.trans h)
    rw [if_neg this]
    simp [getF,hu,hn]
  ·rw [if_neg h]
   by_cases hn:n=g.name
   ·have:n ≠ m:=fun e=>h (e.symm.trans hn)
    rw [if_neg this]
    simp [getF,hn]
   ·simp only [getF,if_neg hn]
    exact ih
theorem CloseC_run {H:Hp} {o t:Nat} {tm:Tmp} {s:Sto} {A:List Nat} (h:SysAt H o t tm s A) (hcl:tm.closed=true):C_tempfile_Temps_Close [.ptr o 0] H=some (.int .i64 8,H):=by
 obtain ⟨B,S,⟨ms,clk,nx,sl,h1,rfl⟩,h2,h3,rfl⟩:=h
 have hnil:ebin (.pointer 77) .eql (.ptr o 0) .nilp=some (.bool false):=rfl
 have l6:=ldn h1.cells 6 (v:=.bool true) (by rw [hcl];rfl)
 rw [F_tempfile_Temps_Close_eq]
 unfold F_tempfile_Temps_Close
 simp only [hnil,go_sem,tempfile_Temps_Close_J1_eq,Nat.zero_add,l6]
theorem TRemove_err {H:Hp} {o t:Nat} {tm:Tmp} {s:Sto} {A:List Nat} (h:SysAt H o t tm s A) (hm:TmpOk tm) {n:Txt} (hf:tmFind tm n ≠ 0):C_tempfile_Temps_Remove [.ptr o 0,.str n] H=some (.int .i64 (tmFind tm n),H):=by
 obtain ⟨B,S,⟨ms,clk,nx,sl,h1,rfl⟩,h2,h3,rfl⟩:=h
 have hfr:=find_run h1 hm n
 have e0:(tmFind tm n != 0)=true:=by simpa using hf
 rw [F_tempfile_Temps_Remove_eq]
 unfold F_tempfile_Temps_Remove
 simp only [hfr,go_sem,e0]
theorem fil_cmp (a a' : Txt) (m m' n n' : Int) : aeqBin Go.Proofs.Tryz.prog cfg.eqok .neq 57 (.agg [.str a, .int .i64 m, .int .i64 n]) (.agg [.str a', .int .i64 m', .int .i64 n']) =
    (match (match some (a == a') with
     | some true=>(match some (m == m') with
      | some true=>(match some (n == n') with
       | some true=>some true
       | r=>r)
      | r=>r)
     | r=>r:Option Bool) with
    | some b=>some (.bool (!b))
    | none=>none):=by kernel_rfl
theorem fil_eq (f:Fil):aeqBin Go.Proofs.Tryz.prog cfg.eqok .neq 57 (filAV f) (filAV f)=some (.bool false):=by
 unfold filAV
 rw [fil_cmp]
 simp
theorem sameF_loop {x z : AV} {l : List Fil} (hx : Sl 3 x (l.map filAV)) (hz : Sl 3 z (l.map filAV)) (hl : l.length ≤ 64) (H0 H : Hp) : ∀ (r d : List Fil), l = d ++ r →
    R18_SameFiles_L1 x z (.int .i64 (d.length:Int)) H0 H=some (.bool true,H):=by
 have hxl:alenD (.slice 57) x=some (.int .i64 (l.length:Int)):=by
  have:=Sl.len hx 57
  rwa [List.length_map] at this
 intro r
 induction r with
 | nil =>
  intro d hd
  rw [List.append_nil] at hd
  subst hd
  have hlt:decide ((l.length:Int) < (l.length:Int))=false:=by simp
  rw [R18_SameFiles_L1_eq]
  simp only [go_sem,hxl,hlt,R18_SameFiles_J2_eq]
 | cons f r ih =>
  intro d hd
  have hlen:l.length=d.length+(r.length+1):=by rw [hd];simp
  have hlt:decide ((d.length:Int) < (l.length:Int))=true:=by simp;omega
  have hw1:IntKind.i64.wrap ((d.length:Int)+1)=((d.length+1:Nat):Int):=by rw [wrap64 (by omega) (by omega)];omega
  have hif:l[d.length]?=some f:=by rw [hd,List.getElem?_append_right (Nat.le_refl _)];simp
  have hix:aindexS 3 x (.int .i64 (d.length:Int))=some (.vp (filAV f).cells):=Sl.idx hx (c:=filAV f) (by simp [hif])
  have hiz:aindexS 3 z (.int .i64 (d.length:Int))=some (.vp (filAV f).cells):=Sl.idx hz (c:=filAV f) (by simp [hif])
  have k:=ih (d++[f]) (by rw [hd];simp)
  rw [List.length_append,List.length_singleton] at k
  rw [R18_SameFiles_L1_eq]
  simp only [go_sem,hxl,hlt,R18_SameFiles_J3_eq,hix,hiz,load_fil,fil_eq,R18_SameFiles_J4_eq,hw1]
  exact k
theorem Sl.closeF {x:AV} {l:List Fil} (h:Sl 3 x (l.map filAV)):∃ x',closeV [] 0 6 x=some x'∧Sl 3 x' (l.map filAV):=by
 rcases h with ⟨rfl,e⟩ | ⟨tk,rfl⟩
 ·exact ⟨.nils,rfl,.inl ⟨rfl,e⟩⟩
 ·exact ⟨_,by rw [closeV_vs',mapM_fil],.inr ⟨_,rfl⟩⟩
theorem sameF_flat {x z:AV} {l:List Fil} (hx:Sl 3 x (l.map filAV)) (hz:Sl 3 z (l.map filAV)) (hl:l.length≤64) (H:Hp):flatC C_R18_SameFiles [x,z] H=some (.bool true,H):=by
 obtain ⟨x',hx1,hx2⟩:=hx.closeF
 obtain ⟨z',hz1,hz2⟩:=hz.closeF
 refine flat2 hx1 hz1 (H1:=[]) ?_ rfl
 have hne:((l.length:Int) != (l.length:Int))=false:=by simp
 have hxl:=Sl.len hx2 57
 have hzl:=Sl.len hz2 57
 rw [List.length_map] at hxl hzl
 rw [F_R18_SameFiles_eq]
 unfold F_R18_SameFiles
 simp only [go_sem,hxl,hzl,hne,R18_SameFiles_J1_eq]
 exact sameF_loop hx2 hz2 hl [] [] l [] rfl
theorem usedL_upd (l:List Fil) (n:Txt) (u:Fil→Fil) (k:Nat) (hu:∀ f,(u f).text.length≤f.text.length+k):usedL (updF l n u)≤usedL l+k:=by
 induction l with
 | nil=>simp [usedL,updF]
 | cons f l ih =>
  rw [updF]
  split
  ·have:=hu f
   simp only [usedL];omega
  ·simp only [usedL];omega
theorem upd_ok {s:Sto} (hk:StoOk s) (n:Txt) (u:Fil→Fil) (k p:Nat) (hn:∀ f,(u f).name=f.name) (hu:∀ f,(u f).text.length≤f.text.length+k) (hs:∀ f,f.syn≤f.text.length→(u f).syn≤(u f).text.length) (hl:usedL s.files+k≤s.limit) (hp:p≤s.limit):StoOk { s with files:=updF s.files n u,peak:=p }:=by
 have h1:=updF_names s.files n u hn
 have h2:=usedL_upd s.files n u k hu
 have h4:=hk.len
 refine ⟨hk.limit,Nat.le_trans h2 hl,hp,updF_all (P:=fun f=>nameB f.name=true) s.files n _ hk.name fun f h=>by rw [hn];exact h,by show ((updF s.files n u).map Fil.name).Nodup;rw [h1];exact hk.nd,updF_all (P:=fun f=>f.syn≤f.text.length) s.files n _ hk.syn hs,?_,hk.count⟩
 show (updF s.files n u).length≤64
 have:=congrArg List.length h1
 rw [List.length_map,List.length_map] at this
 omega
theorem getF_nameE {l:List Fil} {n:Txt} {f:Fil} (h:getF l n=some f):f.name=n:=by
 obtain ⟨a,b,e,h1,_⟩:=getF_split h
 exact h1
theorem listF_upd {l:List Fil} (n:Txt) (u:Fil→Fil) (hu:∀ f,(u f).name=f.name):listF (updF l n u)=(listF l).map fun f=>if f.name=n then u f else f:=by
 unfold listF
 rw [updF_names l n u hu,List.map_filterMap]
 congr 1
 funext m
 rw [getF_updF hu]
 by_cases h:m=n
 ·rw [if_pos h]
  cases hg:getF l m with
  | none=>rfl
  | some f =>
   have:=getF_nameE hg
   simp [this,h]
 ·rw [if_neg h]
  cases hg:getF l m with
  | none=>rfl
  | some f =>
   have:=getF_nameE hg
   simp [this,h]
end Go.Am
namespace Go.Am
set_option linter.unusedSimpArgs false
set_option linter.unusedVariables false
set_option linter.unusedSectionVars false
set_option maxRecDepth 100000

def gtB (a b:Txt):Bool:=!(Op.bytesLess a b || a == b)
theorem gtB_iff (a b:Txt):gtB a b=true ↔ b < a:=by
 unfold gtB
 rw [Go.Proofs.bytesLess_eq,Bool.not_eq_true',Bool.or_eq_false_iff,decide_eq_false_iff_not,beq_eq_false_iff_ne]
 constructor
 ·rintro ⟨h1,h2⟩
  rcases List.le_iff_lt_or_eq.1 (List.not_lt.1 h1) with h | h
  ·exact h
  ·exact absurd h.symm h2
 ·intro h
  exact ⟨fun k=>List.lt_irrefl _ (List.lt_trans h k),fun e=>List.lt_irrefl _ (e ▸ h)⟩
def leF (f g:Fil):Bool:=leB f.name g.name
theorem leF_sorted (L:List Fil):L.Pairwise (fun f g=>leF f g=true) ↔ (L.map Fil.name).Pairwise fun a b=>leB a b=true:=by rw [List.pairwise_map];rfl
theorem leF_tr (a b c:Fil) (h1:leF a b=true) (h2:leF b c=true):leF a c=true:=leB_tr _ _ _ h1 h2
theorem leF_to (a b:Fil):(leF a b || leF b a)=true:=leB_to _ _
theorem sortK_of_sorted {l m:List Txt} (h:l.Pairwise (fun a b=>leB a b=true)) (hp:l.Perm m):sortK m=l:=by
 refine List.Perm.eq_of_pairwise (le:=fun a b=>leB a b=true) (fun a b _ _ h1 h2=>?_) (sortK_sorted m) h ((sortK_perm m).trans hp.symm)
 simp only [leB,decide_eq_true_eq] at h1 h2
 exact List.le_antisymm h1 h2
theorem getF_of_mem {l:List Fil} (nd:(l.map Fil.name).Nodup) {f:Fil} (hf:f ∈ l):getF l f.name=some f:=by
 induction l with
 | nil=>cases hf
 | cons g l ih =>
  rw [List.map_cons,List.nodup_cons] at nd
  rw [getF]
  rcases List.mem_cons.1 hf with e | hf
  ·rw [e,if_pos rfl]
  ·rw [if_neg (fun e=>nd.1 (by rw [← e];exact List.mem_map_of_mem hf)),ih nd.2 hf]
theorem listF_uniq {L l:List Fil} (hs:L.Pairwise (fun f g=>leF f g=true)) (hp:L.Perm l) (nd:(l.map Fil.name).Nodup):listF l=L:=by
 unfold listF
 rw [sortK_of_sorted ((leF_sorted L).1 hs) (hp.map _),List.filterMap_map]
 have:∀ M:List Fil,(∀ f ∈ M,f ∈ l)→M.filterMap (getF l ∘ Fil.name)=M:=by
  intro M
  induction M with
  | nil=>intro _;rfl
  | cons f M ih =>
   intro h
   rw [List.filterMap_cons,Function.comp_apply,getF_of_mem nd (h f (by simp)),ih fun g hg=>h g (by simp [hg])]
 exact this L fun f hf=>hp.mem_iff.1 hf
theorem listF_sort (l:List Fil) (nd:(l.map Fil.name).Nodup):listF l=l.mergeSort leF:=by
 refine listF_uniq (List.pairwise_mergeSort leF_tr leF_to l) (List.mergeSort_perm l _) nd
theorem listF_sorted {l:List Fil} (nd:(l.map Fil.name).Nodup):(listF l).Pairwise fun f g=>leF f g=true:=by
 rw [listF_sort l nd];exact List.pairwise_mergeSort leF_tr leF_to l
theorem listF_nd {l:List Fil} (nd:(l.map Fil.name).Nodup):((listF l).map Fil.name).Nodup:=((listF_perm nd).map _).nodup_iff.2 nd
theorem listF_names {l:List Fil} (nd:(l.map Fil.name).Nodup):(listF l).map Fil.name=sortK (l.map Fil.name):=(sortK_of_sorted ((leF_sorted _).1 (listF_sorted nd)) ((listF_perm nd).map _)).symm
theorem listF_length {l:List Fil} (nd:(l.map Fil.name).Nodup):(listF l).length=l.length:=(listF_perm nd).length_eq
theorem getF_perm {l m:List Fil} (hp:l.Perm m) (nd:(m.map Fil.name).Nodup) (n:Txt):getF l n=getF m n:=by
 have ndl:(l.map Fil.name).Nodup:=(hp.map _).nodup_iff.2 nd
 cases h:getF m n with
 | none=>exact getF_none.2 fun g hg=>getF_none.1 h g (hp.mem_iff.1 hg)
 | some f =>
  have:=getF_of_mem ndl (hp.mem_iff.2 (getF_of_name h))
  rwa [getF_nameE h] at this
theorem listF_get {l:List Fil} (nd:(l.map Fil.name).Nodup) (n:Txt):getF (listF l) n=getF l n:=getF_perm (listF_perm nd) nd n
theorem usedL_perm {l m:List Fil} (h:l.Perm m):usedL l=usedL m:=by
 induction h with
 | nil=>rfl
 | cons x _ ih=>simp only [usedL,ih]
 | swap x y l=>simp only [usedL];omega
 | trans _ _ h1 h2=>rw [h1,h2]
theorem listF_used {l:List Fil} (nd:(l.map Fil.name).Nodup):usedL (listF l)=usedL l:=usedL_perm (listF_perm nd)
def insF (f:Fil):List Fil→List Fil
 | []=>[f]
 | g :: r=>if gtB g.name f.name=true then f :: g :: r else g :: insF f r
theorem insF_perm (f:Fil) (l:List Fil):(insF f l).Perm (f :: l):=by
 induction l with
 | nil=>exact List.Perm.refl _
 | cons g r ih =>
  rw [insF]
  split
  ·exact List.Perm.refl _
  ·exact (List.Perm.cons g ih).trans (List.Perm.swap f g r)
theorem leB_of_lt {a b:Txt} (h:a < b):leB a b=true:=by simp only [leB,decide_eq_true_eq];exact List.le_of_lt h
theorem insF_sorted (f:Fil) (l:List Fil) (h:l.Pairwise fun f g=>leF f g=true):(insF f l).Pairwise fun f g=>leF f g=true:=by
 induction l with
 | nil=>exact List.pairwise_singleton _ _
 | cons g r ih =>
  obtain ⟨h1,h2⟩:=List.pairwise_cons.1 h
  rw [insF]
  split
  ·rename_i hg
   have hfg:leF f g=true:=leB_of_lt ((gtB_iff _ _).1 hg)
   refine List.pairwise_cons.2 ⟨fun x hx=>?_,h⟩
   rcases List.mem_cons.1 hx with e | hx
   ·rw [e];exact hfg
   ·exact leF_tr _ _ _ hfg (h1 x hx)
  ·rename_i hg
   refine List.pairwise_cons.2 ⟨fun x hx=>?_,ih h2⟩
   rcases List.mem_cons.1 ((insF_perm f r).mem_iff.1 hx) with e | hx
   ·rw [e]
    simp only [leF,leB,decide_eq_true_eq]
    exact List.not_lt.1 fun hlt=>hg ((gtB_iff _ _).2 hlt)
   ·exact h1 x hx
theorem listF_app {l:List Fil} (nd:(l.map Fil.name).Nodup) (f:Fil) (hf:getF l f.name=none):listF (l++[f])=insF f (listF l):=by
 refine listF_uniq (insF_sorted f _ (listF_sorted nd)) ((insF_perm f _).trans (((listF_perm nd).cons f).trans (List.perm_append_singleton f l).symm)) ?_
 rw [List.map_append,List.nodup_append]
 refine ⟨nd,by simp,fun a ha b hb e=>?_⟩
 simp at hb
 obtain ⟨g,hg,hn⟩:=List.mem_map.1 ha
 exact getF_none.1 hf g hg (by rw [hn,e,hb])
theorem rmF_filter {l:List Fil} (nd:(l.map Fil.name).Nodup) (n:Txt):rmF l n=l.filter fun f=>decide (f.name ≠ n):=by
 induction l with
 | nil=>rfl
 | cons g l ih =>
  rw [List.map_cons,List.nodup_cons] at nd
  rw [rmF]
  split
  ·rename_i h
   rw [List.filter_cons_of_neg (by simp [h]),eq_comm,List.filter_eq_self]
   intro f hf
   simp only [ne_eq,decide_eq_true_eq]
   intro e
   exact nd.1 (by rw [← h,← e];exact List.mem_map_of_mem hf)
  ·rename_i h
   rw [List.filter_cons_of_pos (by simpa using fun e=>h e.symm),ih nd.2]
theorem listF_rm {l:List Fil} (nd:(l.map Fil.name).Nodup) (n:Txt):listF (rmF l n)=rmF (listF l) n:=by
 refine listF_uniq ((listF_sorted nd).sublist (rmF_sub _ _)) ?_ (nd.sublist ((rmF_sub l n).map _))
 rw [rmF_filter nd,rmF_filter (listF_nd nd)]
 exact (listF_perm nd).filter _
theorem updF_map' {l:List Fil} (nd:(l.map Fil.name).Nodup) (n:Txt) (u:Fil→Fil):updF l n u=l.map fun f=>if f.name=n then u f else f:=by
 induction l with
 | nil=>rfl
 | cons g l ih =>
  rw [List.map_cons,List.nodup_cons] at nd
  rw [updF,List.map_cons]
  by_cases h:n=g.name
  ·rw [if_pos h,if_pos h.symm]
   congr 1
   rw [eq_comm]
   refine (List.map_congr_left fun f hf=>?_).trans (List.map_id _)
   exact if_neg fun e=>nd.1 (by rw [← h,← e];exact List.mem_map_of_mem hf)
  ·rw [if_neg h,if_neg (fun e=>h e.symm),ih nd.2]
theorem listF_upd' {l:List Fil} (nd:(l.map Fil.name).Nodup) (n:Txt) (u:Fil→Fil) (hu:∀ f,(u f).name=f.name):listF (updF l n u)=updF (listF l) n u:=by
 rw [listF_upd n u hu,updF_map' (listF_nd nd)]
def placeF:List Fil→Txt→Option Nat
 | [],_=>none
 | f :: l,n=>if f.name=n then some 0 else (placeF l n).map (·+1)
theorem placeF_spec (l:List Fil) (n:Txt):(placeF l n=none∧getF l n=none) ∨ ∃ i f,placeF l n=some i∧getF l n=some f∧l[i]?=some f∧i < l.length∧rmF l n=l.eraseIdx i∧∀ u,updF l n u=l.set i (u f):=by
 induction l with
 | nil=>exact .inl ⟨rfl,rfl⟩
 | cons g l ih =>
  by_cases h:g.name=n
  ·refine .inr ⟨0,g,by rw [placeF,if_pos h],by rw [getF,if_pos h.symm],rfl,by simp,by rw [rmF,if_pos h.symm];rfl,fun u=>by rw [updF,if_pos h.symm];rfl⟩
  ·have h':¬ n=g.name:=fun e=>h e.symm
   rcases ih with ⟨h1,h2⟩ | ⟨i,f,h1,h2,h3,h4,h5,h6⟩
   ·exact .inl ⟨by rw [placeF,if_neg h,h1];rfl,by rw [getF,if_neg h',h2]⟩
   ·refine .inr ⟨i+1,f,by rw [placeF,if_neg h,h1];rfl,by rw [getF,if_neg h',h2],by simpa using h3,by simp;omega,by rw [rmF,if_neg h',h5];rfl,fun u=>by rw [updF,if_neg h',h6];rfl⟩
def cutAll (k:Nat):Nat→List Fil→List Fil
 | _,[]=>[]
 | i,f :: l=>cutF k i f :: cutAll k (i+1) l
theorem updF_mid (A:List Fil) (f:Fil) (B:List Fil) (u:Fil→Fil) (h:∀ g ∈ A,g.name ≠ f.name):updF (A++f :: B) f.name u=A++u f :: B:=by
 induction A with
 | nil=>simp [updF]
 | cons x A ih=>rw [List.cons_append,updF,if_neg (fun e=>h x (by simp) e.symm),ih fun g hg=>h g (by simp [hg])];rfl
theorem listF_cut (k:Nat):∀ (B A:List Fil) (l:List Fil),(l.map Fil.name).Nodup→listF l=A++B→listF (cutL k A.length (B.map Fil.name) l)=A++cutAll k A.length B:=by
 intro B
 induction B with
 | nil=>intro A l _ h;exact h
 | cons f B ih =>
  intro A l nd h
  have hn:=updF_names l f.name (cutF k A.length) fun _=>rfl
  have nd2:((updF l f.name (cutF k A.length)).map Fil.name).Nodup:=by rw [hn];exact nd
  have h2:listF (updF l f.name (cutF k A.length))=(A++[cutF k A.length f])++B:=by
   rw [listF_upd' nd f.name (cutF k A.length) fun _=>rfl,h]
   have hnd:=listF_nd nd
   rw [h,List.map_append,List.nodup_append] at hnd
   rw [updF_mid _ _ _ _ fun g hg e=>hnd.2.2 g.name (List.mem_map_of_mem hg) f.name (by simp) e,List.append_assoc]
   rfl
  have:=ih (A++[cutF k A.length f]) _ nd2 h2
  rw [List.length_append,List.length_singleton] at this
  rw [List.map_cons,cutL,this,cutAll,List.append_assoc]
  rfl
theorem listF_restart {s:Sto} (nd:(s.files.map Fil.name).Nodup) (k:Nat):listF (s.restart k).files=cutAll k 0 (listF s.files):=by
 show listF (cutL k 0 (sortK (s.files.map Fil.name)) s.files)=_
 rw [← listF_names nd]
 exact listF_cut k (listF s.files) [] s.files nd rfl
end Go.Am
namespace Go.Am
set_option linter.unusedSimpArgs false
set_option linter.unusedVariables false
set_option linter.unusedSectionVars false
set_option maxRecDepth 100000

theorem afield_wp (k o e x:Nat):afield k (.wp o e x)=some (.wp o e (x+k)):=(Eq.refl _).trans (Eq.refl _)
attribute [go_sem] afield_wp
def filC (f:Fil):List AV:=[.str f.name,.str f.text,.int .i64 (f.syn:Int)]
def rowC (L:List Fil):List AV:=(L.map filC).flatten
theorem rowC_app (A B:List Fil):rowC (A++B)=rowC A++rowC B:=by simp [rowC]
theorem rowC_cons (f:Fil) (B:List Fil):rowC (f :: B)=filC f++rowC B:=by simp [rowC]
theorem rowC_len (L:List Fil):(rowC L).length=L.length * 3:=by
 induction L with
 | nil=>rfl
 | cons f L ih=>rw [rowC_cons,List.length_append,ih,List.length_cons];simp [filC];omega
theorem mid_of {L:List Fil} {i:Nat} {f:Fil} (h:L[i]?=some f):∃ A B,L=A++f :: B∧A.length=i:=by
 obtain ⟨hl,he⟩:=List.getElem?_eq_some_iff.1 h
 refine ⟨L.take i,L.drop (i+1),?_,by rw [List.length_take];omega⟩
 rw [← he,← List.drop_eq_getElem_cons hl,List.take_append_drop]
theorem set_mid (A:List Fil) (f g:Fil) (B:List Fil):(A++f :: B).set A.length g=A++g :: B:=by
 induction A with
 | nil=>rfl
 | cons x A ih=>simp only [List.cons_append,List.length_cons,List.set_cons_succ,ih]
def FsAt (H:Hp) (x:AV) (L:List Fil):Prop:=x=.nils∧L=[] ∨ ∃ o e,x=.ws true 3 o e L.length∧H[o]?=some (.row e (rowC L))
def rowA:AV→List Nat
 | .ws _ _ o _ _=>[o]
 | _=>[]
theorem FsAt.frame {H H':Hp} {x:AV} {L:List Fil} (h:FsAt H x L) (hf:∀ a ∈ rowA x,H'[a]?=H[a]?):FsAt H' x L :=
 h.imp id fun ⟨o,e,h1,h2⟩=>⟨o,e,h1,(hf o (by rw [h1];simp [rowA])).trans h2⟩
theorem FsAt.lt {H:Hp} {x:AV} {L:List Fil} (h:FsAt H x L):∀ a ∈ rowA x,a < H.length:=by
 intro a ha
 rcases h with ⟨rfl,_⟩ | ⟨o,e,rfl,h2⟩
 ·cases ha
 ·rw [List.mem_singleton.1 ha];exact lt_of_get h2
theorem FsAt.len {H:Hp} {x:AV} {L:List Fil} (h:FsAt H x L) (t:Nat):alenD (.slice t) x=some (.int .i64 (L.length:Int)):=by
 rcases h with ⟨rfl,rfl⟩ | ⟨o,e,rfl,_⟩ <;> rfl
theorem FsAt.idx {H : Hp} {x : AV} {L : List Fil} (h : FsAt H x L) {i : Nat} {f : Fil} (hi : L[i]? = some f) :
    ∃ o e,x=.ws true 3 o e L.length∧H[o]?=some (.row e (rowC L))∧aindexS 3 x (.int .i64 (i:Int))=some (.wp o e (i * 3)) ∧
     aload false 1 (.wp o e (i * 3)) H=some (.str f.name)∧aload false 1 (.wp o e (i * 3+1)) H=some (.str f.text)∧aload false 1 (.wp o e (i * 3+2)) H=some (.int .i64 (f.syn:Int)) ∧
     aload true 3 (.wp o e (i * 3)) H=some (.agg (filC f)):=by
 have hl:=(List.getElem?_eq_some_iff.1 hi).1
 rcases h with ⟨rfl,rfl⟩ | ⟨o,e,rfl,h2⟩
 ·simp at hi
 ·obtain ⟨A,B,rfl,rfl⟩:=mid_of hi
  have hrow:rowC (A++f :: B)=rowC A++(filC f++rowC B):=by rw [rowC_app,rowC_cons]
  have hA:=rowC_len A
  have hd:(rowC (A++f :: B)).drop (A.length * 3)=filC f++rowC B:=by rw [hrow,← hA,List.drop_left]
  have hg:∀ j,(rowC (A++f :: B))[A.length * 3+j]?=(filC f++rowC B)[j]?:=fun j=>by rw [← List.getElem?_drop,hd]
  have hg0:(rowC (A++f :: B))[A.length * 3]?=some (.str f.name):=hg 0
  refine ⟨o,e,rfl,h2,?_,?_,?_,?_,?_⟩
  ·unfold aindexS
   dsimp only
   rw [if_pos (by omega),Int.toNat_natCast]
  ·unfold aload
   simp only [h2,if_true]
   unfold Go.Am.apart
   simp only [hg0]
   rfl
  ·unfold aload
   simp only [h2,if_true]
   unfold Go.Am.apart
   simp only [hg]
   rfl
  ·unfold aload
   simp only [h2,if_true]
   unfold Go.Am.apart
   simp only [hg]
   rfl
  ·unfold aload
   simp only [h2,if_true]
   unfold Go.Am.apart
   have h3:((rowC (A++f :: B)).drop (A.length * 3)).take 3=filC f:=by rw [hd];rfl
   simp only [h3,if_true]
   rw [if_pos (by rw [rowC_len];simp;omega)]
theorem FsAt.app {H : Hp} {x : AV} {L : List Fil} (h : FsAt H x L) (f : Fil) (hl : L.length ≤ 1048576) :
    ∃ x' H',aappEL true 3 40 x (.vs 3 .clip [.agg (filC f)]) H=some (x',H')∧FsAt H' x' (L++[f])∧Stp (rowA x) H H'∧(∀ a ∈ rowA x',a ∈ rowA x ∨ a=H.length)∧x'.cells=[x']∧x'.known=true:=by
 unfold aappEL
 have he:Go.Am.elems 3 (.vs 3 .clip [.agg (filC f)]) H=some [.agg (filC f)]:=rfl
 rw [he]
 dsimp only
 have hf1:fits 1 40=true:=rfl
 have hfit:fits (L.length+1) 40=true:=by simp [fits];omega
 rcases h with ⟨rfl,rfl⟩ | ⟨o,e,rfl,ho⟩
 ·refine ⟨.ws true 3 H.length 0 1,H++[.row 0 (filC f)],?_,.inr ⟨H.length,0,rfl,by simp [rowC]⟩,Stp.push _ _,fun a ha=>.inr (List.mem_singleton.1 ha),rfl,rfl⟩
  unfold aappL
  simp only [List.length_singleton,hf1,if_true,List.map_cons,List.map_nil,List.flatten_cons,List.flatten_nil,AV.cells,List.append_nil]
  rw [if_neg (by simp)]
 ·refine ⟨.ws true 3 o (e+1) (L.length+1),H.set o (.row (e+1) (rowC (L++[f]))),?_,.inr ⟨o,e+1,by simp,get_set_eq _ ho⟩,Stp.set _ _ (by simp [rowA]),fun a ha=>.inl (by simpa [rowA] using ha),rfl,rfl⟩
  unfold aappL
  simp only [List.length_singleton,hfit,and_self,if_true,ho,rowC_len,List.map_cons,List.map_nil,List.flatten_cons,List.flatten_nil,AV.cells,List.append_nil]
  rw [if_neg (by simp),rowC_app,rowC_cons]
  simp [rowC]
theorem splice_row (A:List Fil) (f:Fil) (B:List Fil) (j:Nat) (c:List AV) (hj:j+c.length≤3):splice (rowC (A++f :: B)) (A.length * 3+j) c=rowC A++(splice (filC f) j c++rowC B):=by
 have hA:=rowC_len A
 have h3:(filC f).length=3:=rfl
 unfold splice
 rw [rowC_app,rowC_cons,← hA]
 rw [List.take_length_add_append,List.take_append_of_le_length (by omega),Nat.add_assoc,List.drop_length_add_append,List.drop_append_of_le_length (by omega)]
 simp [List.append_assoc]
theorem FsAt.put {H : Hp} {L : List Fil} {o e i : Nat} {f g : Fil} (ho : H[o]? = some (.row e (rowC L))) (hi : L[i]? = some f) (j : Nat) {v : AV} (hk : v.known = true) (sz : Nat) (hv : v.cells.length = sz) (hj : j + sz ≤ 3) (hg : splice (filC f) j v.cells = filC g) :
    astoreU sz (.wp o e (i * 3+j)) v H=some (.tuple [],H.set o (.row e (rowC (L.set i g)))):=by
 obtain ⟨A,B,rfl,rfl⟩:=mid_of hi
 have hl:(rowC (A++f :: B)).length=A.length * 3+(3+B.length * 3):=by rw [rowC_len];simp;omega
 unfold astoreU astore
 simp only [ho]
 rw [if_pos ⟨trivial,hk,hv,by omega⟩,splice_row A f B j v.cells (by omega),hg,set_mid,← rowC_cons,← rowC_app]
end Go.Am
namespace Go.Am
set_option linter.unusedSimpArgs false
set_option linter.unusedVariables false
set_option linter.unusedSectionVars false
set_option maxRecDepth 100000

def rfC (x:AV) (s:Sto):List AV:=[.int .i64 (s.limit:Int),x,.int .i64 (s.peak:Int),.bool s.crashed,.int .i64 (s.count:Int)]
structure RfAt (H:Hp) (r:Nat) (x:AV) (s:Sto):Prop where
 cells:H[r]?=some (.cells (rfC x s))
 files:FsAt H x (listF s.files)
 nr:r ∉ rowA x
def RefAt (H:Hp) (r:Nat) (s:Sto) (A:List Nat):Prop:=∃ x,RfAt H r x s∧A=r :: rowA x
structure RefRes (H H':Hp) (r:Nat) (s':Sto) (A A':List Nat):Prop where
 at':RefAt H' r s' A'
 stp:Stp A H H'
 own:∀ a ∈ A',a ∈ A ∨ H.length≤a
structure ROk (s:Sto):Prop where
 sto:StoOk s
 cnt:s.crashed=true→s.count=0
theorem tick_okS {s:Sto} (h:StoOk s):StoOk s.tick:=by
 have:=h.count
 unfold Sto.tick
 split
 ·exact h
 ·split
  ·exact ⟨h.limit,h.used,h.peak,h.name,h.nd,h.syn,h.len,by simp⟩
  ·exact ⟨h.limit,h.used,h.peak,h.name,h.nd,h.syn,h.len,by show s.count - 1≤9223372036854775807;omega⟩
theorem ROk.tick {s:Sto} (h:ROk s):ROk s.tick:=⟨tick_okS h.sto,by
 unfold Sto.tick
 split
 ·exact h.cnt
 ·split
  ·exact fun _=>rfl
  ·rename_i h1 _
   exact fun h2=>absurd h2 h1⟩
theorem ROk.nd {s:Sto} (h:ROk s):(s.files.map Fil.name).Nodup:=h.sto.nd
theorem ROk.len {s:Sto} (h:ROk s):(listF s.files).length≤64:=Nat.le_trans (listF_len _) h.sto.len
theorem RfAt.lt {H:Hp} {r:Nat} {x:AV} {s:Sto} (h:RfAt H r x s):∀ a ∈ r :: rowA x,a < H.length:=by
 intro a ha
 rcases List.mem_cons.1 ha with e | ha
 ·subst e;exact lt_of_get h.cells
 ·exact h.files.lt a ha
theorem RfAt.frame {H H':Hp} {r:Nat} {x:AV} {s:Sto} (h:RfAt H r x s) (hf:∀ a ∈ r :: rowA x,H'[a]?=H[a]?):RfAt H' r x s :=
 ⟨(hf _ (by simp)).trans h.cells,h.files.frame fun a ha=>hf a (by simp [ha]),h.nr⟩
theorem RefAt.lt {H:Hp} {r:Nat} {s:Sto} {A:List Nat} (h:RefAt H r s A):∀ a ∈ A,a < H.length:=by
 obtain ⟨x,h,rfl⟩:=h
 exact h.lt
theorem RefAt.frame {H H':Hp} {r:Nat} {s:Sto} {A:List Nat} (h:RefAt H r s A) (hf:∀ a ∈ A,H'[a]?=H[a]?):RefAt H' r s A:=by
 obtain ⟨x,h,rfl⟩:=h
 exact ⟨x,h.frame hf,rfl⟩
theorem RefAt.stp {H H':Hp} {r:Nat} {s:Sto} {A B:List Nat} (h:RefAt H r s A) (hs:Stp B H H') (hd:∀ a ∈ A,a ∉ B):RefAt H' r s A:=h.frame fun a ha=>hs.at' a (h.lt a ha) (hd a ha)
theorem RefAt.self {H:Hp} {r:Nat} {s:Sto} {A:List Nat} (h:RefAt H r s A):RefRes H H r s A A:=⟨h,Stp.refl _ _,fun a ha=>.inl ha⟩
theorem RfAt.cell {H H':Hp} {r:Nat} {x:AV} {s s':Sto} (h:RfAt H r x s) (hS:Stp [r] H H') (hc:H'[r]?=some (.cells (rfC x s'))) (hf:s'.files=s.files):RfAt H' r x s' :=
 ⟨hc,by rw [hf];exact h.files.frame fun a ha=>hS.at' a (h.files.lt a ha) (fun hx=>h.nr (by rw [List.mem_singleton.1 hx] at ha;exact ha)),h.nr⟩
theorem RfAt.res {H H':Hp} {r:Nat} {x:AV} {s':Sto} (h:RfAt H' r x s') (hS:Stp [r] H H'):RefRes H H' r s' (r :: rowA x) (r :: rowA x) :=
 ⟨⟨x,h,rfl⟩,hS.mono fun a ha=>by rw [List.mem_singleton.1 ha];simp,fun a ha=>.inl ha⟩
theorem rfails_run {H : Hp} {r : Nat} {x : AV} {s : Sto} (h : RfAt H r x s) (hk : ROk s) :
    ∃ H',C_R18_Store_fails [.ptr r 0] H=some (.bool s.tick.crashed,H')∧RfAt H' r x s.tick∧Stp [r] H H':=by
 have hc:=h.cells
 have hcount:=hk.sto.count
 have l4:=ldn hc 4 (v:=.int .i64 (s.count:Int)) rfl
 rw [F_R18_Store_fails_eq]
 unfold F_R18_Store_fails
 by_cases h1:s.count=1
 ·have hcr : s.crashed = false := by cases hb : s.crashed with
     | false=>rfl
     | true=>have:=hk.cnt hb;omega
  have ht:s.tick={ s with crashed:=true,count:=0 }:=by unfold Sto.tick;rw [if_neg (by simp [hcr]),if_pos h1]
  have e1:((s.count:Int) == 1)=true:=by rw [h1];rfl
  have s3:=stn hc 3 (v:=.bool true) rfl rfl (by simp [rfC])
  have g3:=get_set_eq (AObj.cells (List.set (rfC x s) 3 (.bool true))) hc
  generalize hH1:H.set r (.cells (List.set (rfC x s) 3 (.bool true)))=H1 at s3 g3
  have k4:=ldn g3 4 (v:=.int .i64 (s.count:Int)) rfl
  have hw:IntKind.i64.wrap ((s.count:Int) - 1)=0:=by rw [wrap64 (by omega) (by omega)];omega
  have hm:max (0:Int) 0=0:=rfl
  have s4:=stn g3 4 (v:=.int .i64 0) rfl rfl (by simp [rfC])
  have g4:=get_set_eq (AObj.cells (List.set (List.set (rfC x s) 3 (.bool true)) 4 (.int .i64 0))) g3
  have k3:=ldn g4 3 (v:=.bool true) rfl
  have hS:Stp [r] H (H1.set r (.cells (List.set (List.set (rfC x s) 3 (.bool true)) 4 (.int .i64 0)))):=by
   rw [← hH1]
   exact (Stp.set H _ (by simp)).trans (Stp.set _ _ (List.mem_singleton.2 rfl)) (fun a ha=>ha) (fun a ha=>.inl ha)
  refine ⟨_,by simp only [go_sem,Nat.zero_add,l4,e1,s3,R18_Store_fails_J1_eq,k4,hw,hm,s4,k3,ht],?_,hS⟩
  rw [ht]
  exact h.cell hS g4 rfl
 ·have e1:((s.count:Int) == 1)=false:=by rw [beq_eq_false_iff_ne];omega
  have ht:s.tick={ s with count:=s.count - 1 }:=by
   unfold Sto.tick
   cases hb:s.crashed with
   | true=>have:=hk.cnt hb;rw [if_pos rfl];cases s;simp at this hb;subst this;subst hb;rfl
   | false=>rw [if_neg (by simp),if_neg h1]
  have hw:IntKind.i64.wrap ((s.count:Int) - 1)=(s.count:Int) - 1:=wrap64 (by omega) (by omega)
  have hm:max (0:Int) ((s.count:Int) - 1)=((s.count - 1:Nat):Int):=by omega
  have s4:=stn hc 4 (v:=.int .i64 ((s.count - 1:Nat):Int)) rfl rfl (by simp [rfC])
  have g4:=get_set_eq (AObj.cells (List.set (rfC x s) 4 (.int .i64 ((s.count - 1:Nat):Int)))) hc
  have k3:=ldn g4 3 (v:=.bool s.crashed) rfl
  have hS:Stp [r] H (H.set r (.cells (List.set (rfC x s) 4 (.int .i64 ((s.count - 1:Nat):Int))))):=Stp.set _ _ (by simp)
  refine ⟨_,by simp only [go_sem,Nat.zero_add,l4,e1,R18_Store_fails_J1_eq,hw,hm,s4,k3,ht],?_,hS⟩
  rw [ht]
  exact h.cell hS g4 rfl
def placeI (L:List Fil) (n:Txt):Int:=match placeF L n with
 | some i=>(i:Int)
 | none=>-1
theorem rplace_run {H:Hp} {r:Nat} {x:AV} {s:Sto} (h:RfAt H r x s) (hk:ROk s) (n:Txt):C_R18_Store_place [.ptr r 0,.str n] H=some (.int .i64 (placeI (listF s.files) n),H):=by
 have l1:=ldn h.cells 1 (v:=x) rfl
 have h64:=hk.len
 generalize hL:listF s.files=L at *
 have hf:FsAt H x L:=by rw [← hL];exact h.files
 have loop : ∀ (q d : List Fil), L = d ++ q → R18_Store_place_L1 (.ptr r 0) (.str n) (.int .i64 (d.length : Int)) H H = some (.int .i64 (match placeF q n with
     | some i=>((d.length+i:Nat):Int)
     | none=>-1),H):=by
  intro q
  induction q with
  | nil =>
   intro d hd
   rw [List.append_nil] at hd
   subst hd
   have hlt:decide ((L.length:Int) < (L.length:Int))=false:=by simp
   rw [R18_Store_place_L1_eq]
   simp only [go_sem,Nat.zero_add,l1,hf.len,hlt,R18_Store_place_J1_eq,placeF]
  | cons f q ih =>
   intro d hd
   have hlen:L.length=d.length+(q.length+1):=by rw [hd];simp
   have hlt:decide ((d.length:Int) < (L.length:Int))=true:=by simp;omega
   have hw1:IntKind.i64.wrap ((d.length:Int)+1)=((d.length+1:Nat):Int):=by rw [wrap64 (by omega) (by omega)];omega
   have hi:L[d.length]?=some f:=by rw [hd,List.getElem?_append_right (Nat.le_refl _)];simp
   obtain ⟨o,e,rfl,_,ix,i0,_,_,_⟩:=hf.idx hi
   have hse:sbin .eql (.str f.name) (.str n)=some (.bool (f.name == n)):=rfl
   rw [R18_Store_place_L1_eq]
   by_cases hn:f.name=n
   ·have hb:(f.name == n)=true:=by simpa using hn
    simp only [go_sem,Nat.zero_add,l1,hf.len,hlt,R18_Store_place_J2_eq,ix,Nat.add_zero,i0,hse,hb,placeF,if_pos hn]
   ·have hb:(f.name == n)=false:=by simpa using hn
    have k:=ih (d++[f]) (by rw [hd];simp)
    rw [List.length_append,List.length_singleton] at k
    simp only [go_sem,Nat.zero_add,l1,hf.len,hlt,R18_Store_place_J2_eq,ix,Nat.add_zero,i0,hse,hb,R18_Store_place_J3_eq,hw1,k,placeF,if_neg hn]
    congr 3
    cases placeF q n with
    | none=>rfl
    | some i=>simp only [Option.map_some];omega
 rw [F_R18_Store_place_eq]
 unfold F_R18_Store_place
 have:=loop L [] rfl
 simp only [List.length_nil] at this
 refine this.trans ?_
 unfold placeI
 congr 3
 cases placeF L n with
 | none=>rfl
 | some i=>simp
theorem rbegin_run {H : Hp} {r : Nat} {x : AV} {s : Sto} (h : RfAt H r x s) (hk : ROk s) (n : Txt) :
    ∃ (v e:Int) (H':Hp),C_R18_Store_begin [.ptr r 0,.str n] H=some (.tuple [.int .i64 v,.int .i64 e],H')∧RfAt H' r x s.tick∧Stp [r] H H' ∧
     (s.tick.crashed=true∧e=19 ∨ s.tick.crashed=false∧getF s.files n=none∧e=5 ∨
      s.tick.crashed=false∧e=0∧∃ (i:Nat) (f:Fil),v=(i:Int)∧i < (listF s.files).length∧getF s.files n=some f∧(listF s.files)[i]?=some f∧rmF (listF s.files) n=(listF s.files).eraseIdx i∧∀ u,updF (listF s.files) n u=(listF s.files).set i (u f)):=by
 have hnil:∀ t,ebin (.pointer t) .eql (.ptr r 0) .nilp=some (.bool false):=fun _=>rfl
 obtain ⟨H1,q1,q2,q3⟩:=rfails_run h hk
 have hpl:C_R18_Store_place [.ptr r 0,.str n] H1=some (.int .i64 (placeI (listF s.files) n),H1):=by
  have hk2:=hk.tick
  have:=rplace_run q2 hk2 n
  rwa [tick_files] at this
 rw [F_R18_Store_begin_eq]
 unfold F_R18_Store_begin
 cases hcr:s.tick.crashed with
 | true =>
  rw [hcr] at q1
  exact ⟨0,19,H1,by simp only [hnil,go_sem,R18_Store_begin_J1_eq,q1],q2,q3,.inl ⟨rfl,rfl⟩⟩
 | false =>
  rw [hcr] at q1
  rcases placeF_spec (listF s.files) n with ⟨p1,p2⟩ | ⟨i,f,p1,p2,p3,p4,p5,p6⟩
  ·rw [listF_get hk.nd] at p2
   have hp:placeI (listF s.files) n=-1:=by unfold placeI;rw [p1]
   rw [hp] at hpl
   have hd:decide ((-1:Int) < 0)=true:=rfl
   exact ⟨0,5,H1,by simp only [hnil,go_sem,R18_Store_begin_J1_eq,q1,R18_Store_begin_J2_eq,hpl,hd],q2,q3,.inr (.inl ⟨rfl,p2,rfl⟩)⟩
  ·rw [listF_get hk.nd] at p2
   have hp:placeI (listF s.files) n=(i:Int):=by unfold placeI;rw [p1]
   rw [hp] at hpl
   have hd:decide ((i:Int) < 0)=false:=by simp
   exact ⟨(i:Int),0,H1,by simp only [hnil,go_sem,R18_Store_begin_J1_eq,q1,R18_Store_begin_J2_eq,hpl,hd,R18_Store_begin_J3_eq],q2,q3,.inr (.inr ⟨rfl,rfl,i,f,rfl,p4,p2,p3,p5,p6⟩)⟩
end Go.Am
namespace Go.Am
set_option linter.unusedSimpArgs false
set_option linter.unusedVariables false
set_option linter.unusedSectionVars false
set_option maxRecDepth 100000

theorem one_filC (f:Fil):(setElems 3 [(0,.agg (filC f))] [(.agg [(.str []),(.str []),(.int .i64 0)])]).map (AV.vs 3 .clip)=some (.vs 3 .clip [.agg (filC f)]):=rfl
structure NewR (N:Nat) (H0 H:Hp) (x:AV) (L:List Fil):Prop where
 at':FsAt H x L
 keep:Keep N H0 H
 len:N≤H.length
 new:∀ a ∈ rowA x,N≤a
 cell:x.cells=[x]∧x.known=true
theorem NewR.app {N:Nat} {H0 H:Hp} {x:AV} {L:List Fil} (h:NewR N H0 H x L) (f:Fil) (hl:L.length≤1048576):∃ x' H',aappEL true 3 40 x (.vs 3 .clip [.agg (filC f)]) H=some (x',H')∧NewR N H0 H' x' (L++[f]):=by
 obtain ⟨x',H',q1,q2,q3,q4,q5,q6⟩:=h.at'.app f hl
 have hn:=h.len
 refine ⟨x',H',q1,q2,fun a ha=>?_,Nat.le_trans h.len q3.len,fun a ha=>?_,q5,q6⟩
 ·rw [q3.at' a (by omega) (fun k=>by have:=h.new a k;omega)]
  exact h.keep a ha
 ·rcases q4 a ha with k | k
  ·exact h.new a k
  ·omega
theorem Keep.row {N:Nat} {H0 H:Hp} (h:Keep N H0 H) {a:Nat} (ha:a < N) {y:AObj} (hy:H0[a]?=some y):H[a]?=some y:=(h a ha).trans hy
section
variable {H0:Hp} {r b:Nat} {x:AV} {s:Sto} {L:List Fil} {f:Fil}
theorem rput_loop (h : H0[r]? = some (.cells (rfC x s))) (hf : FsAt H0 x L) (h64 : L.length ≤ 64) (hb : H0[b]? = some (.cells (filC f))) (HB : Hp) : ∀ (q d O : List Fil) (y : AV) (ad : Bool) (H : Hp), L = d ++ q → O.length ≤ d.length + ad.toNat → NewR H0.length H0 H y O →
    ∃ y' H',R18_Store_put_L1 (.ptr r 0) (.ptr b 0) y (.bool ad) (.int .i64 (d.length:Int)) HB H=R18_Store_put_J2 (.ptr r 0) y' HB H'∧NewR H0.length H0 H' y' (O++if ad then q else insF f q):=by
 have hr:=lt_of_get h
 have hbl:=lt_of_get hb
 intro q
 induction q with
 | nil =>
  intro d O y ad H hd hO hn
  have had:ad.toNat≤1:=by cases ad <;> simp
  rw [List.append_nil] at hd
  subst hd
  have l1:=ldn (hn.keep.row hr h) 1 (v:=x) rfl
  have hf1:FsAt H x L:=hf.frame fun a ha=>hn.keep a (hf.lt a ha)
  have hlt:decide ((L.length:Int) < (L.length:Int))=false:=by simp
  have lb:aload true 3 (.ptr b 0) H=some (.agg (filC f)):=by rw [aload_of (hn.keep.row hbl hb)];rfl
  rw [R18_Store_put_L1_eq]
  cases ad with
  | true =>
   refine ⟨y,H,?_,by simpa using hn⟩
   simp only [go_sem,Nat.zero_add,l1,hf1.len,hlt,R18_Store_put_J1_eq,Bool.not_true]
  | false =>
   obtain ⟨y',H',q1,q2⟩:=hn.app f (by omega)
   refine ⟨y',H',?_,q2⟩
   simp only [go_sem,Nat.zero_add,l1,hf1.len,hlt,R18_Store_put_J1_eq,Bool.not_false,lb,one_filC,q1]
 | cons g q ih =>
  intro d O y ad H hd hO hn
  have had:ad.toNat≤1:=by cases ad <;> simp
  have l1:=ldn (hn.keep.row hr h) 1 (v:=x) rfl
  have hf1:FsAt H x L:=hf.frame fun a ha=>hn.keep a (hf.lt a ha)
  have hlen:L.length=d.length+(q.length+1):=by rw [hd];simp
  have hlt:decide ((d.length:Int) < (L.length:Int))=true:=by simp;omega
  have hw1:IntKind.i64.wrap ((d.length:Int)+1)=((d.length+1:Nat):Int):=by rw [wrap64 (by omega) (by omega)];omega
  have hi:L[d.length]?=some g:=by rw [hd,List.getElem?_append_right (Nat.le_refl _)];simp
  have lb:aload true 3 (.ptr b 0) H=some (.agg (filC f)):=by rw [aload_of (hn.keep.row hbl hb)];rfl
  have lbn:=ldn (hn.keep.row hbl hb) 0 (v:=.str f.name) rfl
  have hgt:sbin .gtr (.str g.name) (.str f.name)=some (.bool (gtB g.name f.name)):=rfl
  have l1f:∀ {H':Hp} {y':AV} {O':List Fil},NewR H0.length H0 H' y' O'→aload false 1 (.ptr r 1) H'=some x:=fun k=>ldn (k.keep.row hr h) 1 (v:=x) rfl
  have go : ∀ {H' : Hp} {y' : AV} {O' : List Fil} (ad' : Bool), O'.length ≤ d.length + ad'.toNat → NewR H0.length H0 H' y' O' →
      ∃ y2 H2,R18_Store_put_J5 (.ptr r 0) (.ptr b 0) y' (.bool ad') (.int .i64 (d.length:Int)) HB H'=R18_Store_put_J2 (.ptr r 0) y2 HB H2∧NewR H0.length H0 H2 y2 (O'++g :: if ad' then q else insF f q):=by
   intro H' y' O' ad' hO1 hn'
   have had:ad'.toNat≤1:=by cases ad' <;> simp
   have hf2:FsAt H' x L:=hf.frame fun a ha=>hn'.keep a (hf.lt a ha)
   obtain ⟨o,e,hx,_,ix,_,_,_,ia⟩:=hf2.idx hi
   obtain ⟨y3,H3,p1,p2⟩:=hn'.app g (by omega)
   obtain ⟨y2,H2,k1,k2⟩:=ih (d++[g]) (O'++[g]) y3 ad' H3 (by rw [hd];simp) (by simp;omega) p2
   rw [List.length_append,List.length_singleton] at k1
   refine ⟨y2,H2,?_,by simpa [List.append_assoc] using k2⟩
   rw [R18_Store_put_J5_eq]
   simp only [go_sem,Nat.zero_add,l1f hn',ix,ia,one_filC,p1,R18_Store_put_J4_eq,hw1]
   exact k1
  obtain ⟨o,e,hx,_,ix,i0,_,_,_⟩:=hf1.idx hi
  rw [R18_Store_put_L1_eq]
  cases ad with
  | true =>
   obtain ⟨y2,H2,k1,k2⟩:=go true hO hn
   refine ⟨y2,H2,?_,k2⟩
   simp only [go_sem,Nat.zero_add,l1,hf1.len,hlt,R18_Store_put_J3_eq,Bool.not_true]
   exact k1
  | false =>
   cases hg:gtB g.name f.name with
   | true =>
    rw [hg] at hgt
    obtain ⟨y3,H3,p1,p2⟩:=hn.app f (by omega)
    obtain ⟨y2,H2,k1,k2⟩:=go true (by simp at hO ⊢;omega) p2
    refine ⟨y2,H2,?_,by simpa [insF,hg,List.append_assoc] using k2⟩
    simp only [go_sem,Nat.zero_add,Nat.add_zero,l1,hf1.len,hlt,R18_Store_put_J3_eq,Bool.not_false,ix,i0,lbn,hgt,lb,one_filC,p1]
    exact k1
   | false =>
    rw [hg] at hgt
    obtain ⟨y2,H2,k1,k2⟩:=go false hO hn
    refine ⟨y2,H2,?_,by simpa [insF,hg,List.append_assoc] using k2⟩
    simp only [go_sem,Nat.zero_add,Nat.add_zero,l1,hf1.len,hlt,R18_Store_put_J3_eq,Bool.not_false,ix,i0,lbn,hgt]
    exact k1
end
structure PutR (H H':Hp) (r:Nat) (y:AV) (s:Sto) (L:List Fil):Prop where
 cells:H'[r]?=some (.cells (rfC y s))
 files:FsAt H' y L
 nr:r ∉ rowA y
 stp:Stp [r] H H'
 new:∀ a ∈ rowA y,H.length≤a
theorem rstore_J2 {H0 H : Hp} {r : Nat} {x y : AV} {s : Sto} {L : List Fil} {N : Nat} (h : H0[r]? = some (.cells (rfC x s))) (hr : r < N) (hn : NewR N H0 H y L) :
    astoreU 1 (.ptr r 1) y H=some (.tuple [],H.set r (.cells (rfC y s)))∧(H.set r (.cells (rfC y s)))[r]?=some (.cells (rfC y s))∧FsAt (H.set r (.cells (rfC y s))) y L∧r ∉ rowA y:=by
 have hc:=hn.keep.row hr h
 have s1:=stn hc 1 (v:=y) hn.cell.1 hn.cell.2 (by simp [rfC])
 have hnr:r ∉ rowA y:=fun k=>by have:=hn.new r k;omega
 exact ⟨s1,get_set_eq _ hc,hn.at'.frame fun a ha=>List.getElem?_set_ne fun e=>hnr (by rw [e];exact ha),hnr⟩
theorem rput_run {H : Hp} {r : Nat} {x : AV} {s : Sto} (h : RfAt H r x s) (hk : ROk s) (f : Fil) :
    ∃ y H',C_R18_Store_put [.ptr r 0,.agg (filC f)] H=some (.tuple [],H')∧PutR H H' r y s (insF f (listF s.files)):=by
 have hbx:abox (.agg (filC f)) H=some (.ptr H.length 0,H++[.cells (filC f)]):=abox_of rfl
 have hr:=lt_of_get h.cells
 have hc0:=get_push h.cells [AObj.cells (filC f)]
 have hb0:(H++[AObj.cells (filC f)])[H.length]?=some (.cells (filC f)):=by simp
 have hf0:FsAt (H++[AObj.cells (filC f)]) x (listF s.files):=h.files.frame fun a ha=>List.getElem?_append_left (h.files.lt a ha)
 obtain ⟨y,H1,k1,k2⟩:=rput_loop hc0 hf0 hk.len hb0 H (listF s.files) [] [] .nils false (H++[AObj.cells (filC f)]) rfl (by simp) ⟨.inl ⟨rfl,rfl⟩,Keep.refl _ _,Nat.le_refl _,fun a ha=>(by cases ha),rfl,rfl⟩
 obtain ⟨s1,s2,s3,s4⟩:=rstore_J2 hc0 (by simp;omega) k2
 refine ⟨y,H1.set r (.cells (rfC y s)),?_,s2,by simpa using s3,s4,⟨?_,fun a ha hn=>?_⟩,fun a ha=>?_⟩
 ·rw [F_R18_Store_put_eq]
  unfold F_R18_Store_put
  simp only [hbx,go_sem]
  rw [show ((0:Int))=(([]:List Fil).length:Int) from rfl,k1,R18_Store_put_J2_eq]
  simp only [go_sem,Nat.zero_add,s1]
 ·have:=k2.len
  simp at this ⊢
  omega
 ·rw [List.getElem?_set_ne (fun e=>hn (by simp [e])),k2.keep a (by simp;omega),List.getElem?_append_left ha]
 ·have:=k2.new a ha
  simp at this
  omega
theorem rdrop_loop {H0 : Hp} {r : Nat} {x : AV} {s : Sto} {L : List Fil} (h : H0[r]? = some (.cells (rfC x s))) (hf : FsAt H0 x L) (h64 : L.length ≤ 64) (k : Nat) (HB : Hp) : ∀ (q d O : List Fil) (y : AV) (H : Hp), L = d ++ q → O.length ≤ d.length → NewR H0.length H0 H y O →
    ∃ y' H',R18_Store_drop_L1 (.ptr r 0) (.int .i64 (k:Int)) y (.int .i64 (d.length:Int)) HB H=R18_Store_drop_J1 (.ptr r 0) y' HB H'∧NewR H0.length H0 H' y' (O++if k < d.length then q else q.eraseIdx (k - d.length)):=by
 have hr:=lt_of_get h
 intro q
 induction q with
 | nil =>
  intro d O y H hd hO hn
  rw [List.append_nil] at hd
  subst hd
  have l1:=ldn (hn.keep.row hr h) 1 (v:=x) rfl
  have hf1:FsAt H x L:=hf.frame fun a ha=>hn.keep a (hf.lt a ha)
  have hlt:decide ((L.length:Int) < (L.length:Int))=false:=by simp
  rw [R18_Store_drop_L1_eq]
  refine ⟨y,H,by simp only [go_sem,Nat.zero_add,l1,hf1.len,hlt],by simpa using hn⟩
 | cons g q ih =>
  intro d O y H hd hO hn
  have l1:=ldn (hn.keep.row hr h) 1 (v:=x) rfl
  have hf1:FsAt H x L:=hf.frame fun a ha=>hn.keep a (hf.lt a ha)
  have hlen:L.length=d.length+(q.length+1):=by rw [hd];simp
  have hlt:decide ((d.length:Int) < (L.length:Int))=true:=by simp;omega
  have hw1:IntKind.i64.wrap ((d.length:Int)+1)=((d.length+1:Nat):Int):=by rw [wrap64 (by omega) (by omega)];omega
  have hi:L[d.length]?=some g:=by rw [hd,List.getElem?_append_right (Nat.le_refl _)];simp
  obtain ⟨o,e,hx,_,ix,_,_,_,ia⟩:=hf1.idx hi
  rw [R18_Store_drop_L1_eq]
  by_cases hkd:d.length=k
  ·have hb:((d.length:Int) != (k:Int))=false:=by simp [hkd]
   obtain ⟨y2,H2,k1,k2⟩:=ih (d++[g]) O y H (by rw [hd];simp) (by simp;omega) hn
   rw [List.length_append,List.length_singleton] at k1 k2
   refine ⟨y2,H2,?_,?_⟩
   ·simp only [go_sem,Nat.zero_add,l1,hf1.len,hlt,R18_Store_drop_J2_eq,hb,R18_Store_drop_J3_eq,hw1]
    exact k1
   ·rw [if_pos (by omega)] at k2
    rw [if_neg (by omega),← hkd,Nat.sub_self]
    exact k2
  ·have hb:((d.length:Int) != (k:Int))=true:=by simp;omega
   obtain ⟨y3,H3,p1,p2⟩:=hn.app g (by omega)
   obtain ⟨y2,H2,k1,k2⟩:=ih (d++[g]) (O++[g]) y3 H3 (by rw [hd];simp) (by simp;omega) p2
   rw [List.length_append,List.length_singleton] at k1 k2
   refine ⟨y2,H2,?_,?_⟩
   ·simp only [go_sem,Nat.zero_add,l1,hf1.len,hlt,R18_Store_drop_J2_eq,hb,ix,ia,one_filC,p1,R18_Store_drop_J3_eq,hw1]
    exact k1
   ·by_cases hlt2:k < d.length
    ·rw [if_pos (by omega)] at k2
     rw [if_pos hlt2]
     simpa [List.append_assoc] using k2
    ·rw [if_neg (by omega)] at k2
     rw [if_neg hlt2]
     have:k - d.length=(k - (d.length+1))+1:=by omega
     rw [this,List.eraseIdx_cons_succ]
     simpa [List.append_assoc] using k2
theorem rdrop_run {H : Hp} {r : Nat} {x : AV} {s : Sto} (h : RfAt H r x s) (hk : ROk s) (k : Nat) :
    ∃ y H',C_R18_Store_drop [.ptr r 0,.int .i64 (k:Int)] H=some (.tuple [],H')∧PutR H H' r y s ((listF s.files).eraseIdx k):=by
 have hr:=lt_of_get h.cells
 obtain ⟨y,H1,k1,k2⟩:=rdrop_loop h.cells h.files hk.len k H (listF s.files) [] [] .nils H rfl (by simp) ⟨.inl ⟨rfl,rfl⟩,Keep.refl _ _,Nat.le_refl _,fun a ha=>(by cases ha),rfl,rfl⟩
 obtain ⟨s1,s2,s3,s4⟩:=rstore_J2 h.cells hr k2
 refine ⟨y,H1.set r (.cells (rfC y s)),?_,s2,by simpa using s3,s4,⟨?_,fun a ha hn=>?_⟩,fun a ha=>k2.new a ha⟩
 ·rw [F_R18_Store_drop_eq]
  unfold F_R18_Store_drop
  rw [show ((0:Int))=(([]:List Fil).length:Int) from rfl,k1,R18_Store_drop_J1_eq]
  simp only [go_sem,Nat.zero_add,s1]
 ·have:=k2.len
  simpa using this
 ·rw [List.getElem?_set_ne (fun e=>hn (by simp [e])),k2.keep a ha]
theorem PutR.res {H H1 H':Hp} {r:Nat} {x y:AV} {s':Sto} (h:PutR H1 H' r y s' (listF s'.files)) (hS:Stp [r] H H1):RefRes H H' r s' (r :: rowA x) (r :: rowA y):=by
 refine ⟨⟨y,⟨h.cells,h.files,h.nr⟩,rfl⟩,(hS.trans h.stp (fun a ha=>ha) fun a ha=>.inl ha).mono fun a ha=>by rw [List.mem_singleton.1 ha];simp,fun a ha=>?_⟩
 rcases List.mem_cons.1 ha with e | ha
 ·exact .inl (by simp [e])
 ·have:=h.new a ha
  have:=hS.len
  exact .inr (by omega)
end Go.Am
namespace Go.Am
set_option linter.unusedSimpArgs false
set_option linter.unusedVariables false
set_option linter.unusedSectionVars false
set_option maxRecDepth 100000

def rnameD (t31_2:AV):Option AV :=
 bnd (ibin .geq t31_2 (.int .u8 97)) fun t33_3 =>
 bnd (gdv t33_3 true (.tuple []) (some t31_2)) fun t35_4 =>
 bnd (gdv t33_3 true (.tuple []) (ibin .leq t35_4 (.int .u8 122))) fun t36_5 =>
 bnd (apick t33_3 t36_5 (.bool false)) fun t37_6 =>
 bnd (gdv t37_6 false (.tuple []) (some t31_2)) fun t39_7 =>
 bnd (gdv t37_6 false (.tuple []) (ibin .geq t39_7 (.int .u8 65))) fun t40_8 =>
 bnd (gdv t37_6 false (.tuple []) (some t40_8)) fun t41_9 =>
 bnd (gdv t41_9 true (.tuple []) (some t31_2)) fun t42_10 =>
 bnd (gdv t41_9 true (.tuple []) (ibin .leq t42_10 (.int .u8 90))) fun t43_11 =>
 bnd (gdv t37_6 false (.tuple []) (apick t41_9 t43_11 (.bool false))) fun t44_12 =>
 bnd (apick t37_6 (.bool true) t44_12) fun t45_13 =>
 bnd (gdv t45_13 false (.tuple []) (some t31_2)) fun t47_14 =>
 bnd (gdv t45_13 false (.tuple []) (ibin .geq t47_14 (.int .u8 48))) fun t48_15 =>
 bnd (gdv t45_13 false (.tuple []) (some t48_15)) fun t49_16 =>
 bnd (gdv t49_16 true (.tuple []) (some t31_2)) fun t50_17 =>
 bnd (gdv t49_16 true (.tuple []) (ibin .leq t50_17 (.int .u8 57))) fun t51_18 =>
 bnd (gdv t45_13 false (.tuple []) (apick t49_16 t51_18 (.bool false))) fun t52_19 =>
 bnd (apick t45_13 (.bool true) t52_19) fun t53_20 =>
 bnd (gdv t53_20 false (.tuple []) (some t31_2)) fun t55_21 =>
 bnd (gdv t53_20 false (.tuple []) (ibin .eql t55_21 (.int .u8 95))) fun t56_22 =>
 bnd (apick t53_20 (.bool true) t56_22) fun t57_23 =>
 bnd (aun .not t57_23) fun t58_24 =>
 some t58_24
theorem R05_IsName_J3_D_eq (x0 x3 : AV) (H0 H : Hp) : R05_IsName_J3 x0 x3 H0 H =
    bnd (aindexStr x0 x3) fun t31_2 =>
    bnd (rnameD t31_2) fun t58_24 =>
    cnd t58_24 (some ((.bool false),H)) (R05_IsName_J4 x0 x3 H0 H):=by
 rw [R05_IsName_J3_eq];simp only [rnameD,bnd_assoc,bnd_some]
theorem rnameD_all:((List.range 256).all fun n=>(boolOf (rnameD (.int .u8 (n:Int))) == some (!inName n)))=true:=by kernel_rfl
theorem rnameD_ok (b:UInt8):rnameD (.int .u8 b.toNat)=some (.bool (!inName b.toNat)):=by
 have h:=all_range rnameD_all (u8_lt b)
 simp only [beq_iff_eq] at h
 exact boolOf_some h

def nameS (s:List UInt8):Bool :=
 match s with
 | []=>false
 | b :: _=>decide (s.length≤32) && !digit b.toNat && s.all fun c=>inName c.toNat
theorem rname_loop (s : List UInt8) (hs : s.length ≤ 4611686018427387904) (H0 H : Hp) : ∀ (k i : Nat), s.length - i = k → i ≤ s.length →
    R05_IsName_L1 (.str s) (.int .i64 i) H0 H=some (.bool ((s.drop i).all fun c=>inName c.toNat),H):=by
 intro k
 induction k with
 | zero =>
  intro i hk hi
  rw [R05_IsName_L1_eq]
  have hlt:decide ((i:Int) < (s.length:Int))=false:=by simp;omega
  have hd:s.drop i=[]:=List.drop_eq_nil_iff.2 (by omega)
  simp only [go_sem,alenD,hlt,R05_IsName_J2_eq,hd,List.all_nil]
 | succ k ih =>
  intro i hk hi
  rw [R05_IsName_L1_eq]
  have hl:i < s.length:=by omega
  have hlt:decide ((i:Int) < (s.length:Int))=true:=by simp;omega
  have hw:IntKind.i64.wrap ((i:Int)+1)=((i+1:Nat):Int):=by rw [wrap64 (by omega) (by omega)];omega
  simp only [go_sem,alenD,hlt,R05_IsName_J3_D_eq,aindexStr_of (List.getElem?_eq_getElem hl),rnameD_ok]
  rw [List.drop_eq_getElem_cons hl,List.all_cons]
  cases hb:inName s[i].toNat with
  | false=>simp only [go_sem,Bool.not_false,Bool.false_and]
  | true =>
   simp only [go_sem,Bool.not_true,Bool.true_and,R05_IsName_J4_eq,hw]
   exact ih (i+1) (by omega) (by omega)
theorem rname_spec (s:List UInt8) (hs:s.length≤4611686018427387904) (H:Hp):C_R05_IsName [.str s] H=some (.bool (nameS s),H):=by
 rw [F_R05_IsName_eq]
 unfold F_R05_IsName
 simp only [go_sem,alenD]
 cases s with
 | nil=>simp [go_sem,nameS]
 | cons b l =>
  have h0:((((b :: l).length:Nat):Int) == 0)=false:=by simp;omega
  have hidx:aindexStr (.str (b :: l)) (.int .i64 0)=some (.int .u8 b.toNat):=by simp [aindexStr]
  simp only [go_sem,h0]
  by_cases h32:32 < (b :: l).length
  ·have c1:decide ((32:Int) < ((b :: l).length:Int))=true:=by simp at h32 ⊢;omega
   have : nameS (b :: l) = false := by unfold nameS; have : decide ((b :: l).length ≤ 32) = false := by simp at h32 ⊢; omega
                                       rw [this];rfl
   simp only [go_sem,c1,this]
  ·have c1:decide ((32:Int) < ((b :: l).length:Int))=false:=by simp at h32 ⊢;omega
   have c2:decide ((b :: l).length≤32)=true:=by simp at h32 ⊢;omega
   have hl:=rname_loop (b :: l) hs H H (b :: l).length 0 (by simp) (by omega)
   rw [show ((0:Nat):Int)=0 from rfl,List.drop_zero] at hl
   have hn:nameS (b :: l)=(!digit b.toNat && (b :: l).all fun c=>inName c.toNat):=by unfold nameS;simp only [c2,Bool.true_and]
   simp only [go_sem,c1,hidx,R05_IsName_J1_eq,hl,hn]
   have e1:decide ((48:Int)≤(b.toNat:Int))=decide (48≤b.toNat):=by rw [Bool.eq_iff_iff];simp;omega
   have e2:decide ((b.toNat:Int)≤(57:Int))=decide (b.toNat≤57):=by rw [Bool.eq_iff_iff];simp;omega
   unfold digit
   simp only [e1,e2]
   cases h48:decide (48≤b.toNat) with
   | false=>simp only [go_sem,Bool.false_and,Bool.not_false,Bool.true_and]
   | true =>
    cases h57:decide (b.toNat≤57) with
    | false=>simp only [go_sem,hidx,e2,h57,Bool.true_and,Bool.not_false]
    | true=>simp only [go_sem,hidx,e2,h57,Bool.true_and,Bool.not_true,Bool.false_and]
theorem rname_flat (s:List UInt8) (hs:s.length≤4611686018427387904) (H:Hp):flatC C_R05_IsName [.str s] H=some (.bool (nameS s),H):=flat1 rfl (rname_spec s hs []) rfl
theorem rowner_flat (s:Txt) (hs:s.length≤1048576) (H:Hp):flatC C_R19_ownerOk [.str s] H=some (.bool (validS s),H):=by
 refine flat1 (a':=.str s) rfl (H1:=[]) ?_ rfl
 have hn:=rname_flat s (by omega) []
 rw [F_R19_ownerOk_eq]
 unfold F_R19_ownerOk
 have hv:validS s=(nameS s && decide ((s.length:Int)≤16)):=by
  cases s with
  | nil=>rfl
  | cons b l =>
   unfold validS nameS
   have e:decide ((((b :: l).length:Nat):Int)≤16)=decide ((b :: l).length≤16):=by rw [Bool.eq_iff_iff];simp;omega
   rw [e]
   by_cases h:(b :: l).length≤16
   ·have h2:decide ((b :: l).length≤32)=true:=by simp at h ⊢;omega
    simp only [h2,decide_eq_true h,Bool.true_and,Bool.and_true]
   ·simp only [decide_eq_false h,Bool.false_and,Bool.and_false]
 rw [hv]
 simp only [hn,go_sem]
 cases nameS s <;> simp only [go_sem,alenD,Bool.true_and,Bool.false_and]
theorem gix {α : Type} {x i v : AV} (h : aindexStr x i = some v) (t : AV) (w : Bool) (k : AV → Option α) :
    (bnd (gdv t w (.tuple []) (some x)) fun a=>bnd (gdv t w (.tuple []) (some i)) fun c=>bnd (gdv t w (.tuple []) (aindexStr a c)) k)=bnd (gdv t w (.tuple []) (some v)) k:=by
 cases t with
 | bool b=>cases b <;> cases w <;> simp [gdv,bnd,h]
 | _=>rfl
def rfileD (t30_2:AV):Option AV :=
 bnd (ibin .or t30_2 (.int .u8 32)) fun t31_3 =>
 bnd (ibin .lss t31_3 (.int .u8 97)) fun t33_4 =>
 bnd (gdv t33_4 false (.tuple []) (some t31_3)) fun t35_5 =>
 bnd (gdv t33_4 false (.tuple []) (ibin .gtr t35_5 (.int .u8 122))) fun t36_6 =>
 bnd (apick t33_4 (.bool true) t36_6) fun t37_7 =>
 bnd (gdv t37_7 true (.tuple []) (some t30_2)) fun t41_10 =>
 bnd (gdv t37_7 true (.tuple []) (ibin .lss t41_10 (.int .u8 48))) fun t42_11 =>
 bnd (gdv t37_7 true (.tuple []) (some t42_11)) fun t43_12 =>
 bnd (gdv t43_12 false (.tuple []) (some t30_2)) fun t46_15 =>
 bnd (gdv t43_12 false (.tuple []) (ibin .gtr t46_15 (.int .u8 57))) fun t47_16 =>
 bnd (gdv t37_7 true (.tuple []) (apick t43_12 (.bool true) t47_16)) fun t48_17 =>
 bnd (apick t37_7 t48_17 (.bool false)) fun t49_18 =>
 bnd (gdv t49_18 true (.tuple []) (some t30_2)) fun t53_21 =>
 bnd (gdv t49_18 true (.tuple []) (ibin .neq t53_21 (.int .u8 95))) fun t54_22 =>
 bnd (apick t49_18 t54_22 (.bool false)) fun t55_23 =>
 bnd (gdv t55_23 true (.tuple []) (some t30_2)) fun t59_26 =>
 bnd (gdv t55_23 true (.tuple []) (ibin .neq t59_26 (.int .u8 46))) fun t60_27 =>
 bnd (apick t55_23 t60_27 (.bool false)) fun t61_28 =>
 some t61_28
theorem rfile_J3 {x0 x3 v : AV} (h : aindexStr x0 x3 = some v) (H0 H : Hp) : R18_FileName_J3 x0 x3 H0 H =
    bnd (rfileD v) fun t61_28=>cnd t61_28 (some ((.bool false),H)) (R18_FileName_J4 x0 x3 H0 H):=by
 rw [R18_FileName_J3_eq]
 simp only [h,bnd_some,gix h]
 simp only [rfileD,bnd_assoc,bnd_some]
theorem rfileD_all:((List.range 256).all fun n=>(boolOf (rfileD (.int .u8 (n:Int))) == some (!(letB (UInt8.ofNat n) || digB (UInt8.ofNat n)))))=true:=by kernel_rfl
theorem rfileD_ok (b:UInt8):rfileD (.int .u8 b.toNat)=some (.bool (!(letB b || digB b))):=by
 have h:=all_range rfileD_all (u8_lt b)
 simp only [beq_iff_eq,UInt8.ofNat_toNat] at h
 exact boolOf_some h
theorem rfile_loop (s : Txt) (hs : s.length ≤ 1048576) (H0 H : Hp) : ∀ (k i : Nat), s.length - i = k → i ≤ s.length →
    R18_FileName_L1 (.str s) (.int .i64 i) H0 H=some (.bool ((s.drop i).all fun c=>letB c || digB c),H):=by
 intro k
 induction k with
 | zero =>
  intro i hk hi
  rw [R18_FileName_L1_eq]
  have hlt:decide ((i:Int) < (s.length:Int))=false:=by simp;omega
  have hd:s.drop i=[]:=List.drop_eq_nil_iff.2 (by omega)
  simp only [go_sem,alenD,hlt,R18_FileName_J2_eq,hd,List.all_nil]
 | succ k ih =>
  intro i hk hi
  rw [R18_FileName_L1_eq]
  have hl:i < s.length:=by omega
  have hlt:decide ((i:Int) < (s.length:Int))=true:=by simp;omega
  have hw:IntKind.i64.wrap ((i:Int)+1)=((i+1:Nat):Int):=by rw [wrap64 (by omega) (by omega)];omega
  simp only [go_sem,alenD,hlt,rfile_J3 (aindexStr_of (List.getElem?_eq_getElem hl)),rfileD_ok]
  rw [List.drop_eq_getElem_cons hl,List.all_cons]
  cases hb:(letB s[i] || digB s[i]) with
  | false=>simp only [go_sem,Bool.not_false,Bool.false_and]
  | true =>
   simp only [go_sem,Bool.not_true,Bool.true_and,R18_FileName_J4_eq,hw]
   exact ih (i+1) (by omega) (by omega)
theorem rfile_flat (s:Txt) (hs:s.length≤1048576) (H:Hp):flatC C_R18_FileName [.str s] H=some (.bool (nameB s),H):=by
 refine flat1 (a':=.str s) rfl (H1:=[]) ?_ rfl
 rw [F_R18_FileName_eq]
 unfold F_R18_FileName
 cases s with
 | nil =>
  have:(([]:Txt) == [])=true:=rfl
  simp only [go_sem,sbin,strbin,this,nameB]
  rfl
 | cons b l =>
  have h0:(((b :: l):Txt) == [])=false:=rfl
  have hidx:aindexStr (.str (b :: l)) (.int .i64 0)=some (.int .u8 b.toNat):=by simp [aindexStr]
  simp only [go_sem,sbin,strbin,h0,alenD]
  by_cases h32:32 < (b :: l).length
  ·have c1:decide ((32:Int) < ((b :: l).length:Int))=true:=by simp at h32 ⊢;omega
   have:nameB (b :: l)=false:=by
    unfold nameB
    rw [show decide ((b :: l).length≤32)=false by simp at h32 ⊢;omega,Bool.and_false]
   simp only [go_sem,c1,this]
  ·have c1:decide ((32:Int) < ((b :: l).length:Int))=false:=by simp at h32 ⊢;omega
   have c2:decide ((b :: l).length≤32)=true:=by simp at h32 ⊢;omega
   have hl:=rfile_loop (b :: l) hs [] [] (b :: l).length 0 (by simp) (by omega)
   rw [show ((0:Nat):Int)=0 from rfl,List.drop_zero,List.all_cons] at hl
   have hn:nameB (b :: l)=(!digB b && ((letB b || digB b) && l.all fun c=>letB c || digB c)):=by
    unfold nameB
    rw [c2,Bool.and_true]
    have hx:letB b=(!digB b && (letB b || digB b)):=by
     have hall:((List.range 256).all fun n=>letB (UInt8.ofNat n) == (!digB (UInt8.ofNat n) && (letB (UInt8.ofNat n) || digB (UInt8.ofNat n))))=true:=by kernel_rfl
     have h:=all_range hall (u8_lt b)
     simpa only [beq_iff_eq,UInt8.ofNat_toNat] using h
    rw [← Bool.and_assoc,← hx]
   have e1:decide ((48:Int)≤(b.toNat:Int))=decide (48≤b):=by rw [Bool.eq_iff_iff];simp [UInt8.le_iff_toNat_le];omega
   have e2:decide ((b.toNat:Int)≤(57:Int))=decide (b≤57):=by rw [Bool.eq_iff_iff];simp [UInt8.le_iff_toNat_le];omega
   have hd:digB b=(decide (48≤b) && decide (b≤57)):=rfl
   rw [hn,hd]
   simp only [go_sem,c1,hidx,R18_FileName_J1_eq,hl,e1]
   cases h48:decide (48≤b) with
   | false=>simp only [go_sem,Bool.false_and,Bool.not_false,Bool.true_and,hd,h48]
   | true =>
    cases h57:decide (b≤57) with
    | false=>simp only [go_sem,hidx,e2,h57,Bool.true_and,Bool.not_false,Bool.and_false,hd,h48]
    | true=>simp only [go_sem,hidx,e2,h57,Bool.true_and,Bool.not_true,Bool.false_and]
theorem rtmp_loop (n : Txt) (hd : Txt) (hs : n.length ≤ 1048576) (hl : hd.length < n.length) (H0 H : Hp) : ∀ (k i : Nat), n.length - i = k → i ≤ n.length →
    R19_temporary_L1 (.str n) (.str hd) (.int .i64 i) H0 H=some (.bool ((n.drop i).all digB && !(n[hd.length] == 48)),H):=by
 intro k
 induction k with
 | zero =>
  intro i hk hi
  rw [R19_temporary_L1_eq]
  have hlt:decide ((i:Int) < (n.length:Int))=false:=by simp;omega
  have he:n.drop i=[]:=List.drop_eq_nil_iff.2 (by omega)
  have hix:=aindexStr_of (List.getElem?_eq_getElem hl)
  have hb:((n[hd.length].toNat:Int) != 48)=!(n[hd.length] == 48):=by
   by_cases h:n[hd.length]=48
   ·rw [h];rfl
   ·have h2:n[hd.length].toNat ≠ 48:=fun e=>h (UInt8.toNat_inj.1 e)
    have h3:(n[hd.length] == 48)=false:=by simpa using h
    rw [h3]
    simp
    omega
  simp only [go_sem,alenD,hlt,R19_temporary_J2_eq,he,List.all_nil,Bool.true_and,hix,hb]
 | succ k ih =>
  intro i hk hi
  rw [R19_temporary_L1_eq]
  have hl2:i < n.length:=by omega
  have hlt:decide ((i:Int) < (n.length:Int))=true:=by simp;omega
  have hw:IntKind.i64.wrap ((i:Int)+1)=((i+1:Nat):Int):=by rw [wrap64 (by omega) (by omega)];omega
  have hix:=aindexStr_of (List.getElem?_eq_getElem hl2)
  rw [List.drop_eq_getElem_cons hl2,List.all_cons,digB_int n[i]]
  simp only [go_sem,alenD,hlt,R19_temporary_J3_eq,hix]
  cases h1:decide ((n[i].toNat:Int) < 48) with
  | true=>simp only [go_sem,Bool.not_true,Bool.false_and]
  | false =>
   cases h2:decide ((57:Int) < (n[i].toNat:Int)) with
   | true=>simp only [go_sem,hix,h2,Bool.not_true,Bool.not_false,Bool.false_and,Bool.and_false]
   | false =>
    simp only [go_sem,hix,h2,Bool.not_false,Bool.and_true,Bool.true_and,R19_temporary_J4_eq,hw]
    exact ih (i+1) (by omega) (by omega)
theorem rtmp_flat (n ow:Txt) (hn:n.length≤1048576) (ho:ow.length≤1048000) (H:Hp):flatC C_R19_temporary [.str n,.str ow] H=some (.bool (tmpB ow n),H):=by
 refine flat2 (a':=.str n) rfl (b':=.str ow) rfl (H1:=[]) ?_ rfl
 have a1:sbin .add (.str [46,116,109,112,46]) (.str ow)=some (.str ([46,116,109,112,46]++ow)):=sbin_add (by simp;omega)
 have a2:sbin .add (.str ([46,116,109,112,46]++ow)) (.str [46])=some (.str (ownS ow)):=by rw [sbin_add (by simp;omega)];rfl
 have hol:(ownS ow).length=ow.length+6:=by simp [ownS]
 rw [F_R19_temporary_eq]
 unfold F_R19_temporary
 have hle:decide ((n.length:Int)≤((ownS ow).length:Int))=!decide ((ownS ow).length < n.length):=by
  rw [Bool.eq_iff_iff];simp
 unfold tmpB
 simp only [a1,a2,go_sem,alenD,hle]
 by_cases h1:(ownS ow).length < n.length
 ·have sl1 : asliceS (.str n) none (some (.int .i64 ((ownS ow).length : Int))) none = some (.str (n.take (ownS ow).length)) := by
     rw [asliceS_hi .i64 (by omega) (by omega),Int.toNat_natCast]
  have hse:sbin .neq (.str (n.take (ownS ow).length)) (.str (ownS ow))=some (.bool (!(n.take (ownS ow).length == ownS ow))):=rfl
  simp only [decide_eq_true h1,Bool.not_true,go_sem,sl1,hse,Bool.true_and]
  cases h2:(n.take (ownS ow).length == ownS ow) with
  | false=>simp only [go_sem,Bool.not_false,Bool.false_and]
  | true =>
   have hL:=rtmp_loop n (ownS ow) hn h1 [] [] _ (ownS ow).length rfl (by omega)
   simp only [go_sem,Bool.not_true,Bool.true_and,R19_temporary_J1_eq,alenD,hL]
   have hd:numB (n.drop (ownS ow).length)=((n.drop (ownS ow).length).all digB && !(n[(ownS ow).length] == 48)):=by
    unfold numB
    rw [List.drop_eq_getElem_cons h1]
    rfl
   rw [hd]
 ·simp only [decide_eq_false h1,Bool.not_false,go_sem,Bool.false_and]
end Go.Am
namespace Go.Am
set_option linter.unusedSimpArgs false
set_option linter.unusedVariables false
set_option linter.unusedSectionVars false
set_option maxRecDepth 100000

theorem RefRes.trans {H H1 H2:Hp} {r:Nat} {s1 s2:Sto} {A B C:List Nat} (h:RefRes H H1 r s1 A B) (k:RefRes H1 H2 r s2 B C):RefRes H H2 r s2 A C:=by
 have:=h.stp.len
 refine ⟨k.at',h.stp.trans k.stp (fun _ h=>h) h.own,fun a ha=>?_⟩
 rcases k.own a ha with k | k
 ·exact h.own a k
 ·exact .inr (by omega)
theorem rCreate_run {H : Hp} {r : Nat} {s : Sto} {A : List Nat} (h : RefAt H r s A) (hk : ROk s) (n : Txt) (hn : n.length ≤ 1048576) :
    ∃ H' A',C_R18_Store_Create [.ptr r 0,.str n] H=some (.int .i64 (s.create n).1,H')∧RefRes H H' r (s.create n).2 A A':=by
 obtain ⟨x,h,rfl⟩:=h
 have hnil:∀ t,ebin (.pointer t) .eql (.ptr r 0) .nilp=some (.bool false):=fun _=>rfl
 obtain ⟨H1,q1,q2,q3⟩:=rfails_run h hk
 have hfl:=rfile_flat n hn H1
 have hpl:=rplace_run q2 hk.tick n
 have l1:=ldn q2.cells 1 (v:=x) rfl
 have hlen:=fun t=>q2.files.len t
 simp only [tick_files,listF_length hk.nd] at hpl hlen
 rw [F_R18_Store_Create_eq]
 unfold F_R18_Store_Create Sto.create
 cases hcr:s.tick.crashed with
 | true =>
  rw [hcr] at q1
  rw [if_pos rfl]
  exact ⟨H1,_,by simp only [hnil,go_sem,R18_Store_Create_J1_eq,q1],q2.res q3⟩
 | false =>
  rw [hcr] at q1
  rw [if_neg (by simp)]
  cases hb:nameB n with
  | false =>
   rw [hb] at hfl
   rw [if_pos rfl]
   exact ⟨H1,_,by simp only [hnil,go_sem,R18_Store_Create_J1_eq,q1,R18_Store_Create_J2_eq,hfl,Bool.not_false],q2.res q3⟩
  | true =>
   rw [hb] at hfl
   rw [if_neg (by simp)]
   rcases placeF_spec (listF s.files) n with ⟨p1,p2⟩ | ⟨i,f,p1,p2,_⟩
   ·rw [listF_get hk.nd] at p2
    have hp:placeI (listF s.files) n=-1:=by unfold placeI;rw [p1]
    rw [hp] at hpl
    rw [p2]
    dsimp only
    have c0:decide ((0:Int)≤-1)=false:=rfl
    by_cases h64:64≤s.files.length
    ·have c1:decide ((64:Int)≤(s.files.length:Int))=true:=by simp;omega
     rw [if_pos h64]
     exact ⟨H1,_,by simp only [hnil,go_sem,R18_Store_Create_J1_eq,q1,R18_Store_Create_J2_eq,hfl,Bool.not_true,R18_Store_Create_J3_eq,hpl,c0,R18_Store_Create_J4_eq,Nat.zero_add,l1,hlen,c1],q2.res q3⟩
    ·have c1:decide ((64:Int)≤(s.files.length:Int))=false:=by simp;omega
     rw [if_neg h64]
     obtain ⟨y,H2,k1,k2⟩:=rput_run q2 hk.tick ⟨n,[],0⟩
     rw [tick_files,← listF_app hk.nd ⟨n,[],0⟩ p2] at k2
     have hfill:(afill [(0,1,.str n)] [(.str []),(.str []),(.int .i64 0)]).map AV.agg=some (.agg (filC ⟨n,[],0⟩)):=rfl
     refine ⟨H2,_,by simp only [hnil,go_sem,R18_Store_Create_J1_eq,q1,R18_Store_Create_J2_eq,hfl,Bool.not_true,R18_Store_Create_J3_eq,hpl,c0,R18_Store_Create_J4_eq,Nat.zero_add,l1,hlen,c1,R18_Store_Create_J5_eq,hfill,k1],PutR.res (s':={ s.tick with files:=s.files++[⟨n,[],0⟩] }) ⟨k2.cells,k2.files,k2.nr,k2.stp,k2.new⟩ q3⟩
   ·rw [listF_get hk.nd] at p2
    have hp:placeI (listF s.files) n=(i:Int):=by unfold placeI;rw [p1]
    rw [hp] at hpl
    rw [p2]
    have c0:decide ((0:Int)≤(i:Int))=true:=by simp
    exact ⟨H1,_,by simp only [hnil,go_sem,R18_Store_Create_J1_eq,q1,R18_Store_Create_J2_eq,hfl,Bool.not_true,R18_Store_Create_J3_eq,hpl,c0],q2.res q3⟩
theorem rRemove_run {H : Hp} {r : Nat} {s : Sto} {A : List Nat} (h : RefAt H r s A) (hk : ROk s) (n : Txt) :
    ∃ H' A',C_R18_Store_Remove [.ptr r 0,.str n] H=some (.int .i64 (s.remove n).1,H')∧RefRes H H' r (s.remove n).2 A A':=by
 obtain ⟨x,h,rfl⟩:=h
 obtain ⟨v,e,H1,q1,q2,q3,q4⟩:=rbegin_run h hk n
 rw [F_R18_Store_Remove_eq]
 unfold F_R18_Store_Remove Sto.remove
 rcases q4 with ⟨c1,rfl⟩ | ⟨c1,c2,rfl⟩ | ⟨c1,rfl,i,f,rfl,c3,c4,c5,c6,c7⟩
 ·have e1:((19:Int) != 0)=true:=rfl
  rw [if_pos c1]
  exact ⟨H1,_,by simp only [q1,go_sem,List.getElem?_cons_zero,List.getElem?_cons_succ,e1],q2.res q3⟩
 ·have e1:((5:Int) != 0)=true:=rfl
  rw [if_neg (by simp [c1]),c2]
  exact ⟨H1,_,by simp only [q1,go_sem,List.getElem?_cons_zero,List.getElem?_cons_succ,e1],q2.res q3⟩
 ·have e1:((0:Int) != 0)=false:=rfl
  rw [if_neg (by simp [c1]),c4]
  obtain ⟨y,H2,k1,k2⟩:=rdrop_run q2 hk.tick i
  rw [tick_files,← c6,← listF_rm hk.nd] at k2
  exact ⟨H2,_,by simp only [q1,go_sem,List.getElem?_cons_zero,List.getElem?_cons_succ,e1,R18_Store_Remove_J1_eq,k1],PutR.res (s':={ s.tick with files:=rmF s.files n }) ⟨k2.cells,k2.files,k2.nr,k2.stp,k2.new⟩ q3⟩
theorem rlist_loop {H0 : Hp} {r : Nat} {x : AV} {s : Sto} {L : List Fil} (h : H0[r]? = some (.cells (rfC x s))) (hf : FsAt H0 x L) (h64 : L.length ≤ 64) (HB : Hp) : ∀ (q d : List Fil) (y : AV) (H : Hp), L = d ++ q →
    RowN H0.length H 3 y (d.map filAV)→Keep H0.length H0 H→H0.length≤H.length →
    ∃ y' H',R18_Store_List_L1 (.ptr r 0) y (.int .i64 (d.length:Int)) HB H=some (y',H')∧RowN H0.length H' 3 y' (L.map filAV)∧Keep H0.length H0 H'∧H0.length≤H'.length:=by
 have hr:=lt_of_get h
 intro q
 induction q with
 | nil =>
  intro d y H hd hy hK hl
  rw [List.append_nil] at hd
  subst hd
  have l1:=ldn (hK.row hr h) 1 (v:=x) rfl
  have hf1:FsAt H x L:=hf.frame fun a ha=>hK a (hf.lt a ha)
  have hlt:decide ((L.length:Int) < (L.length:Int))=false:=by simp
  rw [R18_Store_List_L1_eq]
  exact ⟨y,H,by simp only [go_sem,Nat.zero_add,l1,hf1.len,hlt,R18_Store_List_J2_eq],hy,hK,hl⟩
 | cons g q ih =>
  intro d y H hd hy hK hl
  have l1:=ldn (hK.row hr h) 1 (v:=x) rfl
  have hf1:FsAt H x L:=hf.frame fun a ha=>hK a (hf.lt a ha)
  have hlen:L.length=d.length+(q.length+1):=by rw [hd];simp
  have hlt:decide ((d.length:Int) < (L.length:Int))=true:=by simp;omega
  have hw1:IntKind.i64.wrap ((d.length:Int)+1)=((d.length+1:Nat):Int):=by rw [wrap64 (by omega) (by omega)];omega
  have hi:L[d.length]?=some g:=by rw [hd,List.getElem?_append_right (Nat.le_refl _)];simp
  obtain ⟨o,e,hx,_,ix,i0,i1,i2,_⟩:=hf1.idx hi
  have hfill:(afill [(0,1,.str g.name),(1,1,.int .i64 (g.text.length:Int)),(2,1,.int .i64 (g.syn:Int))] [(.str []),(.int .i64 0),(.int .i64 0)]).map AV.agg=some (filAV g):=rfl
  have hone:(setElems 3 [(0,filAV g)] [(.agg [(.str []),(.int .i64 0),(.int .i64 0)])]).map (AV.vs 3 .clip)=some (.vs 3 .clip [filAV g]):=rfl
  obtain ⟨x',H1,q1,q2,q3,q4,_⟩:=hy.app hl 32 (.vs 3 .clip [filAV g]) [filAV g] rfl (by simp;omega)
  obtain ⟨y',H',p1,p2,p3,p4⟩:=ih (d++[g]) x' H1 (by rw [hd];simp) (by rw [List.map_append];exact q2) (hK.trans q4) q3
  rw [List.length_append,List.length_singleton] at p1
  refine ⟨y',H',?_,p2,p3,p4⟩
  have al:alenD .string (.str g.text)=some (.int .i64 (g.text.length:Int)):=rfl
  rw [R18_Store_List_L1_eq]
  simp only [go_sem,Nat.zero_add,Nat.add_zero,l1,hf1.len,hlt,R18_Store_List_J3_eq,ix,i0,i1,i2,al,hfill,hone,q1,R18_Store_List_J4_eq,hw1]
  exact p1
theorem rList_ro {H:Hp} {r:Nat} {s:Sto} {A:List Nat} (h:RefAt H r s A) (hk:ROk s):∃ x,roC C_R18_Store_List [.ptr r 0] H=some (x,H)∧Sl 3 x ((listF s.files).map filAV):=by
 obtain ⟨x,h,rfl⟩:=h
 have hnil:∀ t,ebin (.pointer t) .eql (.ptr r 0) .nilp=some (.bool false):=fun _=>rfl
 obtain ⟨y,H1,p1,p2,p3,p4⟩:=rlist_loop h.cells h.files hk.len H (listF s.files) [] .nils H rfl (.inl ⟨rfl,rfl⟩) (Keep.refl _ _) (Nat.le_refl _)
 have hrun:C_R18_Store_List [.ptr r 0] H=some (y,H1):=by
  rw [F_R18_Store_List_eq]
  unfold F_R18_Store_List
  simp only [hnil,go_sem,R18_Store_List_J1_eq]
  exact p1
 rcases p2 with ⟨rfl,hn⟩ | ⟨t,e,rfl,ht,hnt⟩
 ·exact ⟨.nils,roC_of hrun p3 p4 rfl,.inl ⟨rfl,hn⟩⟩
 ·refine ⟨.vs 3 (if t < H.length then .own t e else .no) ((listF s.files).map filAV),roC_of hrun p3 p4 (by rw [closeV_vs',mapM_fil]),.inr ⟨_,rfl⟩⟩
theorem rNew_run (n:Int) (H:Hp):∃ H',C_R18_New [.int .i64 n] H=some (.ptr H.length 0,H')∧RefAt H' H.length ⟨(min (max n 0) 262144).toNat,0,[],false,0⟩ [H.length]∧H'=H++[.cells [.int .i64 (min (max n 0) 262144),.nils,.int .i64 0,.bool false,.int .i64 0]]:=by
 have hf:(afill [(0,1,.int .i64 (min (max n 0) 262144))] [(.int .i64 0),.nils,(.int .i64 0),(.bool false),(.int .i64 0)]).map AV.agg=some (.agg [.int .i64 (min (max n 0) 262144),.nils,.int .i64 0,.bool false,.int .i64 0]):=rfl
 have hbx:abox (.agg [.int .i64 (min (max n 0) 262144),.nils,.int .i64 0,.bool false,.int .i64 0]) H=some (.ptr H.length 0,H++[.cells [.int .i64 (min (max n 0) 262144),.nils,.int .i64 0,.bool false,.int .i64 0]]):=abox_of rfl
 have hn:((min (max n 0) 262144).toNat:Int)=min (max n 0) 262144:=by omega
 refine ⟨_,?_,⟨.nils,⟨by simp [rfC,hn],.inl ⟨rfl,rfl⟩,by simp [rowA]⟩,rfl⟩,rfl⟩
 rw [F_R18_New_eq]
 unfold F_R18_New
 simp only [go_sem,hf,hbx]
theorem rleft_loop {H0 : Hp} {ow : Txt} (ho : ow.length ≤ 1048000) {x : AV} {fs : List Fil} (hx : Sl 3 x (fs.map filAV)) (hl : fs.length ≤ 64) (hn : ∀ f ∈ fs, f.name.length ≤ 1048576) (HB : Hp) : ∀ (r d : List Fil) (x5 : AV) (H : Hp), fs = d ++ r →
    RowN H0.length H 1 x5 ((leftF ow d).map AV.str)→Keep H0.length H0 H→H0.length≤H.length →
    ∃ y H',R19_Left_L1 (.str ow) x5 x (.int .i64 (d.length:Int)) HB H=some (y,H')∧RowN H0.length H' 1 y ((leftF ow fs).map AV.str)∧Keep H0.length H0 H'∧H0.length≤H'.length:=by
 intro r
 induction r with
 | nil =>
  intro d x5 H hd h5 hK hlen
  rw [List.append_nil] at hd
  subst hd
  have hlt:decide ((fs.length:Int) < (fs.length:Int))=false:=by simp
  have hxl:∀ t,alenD (.slice t) x=some (.int .i64 (fs.length:Int)):=fun t=>by have:=Sl.len hx t;rwa [List.length_map] at this
  rw [R19_Left_L1_eq]
  simp only [go_sem,hxl,hlt,R19_Left_J2_eq]
  exact ⟨_,_,rfl,h5,hK,hlen⟩
 | cons f r ih =>
  intro d x5 H hd h5 hK hlen
  have hlen2:fs.length=d.length+(r.length+1):=by rw [hd];simp
  have hlt:decide ((d.length:Int) < (fs.length:Int))=true:=by simp;omega
  have hxl:∀ t,alenD (.slice t) x=some (.int .i64 (fs.length:Int)):=fun t=>by have:=Sl.len hx t;rwa [List.length_map] at this
  have hw1:IntKind.i64.wrap ((d.length:Int)+1)=((d.length+1:Nat):Int):=by rw [wrap64 (by omega) (by omega)];omega
  have hif:fs[d.length]?=some f:=by rw [hd,List.getElem?_append_right (Nat.le_refl _)];simp
  have hfn:=hn f (List.mem_of_getElem? hif)
  have hidx:aindexS 3 x (.int .i64 (d.length:Int))=some (.vp (filAV f).cells):=Sl.idx hx (c:=filAV f) (by simp [hif])
  have haf:afield 0 (.vp (filAV f).cells)=some (.vp (filAV f).cells):=rfl
  have hld:∀ H:Hp,aload false 1 (.vp (filAV f).cells) H=some (.str f.name):=fun _=>rfl
  have hone:(setElems 1 [(0,.str f.name)] [(.str [])]).map (AV.vs 1 .clip)=some (.vs 1 .clip [.str f.name]):=one_str _
  have hdl:(leftF ow d).length≤d.length:=leftF_len _ _
  have htm:=rtmp_flat f.name ow hfn ho H
  have hlf:leftF ow (d++[f])=leftF ow d++(if tmpB ow f.name then [f.name] else []):=by
   rw [leftF_app]
   congr 1
   unfold leftF
   cases hb:tmpB ow f.name <;> simp [hb]
  rw [R19_Left_L1_eq]
  cases hb:tmpB ow f.name with
  | false =>
   rw [hb] at htm
   rw [hb,if_neg (by simp),List.append_nil] at hlf
   obtain ⟨y1,H1',p1,p2,p3,p4⟩:=ih (d++[f]) x5 H (by rw [hd];simp) (by rw [hlf];exact h5) hK hlen
   rw [List.length_append,List.length_singleton] at p1
   refine ⟨y1,H1',?_,p2,p3,p4⟩
   simp only [go_sem,hxl,hlt,R19_Left_J3_eq,hidx,haf,hld,htm,R19_Left_J4_eq,hw1]
   exact p1
  | true =>
   rw [hb] at htm
   rw [hb,if_pos rfl] at hlf
   obtain ⟨x',H1,q1,q2,q3,q4,_⟩:=h5.app hlen 16 (.vs 1 .clip [.str f.name]) [.str f.name] rfl (by simp;omega)
   obtain ⟨y1,H1',p1,p2,p3,p4⟩:=ih (d++[f]) x' H1 (by rw [hd];simp) (by rw [hlf,List.map_append];exact q2) (hK.trans q4) q3
   rw [List.length_append,List.length_singleton] at p1
   refine ⟨y1,H1',?_,p2,p3,p4⟩
   simp only [go_sem,hxl,hlt,R19_Left_J3_eq,hidx,haf,hld,htm,hone,q1,R19_Left_J4_eq,hw1]
   exact p1
theorem rLeft_ro {H:Hp} {r:Nat} {s:Sto} {A:List Nat} (h:RefAt H r s A) (hk:ROk s) (ow:Txt) (ho:ow.length≤1048000):∃ x,roC C_R19_Left [.ptr r 0,.str ow] H=some (x,H)∧SS x (leftS ow s):=by
 have hv:=rowner_flat ow (by omega) H
 have hnil:∀ t,ebin (.pointer t) .eql (.ptr r 0) .nilp=some (.bool false):=fun _=>rfl
 cases hvs:validS ow with
 | false =>
  rw [hvs] at hv
  refine ⟨.nils,roC_of (H1:=H) (v:=.nils) ?_ (Keep.refl _ _) (Nat.le_refl _) rfl,.inl ⟨rfl,by unfold leftS;rw [hvs];rfl⟩⟩
  rw [F_R19_Left_eq]
  unfold F_R19_Left
  simp only [hnil,go_sem,hv,Bool.not_false]
 | true =>
  rw [hvs] at hv
  obtain ⟨x,q1,q2⟩:=rList_ro h hk
  obtain ⟨y,H1,p1,p2,p3,p4⟩:=rleft_loop ho q2 hk.len (fun f hf=>Nat.le_trans (name_len (hk.sto.name f (listF_mem hf))) (by omega)) H (listF s.files) [] .nils H rfl (.inl ⟨rfl,rfl⟩) (Keep.refl _ _) (Nat.le_refl _)
  have hrun:C_R19_Left [.ptr r 0,.str ow] H=some (y,H1):=by
   rw [F_R19_Left_eq]
   unfold F_R19_Left
   simp only [hnil,go_sem,hv,Bool.not_true,R19_Left_J1_eq,q1]
   exact p1
  have hls:leftS ow s=leftF ow (listF s.files):=by unfold leftS;rw [hvs];rfl
  rw [hls]
  rcases p2 with ⟨rfl,hn⟩ | ⟨t',e,rfl,ht,hnt⟩
  ·exact ⟨.nils,roC_of hrun p3 p4 rfl,.inl ⟨rfl,hn⟩⟩
  ·refine ⟨.vs 1 (if t' < H.length then .own t' e else .no) ((leftF ow (listF s.files)).map AV.str),roC_of hrun p3 p4 (by rw [closeV_vs',mapM_id (fun x hx=>by obtain ⟨n,_,rfl⟩:=List.mem_map.1 hx;rfl)]),.inr ⟨_,rfl⟩⟩
end Go.Am
namespace Go.Am
set_option linter.unusedSimpArgs false
set_option linter.unusedVariables false
set_option linter.unusedSectionVars false
set_option maxRecDepth 100000

theorem remove_rok {s:Sto} (h:ROk s) (n:Txt):ROk (s.remove n).2:=by
  have ht:=h.tick
  unfold Sto.remove
  split
  · exact ht
  · split
    · exact ht
    · have:=rm_ok ht.sto n
      rw [tick_files] at this
      exact ⟨this,ht.cnt⟩
theorem create_rok {s:Sto} (h:ROk s) (n:Txt):ROk (s.create n).2:=by
  have ht:=h.tick
  unfold Sto.create
  split
  · exact ht
  · split
    · exact ht
    · rename_i hb
      split
      · exact ht
      · rename_i hg
        split
        · exact ht
        · rename_i h64
          have hk:=h.sto
          have hkt:=ht.sto
          refine ⟨⟨hkt.limit,?_,hkt.peak,fun f hf=>?_,?_,fun f hf=>?_,?_,hkt.count⟩,ht.cnt⟩
          · have hu:=hkt.used
            rw [tick_files] at hu
            show usedL (s.files++[(⟨n,[],0⟩:Fil)])≤s.tick.limit
            rw [usedL_app]
            simpa [usedL] using hu
          · rcases List.mem_append.1 hf with hf | hf
            · exact hk.name f hf
            · rw [List.mem_singleton.1 hf];simpa using hb
          · show ((s.files++[(⟨n,[],0⟩:Fil)]).map Fil.name).Nodup
            rw [List.map_append,List.nodup_append]
            refine ⟨hk.nd,by simp,fun a ha b hb e=>?_⟩
            simp at hb
            obtain ⟨g,hg2,hn⟩:=List.mem_map.1 ha
            exact getF_none.1 hg g hg2 (by rw [hn,e,hb])
          · rcases List.mem_append.1 hf with hf | hf
            · exact hk.syn f hf
            · rw [List.mem_singleton.1 hf];exact Nat.le_refl _
          · show (s.files++[(⟨n,[],0⟩:Fil)]).length≤64
            simp
            omega
def openRm:List Txt→Sto→Int × Sto
  | [],s=>(0,s)
  | n :: r,s=>if (s.remove n).1 ≠ 0 then s.remove n else openRm r (s.remove n).2
theorem openRm_rok:∀ (l:List Txt) (s:Sto),ROk s→ROk (openRm l s).2:=by
  intro l
  induction l with
  | nil=>intro s h;exact h
  | cons n l ih =>
    intro s h
    rw [openRm]
    split
    · exact remove_rok h n
    · exact ih _ (remove_rok h n)
theorem leftS_len (ow:Txt) {s:Sto} (h:StoOk s):(leftS ow s).length≤64:=by
  unfold leftS
  split
  · exact Nat.le_trans (leftF_len _ _) (Nat.le_trans (listF_len _) h.len)
  · simp
theorem topen_loop {t : Nat} {x : AV} {ns : List Txt} (hx : SS x ns) (hl : ns.length ≤ 64) (ow lim : AV) (HB : Hp) : ∀ (r d : List Txt) (H : Hp) (S : List Nat) (s : Sto), ns = d ++ r → StoreAt H t s S → ROk s →
    ∃ H' S',tempfile_Open_L1 (.ptr t 0) ow lim x (.int .i64 (ns.length:Int)) (.int .i64 (d.length:Int)) HB H=(if (openRm r s).1 ≠ 0 then some (.tuple [.nilp,.int .i64 (openRm r s).1],H') else tempfile_Open_J3 (.ptr t 0) ow lim HB H')∧StoRes H H' t (openRm r s).2 S S':=by
  intro r
  induction r with
  | nil =>
    intro d H S s hd h hk
    rw [List.append_nil] at hd
    subst hd
    have hlt:decide ((ns.length:Int) < (ns.length:Int))=false:=by simp
    refine ⟨H,S,?_,⟨h,Stp.refl _ _,fun a ha=>.inl ha⟩⟩
    rw [tempfile_Open_L1_eq,openRm,if_neg (by simp)]
    simp only [go_sem,hlt]
  | cons n r ih =>
    intro d H S s hd h hk
    have hlen:ns.length=d.length+(r.length+1):=by rw [hd];simp
    have hlt:decide ((d.length:Int) < (ns.length:Int))=true:=by simp;omega
    have hw1:IntKind.i64.wrap ((d.length:Int)+1)=((d.length+1:Nat):Int):=by rw [wrap64 (by omega) (by omega)];omega
    have hin:ns[d.length]?=some n:=by rw [hd,List.getElem?_append_right (Nat.le_refl _)];simp
    have hidx:=SS.idx hx hin
    obtain ⟨H1,S1,q1,q2⟩:=Remove_run h hk.sto n
    rw [tempfile_Open_L1_eq]
    by_cases he:(s.remove n).1=0
    · have e0:((s.remove n).1 != 0)=false:=by rw [he];rfl
      have hor:openRm (n :: r) s=openRm r (s.remove n).2:=by rw [openRm,if_neg (by simp [he])]
      obtain ⟨H2,S2,r1,r2⟩:=ih (d++[n]) H1 S1 _ (by rw [hd];simp) q2.at' (remove_rok hk n)
      rw [List.length_append,List.length_singleton] at r1
      rw [hor]
      refine ⟨H2,S2,?_,q2.trans r2⟩
      simp only [go_sem,hlt,tempfile_Open_J4_eq,hidx,aload_vpc,q1,e0,tempfile_Open_J5_eq,hw1]
      exact r1
    · have e0:((s.remove n).1 != 0)=true:=by simpa using he
      have hor:openRm (n :: r) s=s.remove n:=by rw [openRm,if_pos he]
      rw [hor]
      refine ⟨H1,S1,?_,q2⟩
      rw [if_pos he]
      simp only [go_sem,hlt,tempfile_Open_J4_eq,hidx,aload_vpc,q1,e0]
theorem topen_J3 {H : Hp} {t : Nat} {s : Sto} {S : List Nat} (h : StoreAt H t s S) (ow : Txt) (lim : Int) (HB : Hp) :
    ∃ H',tempfile_Open_J3 (.ptr t 0) (.str ow) (.int .i64 lim) HB H=some (.tuple [.ptr (H.length+1) 0,.int .i64 0],H')∧SysAt H' (H.length+1) t ⟨ow,[],[],(max 0 lim).toNat,0,false⟩ s ([H.length+1,H.length]++S)∧Stp [] H H':=by
  have hf1:(afill [(0,1,.ptr t 0),(1,1,.str ow),(3,1,.map H.length)] [.nilp,(.str []),.nils,.nilm]).map AV.agg=some (.agg [.ptr t 0,.str ow,.nils,.map H.length]):=rfl
  have hf2:(afill [(0,4,.agg [.ptr t 0,.str ow,.nils,.map H.length]),(4,1,.int .i64 (max 0 lim))] [.nilp,(.str []),.nils,.nilm,(.int .i64 0),(.int .i64 0),(.bool false)]).map AV.agg=some (.agg [.ptr t 0,.str ow,.nils,.map H.length,.int .i64 (max 0 lim),.int .i64 0,.bool false]):=rfl
  have hb:∀ l:List AV,abox (.agg l) (H++[.map [] 0])=some (.ptr (H.length+1) 0,H++[.map [] 0]++[.cells l]):=fun l=>by rw [abox_of rfl];simp [AV.cells]
  have hl:((max 0 lim).toNat:Int)=max 0 lim:=by omega
  refine ⟨H++[.map [] 0]++[.cells [.ptr t 0,.str ow,.nils,.map H.length,.int .i64 (max 0 lim),.int .i64 0,.bool false]],?_,⟨[H.length+1,H.length],S,⟨H.length,0,.nils,[],⟨?_,.inl ⟨rfl,rfl⟩,?_,rfl,by simp [tokA]⟩,rfl⟩,h.frame fun a ha=>?_,fun a ha hs=>?_,rfl⟩,?_⟩
  · rw [tempfile_Open_J3_eq]
    simp only [go_sem,hf1,hf2,hb]
  · simp [hl]
  · simp
  · rw [List.append_assoc,List.getElem?_append_left (h.lt a ha)]
  · have:=h.lt a hs
    simp at ha
    omega
  · rw [List.append_assoc];exact Stp.push _ _
theorem TOpen_run {H : Hp} {t : Nat} {s : Sto} {S : List Nat} (h : StoreAt H t s S) (hk : ROk s) (ow : Txt) (ho : ow.length ≤ 1048576) (lim : Int) :
    ∃ p e H',C_tempfile_Open [.ptr t 0,.str ow,.int .i64 lim] H=some (.tuple [p,.int .i64 e],H') ∧
      (validS ow=false∧p=.nilp∧e=4∧H'=H ∨
       validS ow=true∧(openRm (leftS ow s) s).1 ≠ 0∧p=.nilp∧e=(openRm (leftS ow s) s).1∧(∃ S',StoRes H H' t (openRm (leftS ow s) s).2 S S') ∨
       validS ow=true∧(openRm (leftS ow s) s).1=0∧e=0∧∃ o A',p=.ptr o 0∧H.length≤o∧SysAt H' o t ⟨ow,[],[],(max 0 lim).toNat,0,false⟩ (openRm (leftS ow s) s).2 A'∧Stp S H H'∧∀ a ∈ A',a ∈ S ∨ H.length≤a):=by
  have hnil:∀ u,ebin (.pointer u) .eql (.ptr t 0) .nilp=some (.bool false):=fun _=>rfl
  have hv:=ownv_flat ow ho H
  rw [F_tempfile_Open_eq]
  unfold F_tempfile_Open
  cases hvs:validS ow with
  | false =>
    rw [hvs] at hv
    exact ⟨.nilp,4,H,by simp only [hnil,go_sem,tempfile_Open_J1_eq,hv,Bool.not_false],.inl ⟨rfl,rfl,rfl,rfl⟩⟩
  | true =>
    rw [hvs] at hv
    obtain ⟨x,l1,l2⟩:=Left_ro h hk.sto ow ho
    have hx:∀ u,alenD (.slice u) x=some (.int .i64 ((leftS ow s).length:Int)):=fun u=>l2.len u
    obtain ⟨H1,S1,q1,q2⟩:=topen_loop l2 (leftS_len ow hk.sto) (.str ow) (.int .i64 lim) H (leftS ow s) [] H S s rfl h hk
    simp only [List.length_nil] at q1
    by_cases he:(openRm (leftS ow s) s).1=0
    · rw [if_neg (by simp [he])] at q1
      obtain ⟨H2,k1,k2,k3⟩:=topen_J3 q2.at' ow lim H
      refine ⟨.ptr (H1.length+1) 0,0,H2,?_,.inr (.inr ⟨rfl,he,rfl,H1.length+1,_,rfl,?_,k2,q2.stp.trans k3 (fun _ h=>h) (fun a ha=>by cases ha),fun a ha=>?_⟩)⟩
      · simp only [hnil,go_sem,tempfile_Open_J1_eq,hv,Bool.not_true,tempfile_Open_J2_eq,l1,hx]
        exact q1.trans k1
      · have:=q2.stp.len;omega
      · have:=q2.stp.len
        rcases List.mem_append.1 ha with ha | ha
        · simp at ha
          exact .inr (by omega)
        · exact q2.own a ha
    · rw [if_pos he] at q1
      refine ⟨.nilp,_,H1,?_,.inr (.inl ⟨rfl,he,rfl,rfl,S1,q2⟩)⟩
      simp only [hnil,go_sem,tempfile_Open_J1_eq,hv,Bool.not_true,tempfile_Open_J2_eq,l1,hx]
      exact q1
theorem ropen_loop {t : Nat} {x : AV} {ns : List Txt} (hx : SS x ns) (hl : ns.length ≤ 64) (ow lim : AV) (HB : Hp) : ∀ (r d : List Txt) (H : Hp) (S : List Nat) (s : Sto), ns = d ++ r → RefAt H t s S → ROk s →
    ∃ H' S',R19_Open_L1 (.ptr t 0) ow lim x (.int .i64 (d.length:Int)) HB H=(if (openRm r s).1 ≠ 0 then some (.tuple [.nilp,.int .i64 (openRm r s).1],H') else R19_Open_J3 (.ptr t 0) ow lim HB H')∧RefRes H H' t (openRm r s).2 S S':=by
  intro r
  induction r with
  | nil =>
    intro d H S s hd h hk
    rw [List.append_nil] at hd
    subst hd
    have hlt:decide ((ns.length:Int) < (ns.length:Int))=false:=by simp
    refine ⟨H,S,?_,h.self⟩
    rw [R19_Open_L1_eq,openRm,if_neg (by simp)]
    have hx:∀ u,alenD (.slice u) x=some (.int .i64 (ns.length:Int)):=fun u=>hx.len u
    simp only [go_sem,hx,hlt]
  | cons n r ih =>
    intro d H S s hd h hk
    have hlen:ns.length=d.length+(r.length+1):=by rw [hd];simp
    have hlt:decide ((d.length:Int) < (ns.length:Int))=true:=by simp;omega
    have hw1:IntKind.i64.wrap ((d.length:Int)+1)=((d.length+1:Nat):Int):=by rw [wrap64 (by omega) (by omega)];omega
    have hin:ns[d.length]?=some n:=by rw [hd,List.getElem?_append_right (Nat.le_refl _)];simp
    have hidx:=SS.idx hx hin
    have hxl:∀ u,alenD (.slice u) x=some (.int .i64 (ns.length:Int)):=fun u=>hx.len u
    obtain ⟨H1,S1,q1,q2⟩:=rRemove_run h hk n
    rw [R19_Open_L1_eq]
    by_cases he:(s.remove n).1=0
    · have e0:((s.remove n).1 != 0)=false:=by rw [he];rfl
      have hor:openRm (n :: r) s=openRm r (s.remove n).2:=by rw [openRm,if_neg (by simp [he])]
      obtain ⟨H2,S2,r1,r2⟩:=ih (d++[n]) H1 S1 _ (by rw [hd];simp) q2.at' (remove_rok hk n)
      rw [List.length_append,List.length_singleton] at r1
      rw [hor]
      refine ⟨H2,S2,?_,q2.trans r2⟩
      simp only [go_sem,hxl,hlt,R19_Open_J5_eq,hidx,aload_vpc,q1,e0,R19_Open_J6_eq,hw1]
      exact r1
    · have e0:((s.remove n).1 != 0)=true:=by simpa using he
      have hor:openRm (n :: r) s=s.remove n:=by rw [openRm,if_pos he]
      rw [hor]
      refine ⟨H1,S1,?_,q2⟩
      rw [if_pos he]
      simp only [go_sem,hxl,hlt,R19_Open_J5_eq,hidx,aload_vpc,q1,e0]
theorem ropen_J3 {H : Hp} {t : Nat} (ow : Txt) (lim : Int) (HB : Hp) :
    R19_Open_J3 (.ptr t 0) (.str ow) (.int .i64 lim) HB H=some (.tuple [.ptr H.length 0,.int .i64 0],H++[.cells [.ptr t 0,.str ow,.int .i64 ((max 0 lim).toNat:Int),.int .i64 0,.nils,.nils,.bool false]]):=by
  have hf:∀ l:Int,(afill [(0,1,.ptr t 0),(1,1,.str ow),(2,1,.int .i64 l)] [.nilp,(.str []),(.int .i64 0),(.int .i64 0),.nils,.nils,(.bool false)]).map AV.agg=some (.agg [.ptr t 0,.str ow,.int .i64 l,.int .i64 0,.nils,.nils,.bool false]):=fun _=>rfl
  have hb:∀ l:List AV,abox (.agg l) H=some (.ptr H.length 0,H++[.cells l]):=fun l=>by rw [abox_of rfl];simp [AV.cells]
  rw [R19_Open_J3_eq]
  by_cases hn:lim < 0
  · have e:((max 0 lim).toNat:Int)=0:=by omega
    simp only [go_sem,decide_eq_true hn,R19_Open_J4_eq,hf,hb,e]
  · have e:((max 0 lim).toNat:Int)=lim:=by omega
    simp only [go_sem,decide_eq_false hn,R19_Open_J4_eq,hf,hb,e]
theorem ROpen19_run {H : Hp} {t : Nat} {s : Sto} {S : List Nat} (h : RefAt H t s S) (hk : ROk s) (ow : Txt) (ho : ow.length ≤ 1048000) (lim : Int) :
    ∃ p e H',C_R19_Open [.ptr t 0,.str ow,.int .i64 lim] H=some (.tuple [p,.int .i64 e],H') ∧
      (validS ow=false∧p=.nilp∧e=4∧H'=H ∨
       validS ow=true∧(openRm (leftS ow s) s).1 ≠ 0∧p=.nilp∧e=(openRm (leftS ow s) s).1∧(∃ S',RefRes H H' t (openRm (leftS ow s) s).2 S S') ∨
       validS ow=true∧(openRm (leftS ow s) s).1=0∧e=0∧∃ o S',p=.ptr o 0∧H.length≤o∧o ∉ S'∧H'[o]?=some (.cells [.ptr t 0,.str ow,.int .i64 ((max 0 lim).toNat:Int),.int .i64 0,.nils,.nils,.bool false])∧RefRes H H' t (openRm (leftS ow s) s).2 S S'):=by
  have hnil:∀ u,ebin (.pointer u) .eql (.ptr t 0) .nilp=some (.bool false):=fun _=>rfl
  have hv:=rowner_flat ow (by omega) H
  rw [F_R19_Open_eq]
  unfold F_R19_Open
  cases hvs:validS ow with
  | false =>
    rw [hvs] at hv
    exact ⟨.nilp,4,H,by simp only [hnil,go_sem,R19_Open_J1_eq,hv,Bool.not_false],.inl ⟨rfl,rfl,rfl,rfl⟩⟩
  | true =>
    rw [hvs] at hv
    obtain ⟨x,l1,l2⟩:=rLeft_ro h hk ow ho
    obtain ⟨H1,S1,q1,q2⟩:=ropen_loop l2 (leftS_len ow hk.sto) (.str ow) (.int .i64 lim) H (leftS ow s) [] H S s rfl h hk
    simp only [List.length_nil] at q1
    by_cases he:(openRm (leftS ow s) s).1=0
    · rw [if_neg (by simp [he]),ropen_J3] at q1
      refine ⟨.ptr H1.length 0,0,H1++[.cells [.ptr t 0,.str ow,.int .i64 ((max 0 lim).toNat:Int),.int .i64 0,.nils,.nils,.bool false]],?_,.inr (.inr ⟨rfl,he,rfl,H1.length,S1,rfl,q2.stp.len,fun ha=>?_,?_,?_⟩)⟩
      · simp only [hnil,go_sem,R19_Open_J1_eq,hv,Bool.not_true,R19_Open_J2_eq,l1]
        exact q1
      · have:=q2.at'.lt _ ha;omega
      · simp
      · exact ⟨q2.at'.frame fun a ha=>List.getElem?_append_left (q2.at'.lt a ha),q2.stp.trans (Stp.push (A:=[]) _ _) (fun _ h=>h) (fun a ha=>by cases ha),q2.own⟩
    · rw [if_pos he] at q1
      refine ⟨.nilp,_,H1,?_,.inr (.inl ⟨rfl,he,rfl,rfl,S1,q2⟩)⟩
      simp only [hnil,go_sem,R19_Open_J1_eq,hv,Bool.not_true,R19_Open_J2_eq,l1]
      exact q1
end Go.Am
namespace Go.Am
set_option linter.unusedSimpArgs false
set_option linter.unusedVariables false
set_option linter.unusedSectionVars false
set_option maxRecDepth 100000

theorem forget_sys {H H1 : Hp} {o t ms clk : Nat} {nx : AV} {sl : List (Txt × Nat)} {tm : Tmp} {s' : Sto} {S S1 : List Nat} (h1 : TmAt H o t ms clk nx sl tm) (h3 : ∀ a ∈ o :: ms :: tokA nx, a ∉ S) (hm : TmpOk tm) (r2 : StoRes H H1 t s' S S1) (n : Txt) (hne : tm.names ≠ []) :
    ∃ H2 A' sl2,forgetE.run [.ptr o 0,.str n] H1=some (.tuple [],H2)∧SysRes H H2 o t { tm with names:=keptL n tm.names,sld:=sl2 } s' ((o :: ms :: tokA nx)++S) A'∧∀ m,m ≠ n→(m ∈ sl2 ↔ m ∈ tm.sld):=by
 have hr1:=SysAt.store (o:=o) (tm:=tm) ⟨ms,clk,nx,sl,h1,rfl⟩ h3 r2
 have h1':TmAt H1 o t ms clk nx sl tm:=h1.frame fun a ha=>r2.stp.at' a (h1.lt a ha) (h3 a ha)
 obtain ⟨H2,nx2,sl2,q1,q2,q3,q4,q5⟩:=forget_run2 h1' hm n hne
 have hS1lt:=r2.at'.lt
 have hd1:∀ a ∈ o :: ms :: tokA nx,a ∉ S1:=fun a ha hs=>by
  rcases r2.own a hs with k1 | k1
  ·exact h3 a ha k1
  ·have:=h1.lt a ha;omega
 have hsto2:StoreAt H2 t s' S1:=r2.at'.stp q3 fun a ha hx=>hd1 a hx ha
 have hd2:∀ a ∈ o :: ms :: tokA nx2,a ∉ S1:=fun a ha hs=>by
  rcases List.mem_cons.1 ha with e | ha
  ·exact hd1 a (by simp [e]) hs
  rcases List.mem_cons.1 ha with e | ha
  ·exact hd1 a (by simp [e]) hs
  ·have:=q4 a ha
   have:=hS1lt a hs
   omega
 have hl0:H.length≤H1.length:=r2.stp.len
 refine ⟨H2,(o :: ms :: tokA nx2)++S1,sl2.map (·.1),q1,⟨⟨_,S1,⟨ms,clk,nx2,sl2,q2,rfl⟩,hsto2,hd2,rfl⟩,hr1.stp.trans q3 (fun _ h=>h) fun a ha=>.inl (List.mem_append_left _ ha),fun a ha=>?_⟩,q5⟩
 rcases List.mem_append.1 ha with k | k
 ·rcases List.mem_cons.1 k with e | k
  ·exact .inl (by simp [e])
  rcases List.mem_cons.1 k with e | k
  ·exact .inl (by simp [e])
  ·have:=q4 a k;exact .inr (by omega)
 ·rcases r2.own a k with k1 | k1
  ·exact .inl (List.mem_append_right _ k1)
  ·exact .inr k1
def rmErr (tm:Tmp) (s:Sto) (n:Txt):Int:=if tmFind tm n ≠ 0 then tmFind tm n else (s.remove n).1
def rmSto (tm:Tmp) (s:Sto) (n:Txt):Sto:=if tmFind tm n ≠ 0 then s else (s.remove n).2
theorem TRemove_run {H : Hp} {o t : Nat} {tm : Tmp} {s : Sto} {A : List Nat} (h : SysAt H o t tm s A) (hm : TmpOk tm) (hk : StoOk s) (n : Txt) :
    ∃ H' A' tm',C_tempfile_Temps_Remove [.ptr o 0,.str n] H=some (.int .i64 (rmErr tm s n),H')∧SysRes H H' o t tm' (rmSto tm s n) A A' ∧
     (rmErr tm s n ≠ 0∧tm'=tm ∨ rmErr tm s n=0∧n ∈ tm.names∧∃ sl,tm'={ tm with names:=keptL n tm.names,sld:=sl }∧∀ m,m ≠ n→(m ∈ sl ↔ m ∈ tm.sld)):=by
 unfold rmErr rmSto
 by_cases hf:tmFind tm n=0
 ·have hsys:=h
  obtain ⟨B,S,⟨ms,clk,nx,sl,h1,rfl⟩,h2,h3,rfl⟩:=h
  have hfr:=find_run h1 hm n
  have e0:(tmFind tm n != 0)=false:=by rw [hf];rfl
  have l0:=ldn h1.cells 0 (v:=.ptr t 0) rfl
  obtain ⟨H1,S1,r1,r2⟩:=Remove_run h2 hk n
  rw [if_neg (by simp [hf]),if_neg (by simp [hf])]
  have hn:n ∈ tm.names:=by
   unfold tmFind at hf
   split at hf
   ·cases hf
   ·split at hf
    ·assumption
    ·cases hf
  by_cases he:(s.remove n).1=0
  ·obtain ⟨H2,A',sl2,k1,k2,k3⟩:=forget_sys h1 h3 hm r2 n (fun e=>by rw [e] at hn;cases hn)
   have e1:((s.remove n).1 != 0)=false:=by rw [he];rfl
   refine ⟨H2,A',_,?_,k2,.inr ⟨he,hn,sl2,rfl,k3⟩⟩
   rw [he] at r1 e1 ⊢
   rw [F_tempfile_Temps_Remove_eq]
   unfold F_tempfile_Temps_Remove
   simp only [hfr,go_sem,e0,tempfile_Temps_Remove_J1_eq,Nat.zero_add,l0,r1,e1,tempfile_Temps_Remove_J2_eq,k1]
  ·have e1:((s.remove n).1 != 0)=true:=by simpa using he
   refine ⟨H1,_,tm,?_,SysAt.store (o:=o) (tm:=tm) ⟨ms,clk,nx,sl,h1,rfl⟩ h3 r2,.inl ⟨he,rfl⟩⟩
   rw [F_tempfile_Temps_Remove_eq]
   unfold F_tempfile_Temps_Remove
   simp only [hfr,go_sem,e0,tempfile_Temps_Remove_J1_eq,Nat.zero_add,l0,r1,e1]
 ·rw [if_pos hf,if_pos hf]
  exact ⟨H,A,tm,TRemove_err h hm hf,h.self,.inl ⟨hf,rfl⟩⟩
def closeRm:List Txt→Sto→Int × (List Txt × Sto)
 | [],s=>(0,([],s))
 | n :: r,s=>if (s.remove n).1 ≠ 0∧(s.remove n).1 ≠ 5 then ((s.remove n).1,(n :: r,(s.remove n).2)) else closeRm r (s.remove n).2
theorem closeRm_rok:∀ (l:List Txt) (s:Sto),ROk s→ROk (closeRm l s).2.2:=by
 intro l
 induction l with
 | nil=>intro s h;exact h
 | cons n l ih =>
  intro s h
  rw [closeRm]
  split
  ·exact remove_rok h n
  ·exact ih _ (remove_rok h n)
theorem closeRm_sub:∀ (l:List Txt) (s:Sto),∃ a,l=a++(closeRm l s).2.1:=by
 intro l
 induction l with
 | nil=>intro s;exact ⟨[],rfl⟩
 | cons n l ih =>
  intro s
  rw [closeRm]
  split
  ·exact ⟨[],rfl⟩
  ·obtain ⟨a,h⟩:=ih (s.remove n).2
   exact ⟨n :: a,by rw [List.cons_append,← h]⟩
theorem closeg_loop {o t : Nat} (H0 : Hp) : ∀ (k : Nat) (tm : Tmp) (s : Sto) (A : List Nat) (H : Hp), tm.names.length = k → SysAt H o t tm s A → TmpOk tm → ROk s → tm.names.Nodup → tm.closed = false →
    ∃ H' A' sl,tempfile_Temps_Close_L1 (.ptr o 0) H0 H=some (.int .i64 (closeRm tm.names s).1,H')∧SysRes H H' o t { tm with names:=(closeRm tm.names s).2.1,sld:=sl,closed:=decide ((closeRm tm.names s).1=0) } (closeRm tm.names s).2.2 A A'∧(∀ m ∈ (closeRm tm.names s).2.1,(m ∈ sl ↔ m ∈ tm.sld))∧∀ m ∈ sl,m ∈ tm.sld ∨ m ∈ tm.names:=by
 intro k
 induction k with
 | zero =>
  intro tm s A H hn h hm hk hnd hcl
  have hn0:tm.names=[]:=List.length_eq_zero_iff.1 hn
  obtain ⟨B,S,⟨ms,clk,nx,sl,h1,rfl⟩,h2,h3,rfl⟩:=h
  have l2:=ldn h1.cells 2 (v:=nx) rfl
  have hln:=fun u=>SS.len h1.names.ss u
  have hlt:decide ((0:Int) < (tm.names.length:Int))=false:=by rw [hn0];rfl
  have s6:=stn h1.cells 6 (v:=.bool true) rfl rfl (by simp)
  have g6:=get_set_eq (AObj.cells (List.set [.ptr t 0,.str tm.owner,nx,.map ms,.int .i64 (tm.limit:Int),.int .i64 (tm.last:Int),.bool tm.closed] 6 (.bool true))) h1.cells
  have hS:Stp [o] H (H.set o (.cells (List.set [.ptr t 0,.str tm.owner,nx,.map ms,.int .i64 (tm.limit:Int),.int .i64 (tm.last:Int),.bool tm.closed] 6 (.bool true)))):=Stp.set _ _ (by simp)
  generalize hH1:H.set o (.cells (List.set [.ptr t 0,.str tm.owner,nx,.map ms,.int .i64 (tm.limit:Int),.int .i64 (tm.last:Int),.bool tm.closed] 6 (.bool true)))=H1 at s6 g6 hS
  have hnd':=h1.nd
  have hon:∀ a ∈ ms :: tokA nx,a ∉ [o]:=fun a ha hx=>by
   rw [List.mem_singleton.1 hx] at ha
   exact (List.nodup_cons.1 hnd').1 ha
  have hlt1:=h1.lt
  have hoS:o ∉ S:=h3 o (by simp)
  have hnm:NmAt H1 nx (closeRm tm.names s).2.1:=by
   have:(closeRm tm.names s).2.1=tm.names:=by rw [hn0];rfl
   rw [this]
   exact h1.names.frame fun a ha=>hS.at' a (hlt1 a (by simp [ha])) (hon a (by simp [ha]))
  have hst:(closeRm tm.names s).2.2=s:=by rw [hn0];rfl
  have her:(closeRm tm.names s).1=0:=by rw [hn0];rfl
  refine ⟨H1,(o :: ms :: tokA nx)++S,tm.sld,?_,⟨⟨o :: ms :: tokA nx,S,⟨ms,clk,nx,sl,⟨?_,hnm,(hS.at' ms (hlt1 ms (by simp)) (hon ms (by simp))).trans h1.map,h1.sld,h1.nd⟩,rfl⟩,?_,h3,rfl⟩,hS.mono fun a ha=>by rw [List.mem_singleton.1 ha];simp,fun a ha=>.inl ha⟩,fun m _=>Iff.rfl,fun m h=>.inl h⟩
  ·rw [tempfile_Temps_Close_L1_eq]
   simp only [go_sem,Nat.zero_add,l2,hln,hlt,tempfile_Temps_Close_J3_eq,s6,her]
  ·rw [g6]
   simp [her]
  ·rw [hst]
   exact h2.stp hS (fun a ha hx=>hoS (by rw [List.mem_singleton.1 hx] at ha;exact ha))
 | succ k ih =>
  intro tm s A H hn h hm hk hnd hcl
  obtain ⟨n,ns,hnn⟩:∃ n ns,tm.names=n :: ns:=by
   cases hx:tm.names with
   | nil=>rw [hx] at hn;cases hn
   | cons n ns=>exact ⟨n,ns,rfl⟩
  have hsys:=h
  obtain ⟨B,S,⟨ms,clk,nx,sl,h1,rfl⟩,h2,h3,rfl⟩:=h
  have l2:=ldn h1.cells 2 (v:=nx) rfl
  have l0:=ldn h1.cells 0 (v:=.ptr t 0) rfl
  have hln:=fun u=>SS.len h1.names.ss u
  have hi0:aindexS 1 nx (.int .i64 0)=some (.vp [.str n]):=SS.idx h1.names.ss (i:=0) (s:=n) (by rw [hnn];rfl)
  have hlt:decide ((0:Int) < (tm.names.length:Int))=true:=by rw [hn];simp
  obtain ⟨H1,S1,r1,r2⟩:=Remove_run h2 hk.sto n
  rw [tempfile_Temps_Close_L1_eq]
  by_cases he:(s.remove n).1 ≠ 0∧(s.remove n).1 ≠ 5
  ·have hcr:closeRm tm.names s=((s.remove n).1,(n :: ns,(s.remove n).2)):=by rw [hnn,closeRm,if_pos he]
   have e0:((s.remove n).1 != 0)=true:=by simpa using he.1
   have e5:((s.remove n).1 != 5)=true:=by simpa using he.2
   rw [hcr]
   refine ⟨H1,(o :: ms :: tokA nx)++S1,tm.sld,by simp only [go_sem,Nat.zero_add,l2,hln,hlt,tempfile_Temps_Close_J4_eq,hi0,aload_vpc,l0,r1,e0,e5],?_,fun m _=>Iff.rfl,fun m h=>.inl h⟩
   have hr1:=SysAt.store (o:=o) (tm:=tm) ⟨ms,clk,nx,sl,h1,rfl⟩ h3 r2
   have:({ tm with names:=n :: ns,sld:=tm.sld,closed:=decide ((s.remove n).1=0) }:Tmp)=tm:=by
    cases tm
    simp only at hnn hcl
    simp [hnn,hcl,he.1]
   dsimp only
   rw [this]
   exact hr1
  ·have hcr:closeRm tm.names s=closeRm ns (s.remove n).2:=by rw [hnn,closeRm,if_neg he]
   obtain ⟨H2,A2,sl2,k1,k2,k3⟩:=forget_sys h1 h3 hm r2 n (by rw [hnn];simp)
   have hkn:keptL n tm.names=ns:=by rw [hnn] at hnd ⊢;exact keptL_head hnd
   rw [hkn] at k2
   have hlen:=hm.len
   have hnl:ns.length=k:=by rw [hnn] at hn;simpa using hn
   have hm2:TmpOk { tm with names:=ns,sld:=sl2 }:=⟨hm.owner,hm.limit,by show ns.length≤tm.last;omega,hm.last⟩
   have hnd2:ns.Nodup:=by rw [hnn] at hnd;exact (List.nodup_cons.1 hnd).2
   obtain ⟨H3,A3,sl3,m1,m2,m3,m4⟩:=ih { tm with names:=ns,sld:=sl2 } (s.remove n).2 A2 H2 hnl k2.at' hm2 (remove_rok hk n) hnd2 hcl
   have hS2:=k2.stp
   rw [hcr]
   refine ⟨H3,A3,sl3,?_,⟨m2.at',hS2.trans m2.stp (fun _ h=>h) k2.own,fun a ha=>?_⟩,fun m hmm=>?_,fun m hmm=>?_⟩
   ·rcases (show (s.remove n).1=0 ∨ ((s.remove n).1 ≠ 0∧(s.remove n).1=5) by omega) with e | ⟨e,e'⟩
    ·have e0:((s.remove n).1 != 0)=false:=by rw [e];rfl
     simp only [go_sem,Nat.zero_add,l2,hln,hlt,tempfile_Temps_Close_J4_eq,hi0,aload_vpc,l0,r1,e0,tempfile_Temps_Close_J5_eq,k1]
     exact m1
    ·have e0:((s.remove n).1 != 0)=true:=by simpa using e
     have e5:((s.remove n).1 != 5)=false:=by rw [e'];rfl
     simp only [go_sem,Nat.zero_add,l2,hln,hlt,tempfile_Temps_Close_J4_eq,hi0,aload_vpc,l0,r1,e0,e5,tempfile_Temps_Close_J5_eq,k1]
     exact m1
   ·rcases m2.own a ha with k | k
    ·exact k2.own a k
    ·have:=hS2.len;exact .inr (by omega)
   ·rw [m3 m hmm]
    refine k3 m fun e=>?_
    have hnm:=hmm
    rw [e] at hnm
    obtain ⟨a,ha⟩:=closeRm_sub ns (s.remove n).2
    have:n ∈ ns:=by rw [ha];exact List.mem_append_right _ hnm
    rw [hnn] at hnd
    exact (List.nodup_cons.1 hnd).1 this
   ·rw [hnn]
    rcases m4 m hmm with k | k
    ·by_cases e:m=n
     ·exact .inr (by simp [e])
     ·exact .inl ((k3 m e).1 k)
    ·exact .inr (List.mem_cons_of_mem _ k)
def clErr (tm:Tmp) (s:Sto):Int:=if tm.closed then 8 else (closeRm tm.names s).1
def clSto (tm:Tmp) (s:Sto):Sto:=if tm.closed then s else (closeRm tm.names s).2.2
theorem TClose_run {o t : Nat} {tm : Tmp} {s : Sto} {A : List Nat} {H : Hp} (h : SysAt H o t tm s A) (hm : TmpOk tm) (hk : ROk s) (hnd : tm.names.Nodup) :
    ∃ H' A' tm',C_tempfile_Temps_Close [.ptr o 0] H=some (.int .i64 (clErr tm s),H')∧SysRes H H' o t tm' (clSto tm s) A A' ∧
     (tm.closed=true∧tm'=tm ∨ tm.closed=false∧∃ sl,tm'={ tm with names:=(closeRm tm.names s).2.1,sld:=sl,closed:=decide ((closeRm tm.names s).1=0) }∧(∀ m ∈ (closeRm tm.names s).2.1,(m ∈ sl ↔ m ∈ tm.sld))∧∀ m ∈ sl,m ∈ tm.sld ∨ m ∈ tm.names):=by
 unfold clErr clSto
 cases hcl:tm.closed with
 | true=>exact ⟨H,A,tm,by rw [if_pos rfl];exact CloseC_run h hcl,by rw [if_pos rfl];exact h.self,.inl ⟨rfl,rfl⟩⟩
 | false =>
  rw [if_neg (by simp),if_neg (by simp)]
  obtain ⟨H',A',sl,q1,q2,q3,q4⟩:=closeg_loop (o:=o) (t:=t) H tm.names.length tm s A H rfl h hm hk hnd hcl
  refine ⟨H',A',_,?_,q2,.inr ⟨rfl,sl,rfl,q3,q4⟩⟩
  obtain ⟨B,S,⟨ms,clk,nx,sl,h1,rfl⟩,h2,h3,rfl⟩:=h
  have hnil:∀ u,ebin (.pointer u) .eql (.ptr o 0) .nilp=some (.bool false):=fun _=>rfl
  have l6:=ldn h1.cells 6 (v:=.bool false) (by rw [hcl];rfl)
  rw [F_tempfile_Temps_Close_eq]
  unfold F_tempfile_Temps_Close
  simp only [hnil,go_sem,tempfile_Temps_Close_J1_eq,Nat.zero_add,l6,tempfile_Temps_Close_J2_eq]
  exact q1
end Go.Am
namespace Go.Am
set_option linter.unusedSimpArgs false
set_option linter.unusedVariables false
set_option linter.unusedSectionVars false
set_option maxRecDepth 100000

def Num (tm:Tmp) (n:Txt):Prop:=∃ i,i≤tm.last∧n=tmpName tm.owner i
structure TInv (tm:Tmp) (k:Nat):Prop where
 ok:TmpOk tm
 last:tm.last≤k
 nd:tm.names.Nodup
 num:∀ n ∈ tm.names,Num tm n
 snum:∀ n ∈ tm.sld,Num tm n
theorem itoa_all:((List.range 50).all fun i=>(List.range 50).all fun j=>i == j || !(Go.Lib.itoa (i:Int) == Go.Lib.itoa (j:Int)))=true:=by kernel_rfl
theorem tmpName_inj {o:Txt} {i j:Nat} (hi:i < 50) (hj:j < 50) (h:tmpName o i=tmpName o j):i=j:=by
 have h1:=all_range itoa_all hi
 have h2:=all_range h1 hj
 have h3:Go.Lib.itoa (i:Int)=Go.Lib.itoa (j:Int):=by
  unfold tmpName at h
  exact List.append_cancel_left h
 rw [h3] at h2
 simpa using h2
def SysE (H:Hp) (o t:Nat) (tm:Tmp) (s:Sto) (A:List Nat):Prop:=∃ sl,SysAt H o t { tm with sld:=sl } s A∧(∀ n ∈ tm.names,(n ∈ sl ↔ n ∈ tm.sld))∧∀ n ∈ sl,Num tm n
def MAt (H:Hp) (t:Nat) (p:AV) (m:Option Tmp) (s:Sto) (A:List Nat):Prop:=match m with
 | none=>p=.nilp∧StoreAt H t s A
 | some tm=>∃ o,p=.ptr o 0∧SysE H o t tm s A
structure MRes (H H':Hp) (t:Nat) (p:AV) (m':Option Tmp) (s':Sto) (A A':List Nat):Prop where
 at':MAt H' t p m' s' A'
 stp:Stp A H H'
 own:∀ a ∈ A',a ∈ A ∨ H.length≤a
theorem MAt.store {H:Hp} {t:Nat} {p:AV} {m:Option Tmp} {s:Sto} {A:List Nat} (h:MAt H t p m s A):∃ S,StoreAt H t s S∧∀ a ∈ S,a ∈ A:=by
 cases m with
 | none=>exact ⟨A,h.2,fun a ha=>ha⟩
 | some tm =>
  obtain ⟨o,_,sl,⟨B,S,_,h2,_,rfl⟩,_⟩:=h
  exact ⟨S,h2,fun a ha=>List.mem_append_right _ ha⟩
theorem MAt.lt {H:Hp} {t:Nat} {p:AV} {m:Option Tmp} {s:Sto} {A:List Nat} (h:MAt H t p m s A):∀ a ∈ A,a < H.length:=by
 cases m with
 | none=>exact h.2.lt
 | some tm =>
  obtain ⟨o,_,sl,h,_⟩:=h
  exact h.lt
theorem SysAt.frm {H H':Hp} {o t:Nat} {tm:Tmp} {s:Sto} {A:List Nat} (h:SysAt H o t tm s A) (hf:∀ a ∈ A,H'[a]?=H[a]?):SysAt H' o t tm s A:=by
 obtain ⟨B,S,⟨ms,clk,nx,sl,h1,rfl⟩,h2,h3,rfl⟩:=h
 exact ⟨_,S,⟨ms,clk,nx,sl,h1.frame fun a ha=>hf a (by simp only [List.mem_append];exact .inl ha),rfl⟩,h2.frame fun a ha=>hf a (by simp [ha]),h3,rfl⟩
theorem MAt.frame {H H':Hp} {t:Nat} {p:AV} {m:Option Tmp} {s:Sto} {A:List Nat} (h:MAt H t p m s A) (hf:∀ a ∈ A,H'[a]?=H[a]?):MAt H' t p m s A:=by
 cases m with
 | none=>exact ⟨h.1,h.2.frame hf⟩
 | some tm =>
  obtain ⟨o,h1,sl,h2,h3,h4⟩:=h
  exact ⟨o,h1,sl,h2.frm hf,h3,h4⟩
def gRemove (tm:Tmp) (s:Sto) (n:Txt):Int × (Tmp × Sto):=(rmErr tm s n,(if rmErr tm s n=0 then { tm with names:=keptL n tm.names } else tm,rmSto tm s n))
def gClose (tm:Tmp) (s:Sto):Int × (Tmp × Sto):=(clErr tm s,(if tm.closed then tm else { tm with names:=(closeRm tm.names s).2.1,closed:=decide ((closeRm tm.names s).1=0) },clSto tm s))
def gOpen (ow:Txt) (lim:Int) (s:Sto):Int × (Option Tmp × Sto) :=
 if validS ow then ((openRm (leftS ow s) s).1,(if (openRm (leftS ow s) s).1=0 then some ⟨ow,[],[],(max 0 lim).toNat,0,false⟩ else none,(openRm (leftS ow s) s).2)) else (4,(none,s))
def Sto.fail (s:Sto) (n:Int):Sto:=if s.crashed then s else { s with count:=(max n 0).toNat }
abbrev Out:=(Option Tmp × Sto) × (Txt × Int × Int)
def withT (m:Option Tmp) (s:Sto) (f:Tmp→Out):Out:=match m with
 | none=>((none,s),([],0,5))
 | some tm=>f tm
def doP (c:Cl) (m:Option Tmp) (s:Sto):Out :=
 if c.op=0 then withT m s fun tm=>((some (tmNew tm s).2.1,(tmNew tm s).2.2),((tmNew tm s).1.1,0,(tmNew tm s).1.2))
 else if c.op=1 then withT m s fun tm=>((some tm,(tmWrite tm s c.name c.lines).2),([],0,(tmWrite tm s c.name c.lines).1))
 else if c.op=2 then withT m s fun tm=>((some (tmSeal tm s c.name).2.1,(tmSeal tm s c.name).2.2),([],0,(tmSeal tm s c.name).1))
 else if c.op=3 then withT m s fun tm=>((some tm,if tmFind tm c.name=0 then s.tick else s),tmRead tm s c.name c.at')
 else if c.op=4 then withT m s fun tm=>((some (gRemove tm s c.name).2.1,(gRemove tm s c.name).2.2),([],0,(gRemove tm s c.name).1))
 else if c.op=5 then withT m s fun tm=>((some (gClose tm s).2.1,(gClose tm s).2.2),([],0,(gClose tm s).1))
 else if c.op=6 then ((gOpen c.name c.at' s).2,([],0,(gOpen c.name c.at' s).1))
 else if c.op=7 then ((m,s.fail c.at'),([],0,0))
 else if c.op=8 then ((m,s.restart c.kept),([],0,0))
 else if c.op=9 then ((m,(s.create c.name).2),([],0,(s.create c.name).1))
 else if c.op=10 then ((m,(s.append c.name (c.lines.headD [])).2),([],0,(s.append c.name (c.lines.headD [])).1))
 else if c.op=11 then ((m,(s.remove c.name).2),([],0,(s.remove c.name).1))
 else ((m,s),([],0,0))
def MInv (m:Option Tmp) (k:Nat):Prop:=∀ tm,m=some tm→TInv tm k
theorem Num.up {tm tm':Tmp} {n:Txt} (h:Num tm n) (ho:tm'.owner=tm.owner) (hl:tm.last≤tm'.last):Num tm' n:=by
 obtain ⟨i,h1,h2⟩:=h
 exact ⟨i,by omega,by rw [ho];exact h2⟩
theorem tnew_inv {tm:Tmp} {k:Nat} (h:TInv tm k) (hk:k < 48) (s:Sto):TInv (tmNew tm s).2.1 (k+1):=by
 have hup:TInv tm (k+1):=⟨h.ok,Nat.le_succ_of_le h.last,h.nd,h.num,h.snum⟩
 have hl:=h.last
 have hn:=h.ok.len
 unfold tmNew
 split
 ·exact hup
 ·cases hc:s.create (tmpName tm.owner (tm.last+1)) with
  | mk e s' =>
  dsimp only
  split
  ·have hnew : tmpName tm.owner (tm.last + 1) ∉ tm.names := fun hh => by
      obtain ⟨i,h1,h2⟩:=h.num _ hh
      have:=tmpName_inj (by omega) (by omega) h2
      omega
   refine ⟨⟨h.ok.owner,h.ok.limit,by show (tm.names++[_]).length≤tm.last+1;simp;omega,by show tm.last+1≤1000000;omega⟩,by show tm.last+1≤k+1;omega,?_,fun n hn=>?_,fun n hn=>(h.snum n hn).up rfl (Nat.le_succ _)⟩
   ·show (tm.names++[_]).Nodup
    rw [List.nodup_append]
    refine ⟨h.nd,by simp,fun a ha b hb e=>?_⟩
    simp at hb
    exact hnew (by rw [← hb,← e];exact ha)
   ·rcases List.mem_append.1 hn with k1 | k1
    ·exact (h.num n k1).up rfl (Nat.le_succ _)
    ·exact ⟨tm.last+1,Nat.le_refl _,List.mem_singleton.1 k1⟩
  ·exact hup
theorem mem_addS {l:List Txt} {n m:Txt}:m ∈ addS l n ↔ m ∈ l ∨ m=n:=by
 unfold addS
 split
 ·rename_i h
  exact ⟨.inl,fun k=>k.elim id fun e=>by rw [e];exact h⟩
 ·simp
theorem find_mem {tm:Tmp} {n:Txt} (h:tmFind tm n=0):n ∈ tm.names∧tm.closed=false:=by
 unfold tmFind at h
 split at h
 ·cases h
 ·rename_i hc
  split at h
  ·rename_i hn;exact ⟨hn,by simpa using hc⟩
  ·cases h
theorem tseal_inv {tm:Tmp} {k:Nat} (h:TInv tm k) (s:Sto) (n:Txt):TInv (tmSeal tm s n).2.1 (k+1):=by
 have hup:TInv tm (k+1):=⟨h.ok,Nat.le_succ_of_le h.last,h.nd,h.num,h.snum⟩
 unfold tmSeal
 split
 ·exact hup
 ·rename_i hf
  split
  ·exact hup
  ·refine ⟨⟨h.ok.owner,h.ok.limit,h.ok.len,h.ok.last⟩,Nat.le_succ_of_le h.last,h.nd,h.num,fun m hm=>?_⟩
   rcases mem_addS.1 hm with k | k
   ·exact h.snum m k
   ·rw [k];exact h.num n (find_mem (by simpa using hf)).1
theorem tremove_inv {tm:Tmp} {k:Nat} (h:TInv tm k) (s:Sto) (n:Txt):TInv (gRemove tm s n).2.1 (k+1):=by
 have hup:TInv tm (k+1):=⟨h.ok,Nat.le_succ_of_le h.last,h.nd,h.num,h.snum⟩
 unfold gRemove
 dsimp only
 split
 ·have hkl:(keptL n tm.names).length≤tm.names.length:=List.length_filter_le _ _
  have:=h.ok.len
  exact ⟨⟨h.ok.owner,h.ok.limit,by show (keptL n tm.names).length≤tm.last;omega,h.ok.last⟩,Nat.le_succ_of_le h.last,h.nd.sublist List.filter_sublist,fun m hm=>h.num m (List.mem_filter.1 hm).1,h.snum⟩
 ·exact hup
theorem tclose_inv {tm:Tmp} {k:Nat} (h:TInv tm k) (s:Sto):TInv (gClose tm s).2.1 (k+1):=by
 have hup:TInv tm (k+1):=⟨h.ok,Nat.le_succ_of_le h.last,h.nd,h.num,h.snum⟩
 unfold gClose
 dsimp only
 split
 ·exact hup
 ·obtain ⟨a,ha⟩:=closeRm_sub tm.names s
  have hl:(closeRm tm.names s).2.1.length≤tm.names.length:=by
   have:=congrArg List.length ha
   rw [List.length_append] at this
   omega
  have hm:∀ m ∈ (closeRm tm.names s).2.1,m ∈ tm.names:=fun m hm=>by rw [ha];exact List.mem_append_right _ hm
  have:=h.ok.len
  refine ⟨⟨h.ok.owner,h.ok.limit,by show (closeRm tm.names s).2.1.length≤tm.last;omega,h.ok.last⟩,Nat.le_succ_of_le h.last,?_,fun m h2=>h.num m (hm m h2),h.snum⟩
  have hnd:=h.nd
  rw [ha,List.nodup_append] at hnd
  exact hnd.2.1
theorem valid_len {ow:Txt} (h:validS ow=true):ow.length≤16:=by
 cases ow with
 | nil=>simp
 | cons b l =>
  unfold validS at h
  simp only [Bool.and_eq_true,decide_eq_true_eq] at h
  exact h.1.1
theorem gopen_inv (ow:Txt) (lim:Int) (hl:lim≤9223372036854775807) (s:Sto) (k:Nat):MInv (gOpen ow lim s).2.1 k:=by
 intro tm h
 unfold gOpen at h
 split at h
 ·rename_i hv
  dsimp only at h
  split at h
  ·injection h with h
   subst h
   exact ⟨⟨valid_len hv,by show (max 0 lim).toNat≤9223372036854775807;omega,by simp,by simp⟩,Nat.zero_le _,by simp,by simp,by simp⟩
  ·cases h
 ·cases h
theorem append_rok {s:Sto} (h:ROk s) (n t:Txt):ROk (s.append n t).2:=by
 have ht:=h.tick
 unfold Sto.append
 split
 ·exact ht
 ·split
  ·exact ht
  ·split
   ·exact ht
   ·rename_i hl
    have hp:=ht.sto.peak
    have hlim:=tick_limit s
    refine ⟨?_,ht.cnt⟩
    have:=upd_ok ht.sto n (fun f=>{ f with text:=f.text++t }) t.length (max s.peak (usedL s.files+t.length)) (fun _=>rfl) (fun f=>by simp) (fun f hf=>by simp;omega) (by rw [tick_files,hlim];omega) (by rw [tick_peak,hlim] at hp;rw [hlim];omega)
    rw [tick_files] at this
    exact this
theorem sync_rok {s:Sto} (h:ROk s) (n:Txt):ROk (s.sync n).2:=by
 have ht:=h.tick
 unfold Sto.sync
 split
 ·exact ht
 ·split
  ·exact ht
  ·refine ⟨?_,ht.cnt⟩
   have hu:=ht.sto.used
   have:=upd_ok ht.sto n (fun f=>{ f with syn:=f.text.length }) 0 s.tick.peak (fun _=>rfl) (fun f=>by simp) (fun f hf=>by simp) (by omega) ht.sto.peak
   rw [tick_files] at this
   exact this
theorem fail_rok {s:Sto} (h:ROk s) (n:Int) (hn:n≤9223372036854775807):ROk (s.fail n):=by
 unfold Sto.fail
 split
 ·exact h
 ·rename_i hc
  exact ⟨⟨h.sto.limit,h.sto.used,h.sto.peak,h.sto.name,h.sto.nd,h.sto.syn,h.sto.len,by show (max n 0).toNat≤9223372036854775807;omega⟩,fun k=>absurd k hc⟩
theorem cutL_ok (k:Nat):∀ (ns:List Txt) (i:Nat) (s:Sto),StoOk s→StoOk { s with files:=cutL k i ns s.files }:=by
 intro ns
 induction ns with
 | nil=>intro i s h;exact h
 | cons n ns ih =>
  intro i s h
  exact ih (i+1) { s with files:=updF s.files n (cutF k i) } (cut_ok h k i n)
theorem restart_rok {s:Sto} (h:ROk s) (k:Nat):ROk (s.restart k):=by
 refine ⟨?_,fun _=>rfl⟩
 have h2:StoOk { s with crashed:=false,count:=0 }:=⟨h.sto.limit,h.sto.used,h.sto.peak,h.sto.name,h.sto.nd,h.sto.syn,h.sto.len,by simp⟩
 exact cutL_ok k _ 0 _ h2
theorem tnew_rok {tm:Tmp} {s:Sto} (h:ROk s):ROk (tmNew tm s).2.2:=by
 unfold tmNew
 split
 ·exact h
 ·have:=create_rok h (tmpName tm.owner (tm.last+1))
  cases hc:s.create (tmpName tm.owner (tm.last+1)) with
  | mk e s' =>
  rw [hc] at this
  dsimp only
  split <;> exact this
theorem twrite_rok {tm:Tmp} {s:Sto} (h:ROk s) (n:Txt) (l:List Txt):ROk (tmWrite tm s n l).2:=by
 unfold tmWrite
 split
 ·exact h
 split
 ·exact h
 split
 ·exact h
 split
 ·exact h
 ·exact append_rok h n _
theorem tseal_rok {tm:Tmp} {s:Sto} (h:ROk s) (n:Txt):ROk (tmSeal tm s n).2.2:=by
 unfold tmSeal
 split
 ·exact h
 split
 ·exact sync_rok h n
 ·exact sync_rok h n
theorem rm_rok {tm:Tmp} {s:Sto} (h:ROk s) (n:Txt):ROk (rmSto tm s n):=by
 unfold rmSto
 split
 ·exact h
 ·exact remove_rok h n
theorem cl_rok {tm:Tmp} {s:Sto} (h:ROk s):ROk (clSto tm s):=by
 unfold clSto
 split
 ·exact h
 ·exact closeRm_rok _ _ h
theorem gopen_rok {s:Sto} (h:ROk s) (ow:Txt) (lim:Int):ROk (gOpen ow lim s).2.2:=by
 unfold gOpen
 split
 ·exact openRm_rok _ _ h
 ·exact h
theorem TInv.up {tm:Tmp} {k:Nat} (h:TInv tm k):TInv tm (k+1):=⟨h.ok,Nat.le_succ_of_le h.last,h.nd,h.num,h.snum⟩
theorem doP_inv {c:Cl} {m:Option Tmp} {s:Sto} {k:Nat} (hm:MInv m k) (hs:ROk s) (hc:ClOk c) (hk:k < 48):MInv (doP c m s).1.1 (k+1)∧ROk (doP c m s).1.2:=by
 have hup:MInv m (k+1):=fun tm h=>(hm tm h).up
 have hat:=hc.at'
 have one:∀ {tm:Tmp},TInv tm (k+1)→MInv (some tm) (k+1):=fun {tm} h tm' e=>by injection e with e;subst e;exact h
 have wt:∀ f:Tmp→Out,(∀ tm,m=some tm→MInv (f tm).1.1 (k+1)∧ROk (f tm).1.2)→MInv (withT m s f).1.1 (k+1)∧ROk (withT m s f).1.2:=by
  intro f hf
  cases hmm:m with
  | none=>exact ⟨fun tm h=>(by cases h),hs⟩
  | some tm=>exact hf tm hmm
 unfold doP
 by_cases h0:c.op=0
 ·rw [if_pos h0]
  exact wt _ fun tm h=>⟨one (tnew_inv (hm tm h) hk s),tnew_rok hs⟩
 rw [if_neg h0]
 by_cases h1:c.op=1
 ·rw [if_pos h1]
  exact wt _ fun tm h=>⟨one (hm tm h).up,twrite_rok hs _ _⟩
 rw [if_neg h1]
 by_cases h2:c.op=2
 ·rw [if_pos h2]
  exact wt _ fun tm h=>⟨one (tseal_inv (hm tm h) s _),tseal_rok hs _⟩
 rw [if_neg h2]
 by_cases h3:c.op=3
 ·rw [if_pos h3]
  refine wt _ fun tm h=>⟨one (hm tm h).up,?_⟩
  show ROk (if tmFind tm c.name=0 then s.tick else s)
  split
  ·exact hs.tick
  ·exact hs
 rw [if_neg h3]
 by_cases h4:c.op=4
 ·rw [if_pos h4]
  exact wt _ fun tm h=>⟨one (tremove_inv (hm tm h) s _),rm_rok hs _⟩
 rw [if_neg h4]
 by_cases h5:c.op=5
 ·rw [if_pos h5]
  exact wt _ fun tm h=>⟨one (tclose_inv (hm tm h) s),cl_rok hs⟩
 rw [if_neg h5]
 by_cases h6:c.op=6
 ·rw [if_pos h6]
  exact ⟨gopen_inv _ _ hat.2 _ _,gopen_rok hs _ _⟩
 rw [if_neg h6]
 by_cases h7:c.op=7
 ·rw [if_pos h7]
  exact ⟨hup,fail_rok hs _ hat.2⟩
 rw [if_neg h7]
 by_cases h8:c.op=8
 ·rw [if_pos h8]
  exact ⟨hup,restart_rok hs _⟩
 rw [if_neg h8]
 by_cases h9:c.op=9
 ·rw [if_pos h9]
  exact ⟨hup,create_rok hs _⟩
 rw [if_neg h9]
 by_cases h10:c.op=10
 ·rw [if_pos h10]
  exact ⟨hup,append_rok hs _ _⟩
 rw [if_neg h10]
 by_cases h11:c.op=11
 ·rw [if_pos h11]
  exact ⟨hup,remove_rok hs _⟩
 rw [if_neg h11]
 exact ⟨hup,hs⟩
end Go.Am
namespace Go.Am
set_option linter.unusedSimpArgs false
set_option linter.unusedVariables false
set_option linter.unusedSectionVars false
set_option maxRecDepth 100000

theorem ok_sld {tm:Tmp} (h:TmpOk tm) (sl:List Txt):TmpOk { tm with sld:=sl }:=⟨h.owner,h.limit,h.len,h.last⟩
theorem new_sld (tm:Tmp) (sl:List Txt) (s:Sto):tmNew { tm with sld:=sl } s=((tmNew tm s).1,({ (tmNew tm s).2.1 with sld:=sl },(tmNew tm s).2.2)):=by
 unfold tmNew
 dsimp only
 split
 ·rfl
 ·split <;> rfl
theorem new_names (tm:Tmp) (s:Sto):(tmNew tm s).2.1.sld=tm.sld∧(tmNew tm s).2.1.owner=tm.owner∧tm.last≤(tmNew tm s).2.1.last∧∀ n ∈ (tmNew tm s).2.1.names,n ∈ tm.names ∨ n=tmpName tm.owner (tm.last+1):=by
 unfold tmNew
 split
 ·exact ⟨rfl,rfl,Nat.le_refl _,fun n h=>.inl h⟩
 ·cases s.create (tmpName tm.owner (tm.last+1)) with
  | mk e s' =>
  dsimp only
  split
  ·refine ⟨rfl,rfl,Nat.le_succ _,fun n h=>?_⟩
   rcases List.mem_append.1 h with h | h
   ·exact .inl h
   ·exact .inr (List.mem_singleton.1 h)
  ·exact ⟨rfl,rfl,Nat.le_refl _,fun n h=>.inl h⟩
theorem write_sld (tm:Tmp) (sl:List Txt) (hs:∀ n ∈ tm.names,(n ∈ sl ↔ n ∈ tm.sld)) (s:Sto) (n:Txt) (l:List Txt):tmWrite { tm with sld:=sl } s n l=tmWrite tm s n l:=by
 unfold tmWrite
 have hf:tmFind { tm with sld:=sl } n=tmFind tm n:=rfl
 have hu:tmUsed { tm with sld:=sl } s=tmUsed tm s:=rfl
 simp only [hf,hu]
 split
 ·rfl
 ·rename_i h
  have hn:=(find_mem (by simpa using h)).1
  by_cases hs2:n ∈ tm.sld
  ·rw [if_pos ((hs n hn).2 hs2),if_pos hs2]
  ·rw [if_neg (fun k=>hs2 ((hs n hn).1 k)),if_neg hs2]
theorem seal_sld (tm:Tmp) (sl:List Txt) (s:Sto) (n:Txt):(tmSeal { tm with sld:=sl } s n).1=(tmSeal tm s n).1∧(tmSeal { tm with sld:=sl } s n).2.2=(tmSeal tm s n).2.2:=by
 unfold tmSeal
 have hf:tmFind { tm with sld:=sl } n=tmFind tm n:=rfl
 simp only [hf]
 split
 ·exact ⟨rfl,rfl⟩
 ·split
  ·exact ⟨rfl,rfl⟩
  ·exact ⟨rfl,rfl⟩
theorem seal_tm (tm : Tmp) (sl : List Txt) (hs : ∀ n ∈ tm.names, (n ∈ sl ↔ n ∈ tm.sld)) (hn : ∀ n ∈ sl, Num tm n) (hm : ∀ n ∈ tm.names, Num tm n) (s : Sto) (n : Txt) :
    ∃ sl',(tmSeal { tm with sld:=sl } s n).2.1={ (tmSeal tm s n).2.1 with sld:=sl' }∧(∀ m ∈ (tmSeal tm s n).2.1.names,(m ∈ sl' ↔ m ∈ (tmSeal tm s n).2.1.sld))∧∀ m ∈ sl',Num (tmSeal tm s n).2.1 m:=by
 unfold tmSeal
 have hf:tmFind { tm with sld:=sl } n=tmFind tm n:=rfl
 simp only [hf]
 split
 ·exact ⟨sl,rfl,hs,hn⟩
 ·rename_i hfn
  split
  ·exact ⟨sl,rfl,hs,hn⟩
  ·refine ⟨addS sl n,rfl,fun m hmm=>?_,fun m hmm=>?_⟩
   ·show m ∈ addS sl n ↔ m ∈ addS tm.sld n
    rw [mem_addS,mem_addS,hs m hmm]
   ·rcases mem_addS.1 hmm with k | k
    ·exact hn m k
    ·rw [k];exact hm n (find_mem (by simpa using hfn)).1
theorem Fail_run {H : Hp} {o : Nat} {s : Sto} {A : List Nat} (h : StoreAt H o s A) (n : Int) :
    ∃ H',C_store_Store_FailAfter [.ptr o 0,.int .i64 n] H=some (.tuple [],H')∧StoRes H H' o (s.fail n) A A:=by
 obtain ⟨m,clk,ds,h,rfl⟩:=h
 have hnil:∀ u,ebin (.pointer u) .neq (.ptr o 0) .nilp=some (.bool true):=fun _=>rfl
 have hcl:H[o]?=some (.cells (stC m s)):=h.cells
 have l4:=ldn hcl 4 (v:=.bool s.crashed) rfl
 rw [F_store_Store_FailAfter_eq]
 unfold F_store_Store_FailAfter Sto.fail
 by_cases hc:s.crashed=true
 ·rw [hc] at l4
  rw [if_pos hc]
  refine ⟨H,?_,h.res (Stp.refl _ _)⟩
  simp only [hnil,go_sem,Nat.zero_add,l4,Bool.not_true]
 ·rw [Bool.not_eq_true] at hc
  rw [hc] at l4
  rw [if_neg (by simp [hc])]
  have hn:(((max n 0).toNat:Nat):Int)=max n 0:=by omega
  have s5:=stn hcl 5 (v:=.int .i64 (max n 0)) rfl rfl (by simp [stC])
  have g:=get_set_eq (AObj.cells (List.set (stC m s) 5 (.int .i64 (max n 0)))) hcl
  have hS:Stp [o] H (H.set o (.cells (List.set (stC m s) 5 (.int .i64 (max n 0))))):=Stp.set _ _ (by simp)
  refine ⟨_,?_,(h.cell (s':={ s with count:=(max n 0).toNat }) hS (by rw [g];simp only [stC,hn];rfl) rfl).res hS⟩
  simp only [hnil,go_sem,Nat.zero_add,l4,Bool.not_false,s5]
theorem first_flat {y:AV} {l:List Txt} (hy:SS y l) (H:Hp):flatC C_L19_first [y] H=some (.str (l.headD []),H):=by
 obtain ⟨y',k1,k2⟩:=hy.closed [] 0 4
 refine flat1 k1 (H1:=[]) ?_ rfl
 have hl:∀ u,alenD (.slice u) y'=some (.int .i64 (l.length:Int)):=fun u=>k2.len u
 rw [F_L19_first_eq]
 unfold F_L19_first
 cases l with
 | nil =>
  have e0:((([]:List Txt).length:Int) == 0)=true:=rfl
  simp only [go_sem,hl,e0]
  rfl
 | cons s r =>
  have e0:(((s :: r).length:Int) == 0)=false:=by simp;omega
  have hi:aindexS 1 y' (.int .i64 0)=some (.vp [.str s]):=SS.idx k2 (i:=0) (s:=s) rfl
  simp only [go_sem,hl,e0,L19_first_J1_eq,hi,aload_vpc]
  rfl
theorem headD_le {c:Cl} (hc:ClOk c):(c.lines.headD []).length≤1048576:=by
 cases h:c.lines with
 | nil=>simp
 | cons s r=>exact hc.lines s (by rw [h];simp)
theorem do_fin {H H3 : Hp} {t : Nat} {p' : AV} {m' : Option Tmp} {s' : Sto} {A A3 : List Nat} {l : List AV} {H2 : Hp} (hlA : ∀ a ∈ A, a < H.length) (hl2 : H2.length = H.length + 2) (hS : Stp [] H H2) (g1 : H2[H.length + 1]? = some (.cells l)) (h3 : l.length = 3)
    (hr:MRes H2 H3 t p' m' s' A A3) (tx:Txt) (n e:Int) :
    astoreU 3 (.ptr (H.length+1) 0) (.agg (resC tx n e)) H3=some (.tuple [],H3.set (H.length+1) (.cells (resC tx n e)))∧aload true 3 (.ptr (H.length+1) 0) (H3.set (H.length+1) (.cells (resC tx n e)))=some (.agg (resC tx n e))∧MRes H (H3.set (H.length+1) (.cells (resC tx n e))) t p' m' s' A A3:=by
 have hq:H.length+1 ∉ A:=fun hh=>by have:=hlA _ hh;omega
 obtain ⟨a1,a2⟩:=res_store (hr.stp.get g1 hq) h3 tx n e
 have hl:=hr.stp.len
 refine ⟨a1,a2,hr.at'.frame fun a ha=>List.getElem?_set_ne (fun e=>?_),?_,fun a ha=>?_⟩
 ·rcases hr.own a ha with k1 | k1
  ·have:=hlA a k1;omega
  ·omega
 ·refine ⟨by simp;omega,fun a ha hn=>?_⟩
  rw [List.getElem?_set_ne (by omega),hr.stp.at' a (by omega) hn,hS.at' a ha (by simp)]
 ·rcases hr.own a ha with k1 | k1
  ·exact .inl k1
  ·exact .inr (by omega)
theorem SysRes.mres {H H':Hp} {o t:Nat} {tm tm':Tmp} {s':Sto} {A A':List Nat} (sl:List Txt) (h:SysRes H H' o t { tm' with sld:=sl } s' A A') (h1:∀ n ∈ tm'.names,(n ∈ sl ↔ n ∈ tm'.sld)) (h2:∀ n ∈ sl,Num tm' n):MRes H H' t (.ptr o 0) (some tm') s' A A' :=
 ⟨⟨o,rfl,sl,h.at',h1,h2⟩,h.stp,h.own⟩
theorem MAt.store' {H:Hp} {t:Nat} {p:AV} {m:Option Tmp} {s:Sto} {A:List Nat} (h:MAt H t p m s A):∃ S,StoreAt H t s S∧∀ {H':Hp} {s':Sto} {S':List Nat},StoRes H H' t s' S S'→∃ A',MRes H H' t p m s' A A':=by
 cases m with
 | none=>exact ⟨A,h.2,fun {H' s' S'} hr=>⟨S',⟨h.1,hr.at'⟩,hr.stp,hr.own⟩⟩
 | some tm =>
  obtain ⟨o,e,sl,⟨B,S,h1,h2,h3,rfl⟩,h4,h5⟩:=h
  refine ⟨S,h2,fun {H' s' S'} hr=>?_⟩
  have:=SysAt.store h1 h3 hr
  exact ⟨_,⟨o,e,sl,this.at',h4,h5⟩,this.stp,this.own⟩
theorem MAt.self {H:Hp} {t:Nat} {p:AV} {m:Option Tmp} {s:Sto} {A:List Nat} (h:MAt H t p m s A):MRes H H t p m s A A:=⟨h,Stp.refl _ _,fun a ha=>.inl ha⟩
section
variable {H:Hp} {t k:Nat} {p:AV} {m:Option Tmp} {s:Sto} {A:List Nat} (h:MAt H t p m s A) (hm:MInv m k) (hs:ROk s) (hk:k < 48)
include h hm hs hk
theorem mnew : ∃ H' A', C_tempfile_Temps_New [p] H = some (.tuple [.str (withT m s fun tm => ((some (tmNew tm s).2.1, (tmNew tm s).2.2), ((tmNew tm s).1.1, 0, (tmNew tm s).1.2))).2.1, .int .i64 (withT m s fun tm => ((some (tmNew tm s).2.1, (tmNew tm s).2.2), ((tmNew tm s).1.1, 0, (tmNew tm s).1.2))).2.2.2], H') ∧
    MRes H H' t p (withT m s fun tm=>((some (tmNew tm s).2.1,(tmNew tm s).2.2),((tmNew tm s).1.1,0,(tmNew tm s).1.2))).1.1 (withT m s fun tm=>((some (tmNew tm s).2.1,(tmNew tm s).2.2),((tmNew tm s).1.1,0,(tmNew tm s).1.2))).1.2 A A':=by
 cases m with
 | none =>
  obtain ⟨rfl,h2⟩:=h
  exact ⟨H,A,new_nil H,⟨rfl,h2⟩,Stp.refl _ _,fun a ha=>.inl ha⟩
 | some tm =>
  have hi:=hm tm rfl
  obtain ⟨o,rfl,sl,h1,h2,h3⟩:=h
  have hl:=hi.last
  obtain ⟨H',A',q1,q2⟩:=TNew_run h1 (ok_sld hi.ok sl) hs.sto (by show tm.last < 1000000;omega)
  rw [new_sld] at q1 q2
  obtain ⟨n1,n2,n3,n4⟩:=new_names tm s
  refine ⟨H',A',q1,SysRes.mres (tm:=tm) sl q2 (fun n hn=>?_) fun n hn=>(h3 n hn).up n2 n3⟩
  rw [n1]
  rcases n4 n hn with k1 | k1
  ·exact h2 n k1
  ·have no : ∀ l : List Txt, (∀ x ∈ l, Num tm x) → n ∉ l := fun l hl2 hx => by
      obtain ⟨i,i1,i2⟩:=hl2 n hx
      have:=tmpName_inj (o:=tm.owner) (i:=tm.last+1) (j:=i) (by omega) (by omega) (by rw [← k1,← i2])
      omega
   exact ⟨fun x=>absurd x (no _ h3),fun x=>absurd x (no _ hi.snum)⟩
theorem mwrite (n : Txt) {x : AV} {l : List Txt} (hx : SS x l) (hL : ∀ s ∈ l, s.length ≤ 1048576) (hl : costR l ≤ 1048576) : ∃ H' A', C_tempfile_Temps_Write [p, .str n, x] H = some (.int .i64 (withT m s fun tm => ((some tm, (tmWrite tm s n l).2), ([], 0, (tmWrite tm s n l).1))).2.2.2, H') ∧
    MRes H H' t p (withT m s fun tm=>((some tm,(tmWrite tm s n l).2),([],0,(tmWrite tm s n l).1))).1.1 (withT m s fun tm=>((some tm,(tmWrite tm s n l).2),([],0,(tmWrite tm s n l).1))).1.2 A A':=by
 cases m with
 | none =>
  obtain ⟨rfl,h2⟩:=h
  exact ⟨H,A,write_nil _ _ H,⟨rfl,h2⟩,Stp.refl _ _,fun a ha=>.inl ha⟩
 | some tm =>
  have hi:=hm tm rfl
  obtain ⟨o,rfl,sl,h1,h2,h3⟩:=h
  obtain ⟨H',A',q1,q2⟩:=Write_run h1 (ok_sld hi.ok sl) hs.sto n hx hL hl
  rw [write_sld tm sl h2] at q1 q2
  exact ⟨H',A',q1,SysRes.mres (tm:=tm) sl q2 h2 h3⟩
theorem mseal (n : Txt) : ∃ H' A', C_tempfile_Temps_Seal [p, .str n] H = some (.int .i64 (withT m s fun tm => ((some (tmSeal tm s n).2.1, (tmSeal tm s n).2.2), ([], 0, (tmSeal tm s n).1))).2.2.2, H') ∧
    MRes H H' t p (withT m s fun tm=>((some (tmSeal tm s n).2.1,(tmSeal tm s n).2.2),([],0,(tmSeal tm s n).1))).1.1 (withT m s fun tm=>((some (tmSeal tm s n).2.1,(tmSeal tm s n).2.2),([],0,(tmSeal tm s n).1))).1.2 A A':=by
 cases m with
 | none =>
  obtain ⟨rfl,h2⟩:=h
  exact ⟨H,A,seal_nil _ H,⟨rfl,h2⟩,Stp.refl _ _,fun a ha=>.inl ha⟩
 | some tm =>
  have hi:=hm tm rfl
  obtain ⟨o,rfl,sl,h1,h2,h3⟩:=h
  obtain ⟨H',A',q1,q2⟩:=Seal_run h1 (ok_sld hi.ok sl) hs.sto n
  obtain ⟨e1,e2⟩:=seal_sld tm sl s n
  obtain ⟨sl',e3,e4,e5⟩:=seal_tm tm sl h2 h3 hi.num s n
  rw [e1] at q1
  rw [e2,e3] at q2
  exact ⟨H',A',q1,SysRes.mres (tm:=tm) sl' q2 e4 e5⟩
theorem mread (n : Txt) (i : Int) (hi : -9223372036854775808 ≤ i ∧ i ≤ 9223372036854775807) : ∃ H' A', C_tempfile_Temps_Read [p, .str n, .int .i64 i] H = some (.tuple [.str (withT m s fun tm => ((some tm, if tmFind tm n = 0 then s.tick else s), tmRead tm s n i)).2.1, .int .i64 (withT m s fun tm => ((some tm, if tmFind tm n = 0 then s.tick else s), tmRead tm s n i)).2.2.1, .int .i64 (withT m s fun tm => ((some tm, if tmFind tm n = 0 then s.tick else s), tmRead tm s n i)).2.2.2], H') ∧
    MRes H H' t p (withT m s fun tm=>((some tm,if tmFind tm n=0 then s.tick else s),tmRead tm s n i)).1.1 (withT m s fun tm=>((some tm,if tmFind tm n=0 then s.tick else s),tmRead tm s n i)).1.2 A A':=by
 cases m with
 | none =>
  obtain ⟨rfl,h2⟩:=h
  exact ⟨H,A,tread_nil _ _ H,⟨rfl,h2⟩,Stp.refl _ _,fun a ha=>.inl ha⟩
 | some tm =>
  have hiv:=hm tm rfl
  obtain ⟨o,rfl,sl,h1,h2,h3⟩:=h
  obtain ⟨H',q1,q2,q3⟩:=TRead_any h1 (ok_sld hiv.ok sl) hs.sto n i hi
  exact ⟨H',A,q1,⟨o,rfl,sl,q2,h2,h3⟩,q3,fun a ha=>.inl ha⟩
theorem mremove (n : Txt) : ∃ H' A', C_tempfile_Temps_Remove [p, .str n] H = some (.int .i64 (withT m s fun tm => ((some (gRemove tm s n).2.1, (gRemove tm s n).2.2), ([], 0, (gRemove tm s n).1))).2.2.2, H') ∧
    MRes H H' t p (withT m s fun tm=>((some (gRemove tm s n).2.1,(gRemove tm s n).2.2),([],0,(gRemove tm s n).1))).1.1 (withT m s fun tm=>((some (gRemove tm s n).2.1,(gRemove tm s n).2.2),([],0,(gRemove tm s n).1))).1.2 A A':=by
 cases m with
 | none =>
  obtain ⟨rfl,h2⟩:=h
  exact ⟨H,A,tremove_nil _ H,⟨rfl,h2⟩,Stp.refl _ _,fun a ha=>.inl ha⟩
 | some tm =>
  have hi:=hm tm rfl
  obtain ⟨o,rfl,sl,h1,h2,h3⟩:=h
  obtain ⟨H',A',tm',q1,q2,q3⟩:=TRemove_run h1 (ok_sld hi.ok sl) hs.sto n
  have e1:rmErr { tm with sld:=sl } s n=rmErr tm s n:=rfl
  have e2:rmSto { tm with sld:=sl } s n=rmSto tm s n:=rfl
  rw [e1] at q1 q3
  rw [e2] at q2
  refine ⟨H',A',q1,?_⟩
  show MRes H H' t (.ptr o 0) (some (gRemove tm s n).2.1) (gRemove tm s n).2.2 A A'
  rcases q3 with ⟨k1,rfl⟩ | ⟨k1,k2,sl',rfl,k3⟩
  ·have:(gRemove tm s n).2.1=tm:=by unfold gRemove;rw [if_neg k1]
   rw [this]
   exact SysRes.mres (tm:=tm) sl q2 h2 h3
  ·have:(gRemove tm s n).2.1={ tm with names:=keptL n tm.names }:=by unfold gRemove;rw [if_pos k1]
   rw [this]
   refine SysRes.mres (tm:=tm) sl' q2 (fun x hx=>?_) fun x hx=>?_
   ·obtain ⟨x1,x2⟩:=List.mem_filter.1 hx
    have hne:x ≠ n:=fun e=>by simp [e] at x2
    rw [k3 x hne]
    exact h2 x x1
   ·show Num tm x
    by_cases hxn:x=n
    ·rw [hxn];exact hi.num n k2
    ·exact h3 x ((k3 x hxn).1 hx)
theorem mclose : ∃ H' A', C_tempfile_Temps_Close [p] H = some (.int .i64 (withT m s fun tm => ((some (gClose tm s).2.1, (gClose tm s).2.2), ([], 0, (gClose tm s).1))).2.2.2, H') ∧
    MRes H H' t p (withT m s fun tm=>((some (gClose tm s).2.1,(gClose tm s).2.2),([],0,(gClose tm s).1))).1.1 (withT m s fun tm=>((some (gClose tm s).2.1,(gClose tm s).2.2),([],0,(gClose tm s).1))).1.2 A A':=by
 cases m with
 | none =>
  obtain ⟨rfl,h2⟩:=h
  exact ⟨H,A,close_nil H,⟨rfl,h2⟩,Stp.refl _ _,fun a ha=>.inl ha⟩
 | some tm =>
  have hi:=hm tm rfl
  obtain ⟨o,rfl,sl,h1,h2,h3⟩:=h
  obtain ⟨H',A',tm',q1,q2,q3⟩:=TClose_run h1 (ok_sld hi.ok sl) hs hi.nd
  have e1:clErr { tm with sld:=sl } s=clErr tm s:=rfl
  have e2:clSto { tm with sld:=sl } s=clSto tm s:=rfl
  rw [e1] at q1
  rw [e2] at q2
  refine ⟨H',A',q1,?_⟩
  show MRes H H' t (.ptr o 0) (some (gClose tm s).2.1) (gClose tm s).2.2 A A'
  rcases q3 with ⟨k1,rfl⟩ | ⟨k1,sl',rfl,k3,k4⟩
  ·have:(gClose tm s).2.1=tm:=by unfold gClose;rw [if_pos k1]
   rw [this]
   exact SysRes.mres (tm:=tm) sl q2 h2 h3
  ·have k1:tm.closed=false:=k1
   have:(gClose tm s).2.1={ tm with names:=(closeRm tm.names s).2.1,closed:=decide ((closeRm tm.names s).1=0) }:=by unfold gClose;rw [if_neg (by simp [k1])]
   rw [this]
   obtain ⟨a,ha⟩:=closeRm_sub tm.names s
   have hsub:∀ x ∈ (closeRm tm.names s).2.1,x ∈ tm.names:=fun x hx=>by rw [ha];exact List.mem_append_right _ hx
   refine SysRes.mres (tm:=tm) sl' q2 (fun x hx=>?_) fun x hx=>(k4 x hx).elim (h3 x) (hi.num x)
   show x ∈ sl' ↔ x ∈ tm.sld
   rw [k3 x hx]
   exact h2 x (hsub x hx)
end
theorem mopen {H : Hp} {t : Nat} {p : AV} {m : Option Tmp} {s : Sto} {A : List Nat} (h : MAt H t p m s A) (hs : ROk s) (ow : Txt) (ho : ow.length ≤ 1048576) (lim : Int) :
    ∃ H' A' p',C_tempfile_Open [.ptr t 0,.str ow,.int .i64 lim] H=some (.tuple [p',.int .i64 (gOpen ow lim s).1],H')∧MRes H H' t p' (gOpen ow lim s).2.1 (gOpen ow lim s).2.2 A A':=by
 obtain ⟨S,h1,h2⟩:=h.store
 obtain ⟨p',e,H',q1,q2⟩:=TOpen_run h1 hs ow ho lim
 unfold gOpen
 rcases q2 with ⟨v1,rfl,rfl,rfl⟩ | ⟨v1,v2,rfl,rfl,S',v3⟩ | ⟨v1,v2,rfl,o,A',rfl,v3,v4,v5,v6⟩
 ·rw [if_neg (by simp [v1])]
  exact ⟨H',S,.nilp,q1,⟨rfl,h1⟩,Stp.refl _ _,fun a ha=>.inl (h2 a ha)⟩
 ·rw [if_pos v1]
  dsimp only
  rw [if_neg v2]
  refine ⟨H',S',.nilp,q1,⟨rfl,v3.at'⟩,v3.stp.mono h2,fun a ha=>(v3.own a ha).imp (h2 a) id⟩
 ·rw [if_pos v1]
  dsimp only
  rw [if_pos v2,v2]
  exact ⟨H',A',_,q1,⟨o,rfl,[],v4,by simp,by simp⟩,v5.mono h2,fun a ha=>(v6 a ha).imp (h2 a) id⟩
theorem do_run {H : Hp} {t k : Nat} {p : AV} {m : Option Tmp} {s : Sto} {A : List Nat} (h : MAt H t p m s A) (hm : MInv m k) (hs : ROk s) (hk : k < 48) (c : Cl) (hc : ClOk c) (hsm : ClSm c) {y : AV} (hy : SS y c.lines) :
    ∃ H' A' p',C_L19_do [.ptr t 0,p,.agg (c.cells y)] H=some (.tuple [p',.agg (resC (doP c m s).2.1 (doP c m s).2.2.1 (doP c m s).2.2.2)],H')∧MRes H H' t p' (doP c m s).1.1 (doP c m s).1.2 A A':=by
 have hbx:abox (.agg (c.cells y)) H=some (.ptr H.length 0,H++[AObj.cells (c.cells y)]):=abox_of rfl
 have hl1:(H++[AObj.cells (c.cells y)]).length=H.length+1:=by simp
 have hlA:=h.lt
 have g0:(H++[AObj.cells (c.cells y)]++[AObj.cells [(.str []),(.int .i64 0),(.int .i64 0)]])[H.length]?=some (.cells (c.cells y)):=by simp
 have g1:(H++[AObj.cells (c.cells y)]++[AObj.cells [(.str []),(.int .i64 0),(.int .i64 0)]])[H.length+1]?=some (.cells [(.str []),(.int .i64 0),(.int .i64 0)]):=by
  rw [List.getElem?_append_right (by simp)];simp
 have l0:=ldn g0 0 (v:=.int .i64 c.op) rfl
 have l1:=ldn g0 1 (v:=.str c.name) rfl
 have l2:=ldn g0 2 (v:=y) rfl
 have l3:=ldn g0 3 (v:=.int .i64 c.at') rfl
 have l4:=ldn g0 4 (v:=.int .u64 (c.kept:Int)) rfl
 have hM:MAt (H++[AObj.cells (c.cells y)]++[AObj.cells [(.str []),(.int .i64 0),(.int .i64 0)]]) t p m s A:=h.frame fun a ha=>by
  rw [List.append_assoc,List.getElem?_append_left (hlA a ha)]
 have hS:Stp [] H (H++[AObj.cells (c.cells y)]++[AObj.cells [(.str []),(.int .i64 0),(.int .i64 0)]]):=by rw [List.append_assoc];exact Stp.push _ _
 have hl2:(H++[AObj.cells (c.cells y)]++[AObj.cells [(.str []),(.int .i64 0),(.int .i64 0)]]).length=H.length+2:=by simp
 generalize hH2:H++[AObj.cells (c.cells y)]++[AObj.cells [(.str []),(.int .i64 0),(.int .i64 0)]]=H2 at l0 l1 l2 l3 l4 g1 hM hl2 hS
 have fin:=fun {H3:Hp} {p':AV} {m':Option Tmp} {s':Sto} {A3:List Nat} (hr:MRes H2 H3 t p' m' s' A A3) (tx:Txt) (n e:Int)=>do_fin hlA hl2 hS g1 rfl hr tx n e
 have fa:∀ (tx:Txt) (e:Int),(afill [(0,1,.str tx),(2,1,.int .i64 e)] [(.str []),(.int .i64 0),(.int .i64 0)]).map AV.agg=some (.agg (resC tx 0 e)):=fun _ _=>rfl
 have fb:∀ (e:Int),(afill [(2,1,.int .i64 e)] [(.str []),(.int .i64 0),(.int .i64 0)]).map AV.agg=some (.agg (resC [] 0 e)):=fun _=>rfl
 have fc:∀ (tx:Txt) (n e:Int),(afill [(0,1,.str tx),(1,1,.int .i64 n),(2,1,.int .i64 e)] [(.str []),(.int .i64 0),(.int .i64 0)]).map AV.agg=some (.agg (resC tx n e)):=fun _ _ _=>rfl
 have j1:∀ {H3:Hp} {m':Option Tmp} {s':Sto} {A3:List Nat} (H0:Hp),MRes H2 H3 t p m' s' A A3→∃ H',L19_do_J1 p (.ptr (H.length+1) 0) H0 H3=some (.tuple [p,.agg (resC [] 0 0)],H')∧MRes H H' t p m' s' A A3:=fun H0 hr=>by
  obtain ⟨s1,s2,s3⟩:=fin hr [] 0 0
  exact ⟨_,by rw [L19_do_J1_eq];simp only [go_sem,s1,s2],s3⟩
 have hc':=hsm
 rw [F_L19_do_eq]
 unfold F_L19_do doP
 by_cases h0:c.op=0
 ·rw [if_pos h0]
  rw [h0] at l0
  obtain ⟨H3,A3,r1,r2⟩:=mnew hM hm hs hk
  have hz:(withT m s fun tm=>((some (tmNew tm s).2.1,(tmNew tm s).2.2),((tmNew tm s).1.1,0,(tmNew tm s).1.2))).2.2.1=0:=by cases m <;> rfl
  obtain ⟨s1,s2,s3⟩:=fin r2 (withT m s fun tm=>((some (tmNew tm s).2.1,(tmNew tm s).2.2),((tmNew tm s).1.1,0,(tmNew tm s).1.2))).2.1 0 (withT m s fun tm=>((some (tmNew tm s).2.1,(tmNew tm s).2.2),((tmNew tm s).1.1,0,(tmNew tm s).1.2))).2.2.2
  rw [hz]
  exact ⟨_,A3,p,by simp only [hbx,go_sem,hl1,hH2,Nat.zero_add,l0,Int.reduceBEq,r1,List.getElem?_cons_zero,List.getElem?_cons_succ,fa,s1,s2],s3⟩
 have z:∀ f:Tmp→Out,(∀ tm,(f tm).2.1=[]∧(f tm).2.2.1=0)→(withT m s f).2.1=[]∧(withT m s f).2.2.1=0:=fun f hf=>by
  cases m with
  | none=>exact ⟨rfl,rfl⟩
  | some tm=>exact hf tm
 rw [if_neg h0]
 have b0:(c.op == 0)=false:=by simpa using h0
 by_cases h1:c.op=1
 ·rw [if_pos h1]
  rw [h1] at l0
  have hcl:costR c.lines≤1048576:=by
   have:=hsm.sum;have:=hsm.cnt
   rw [costR_lines];omega
  obtain ⟨H3,A3,r1,r2⟩:=mwrite hM hm hs hk c.name hy hc.lines hcl
  obtain ⟨z1,z2⟩:=z (fun tm=>((some tm,(tmWrite tm s c.name c.lines).2),([],0,(tmWrite tm s c.name c.lines).1))) fun tm=>⟨rfl,rfl⟩
  rw [z1,z2]
  obtain ⟨s1,s2,s3⟩:=fin r2 [] 0 (withT m s fun tm=>((some tm,(tmWrite tm s c.name c.lines).2),([],0,(tmWrite tm s c.name c.lines).1))).2.2.2
  exact ⟨_,A3,p,by simp only [hbx,go_sem,hl1,hH2,Nat.zero_add,l0,l1,l2,Int.reduceBEq,r1,fb,s1,s2],s3⟩
 rw [if_neg h1]
 have b1:(c.op == 1)=false:=by simpa using h1
 by_cases h2:c.op=2
 ·rw [if_pos h2]
  rw [h2] at l0
  obtain ⟨H3,A3,r1,r2⟩:=mseal hM hm hs hk c.name
  obtain ⟨z1,z2⟩:=z (fun tm=>((some (tmSeal tm s c.name).2.1,(tmSeal tm s c.name).2.2),([],0,(tmSeal tm s c.name).1))) fun tm=>⟨rfl,rfl⟩
  rw [z1,z2]
  obtain ⟨s1,s2,s3⟩:=fin r2 [] 0 (withT m s fun tm=>((some (tmSeal tm s c.name).2.1,(tmSeal tm s c.name).2.2),([],0,(tmSeal tm s c.name).1))).2.2.2
  exact ⟨_,A3,p,by simp only [hbx,go_sem,hl1,hH2,Nat.zero_add,l0,l1,Int.reduceBEq,r1,fb,s1,s2],s3⟩
 rw [if_neg h2]
 have b2:(c.op == 2)=false:=by simpa using h2
 by_cases h3:c.op=3
 ·rw [if_pos h3]
  rw [h3] at l0
  obtain ⟨H3,A3,r1,r2⟩:=mread hM hm hs hk c.name c.at' hc.at'
  obtain ⟨s1,s2,s3⟩:=fin r2 (withT m s fun tm=>((some tm,if tmFind tm c.name=0 then s.tick else s),tmRead tm s c.name c.at')).2.1 (withT m s fun tm=>((some tm,if tmFind tm c.name=0 then s.tick else s),tmRead tm s c.name c.at')).2.2.1 (withT m s fun tm=>((some tm,if tmFind tm c.name=0 then s.tick else s),tmRead tm s c.name c.at')).2.2.2
  exact ⟨_,A3,p,by simp only [hbx,go_sem,hl1,hH2,Nat.zero_add,l0,l1,l3,Int.reduceBEq,r1,List.getElem?_cons_zero,List.getElem?_cons_succ,fc,s1,s2],s3⟩
 rw [if_neg h3]
 have b3:(c.op == 3)=false:=by simpa using h3
 by_cases h4:c.op=4
 ·rw [if_pos h4]
  rw [h4] at l0
  obtain ⟨H3,A3,r1,r2⟩:=mremove hM hm hs hk c.name
  obtain ⟨z1,z2⟩:=z (fun tm=>((some (gRemove tm s c.name).2.1,(gRemove tm s c.name).2.2),([],0,(gRemove tm s c.name).1))) fun tm=>⟨rfl,rfl⟩
  rw [z1,z2]
  obtain ⟨s1,s2,s3⟩:=fin r2 [] 0 (withT m s fun tm=>((some (gRemove tm s c.name).2.1,(gRemove tm s c.name).2.2),([],0,(gRemove tm s c.name).1))).2.2.2
  exact ⟨_,A3,p,by simp only [hbx,go_sem,hl1,hH2,Nat.zero_add,l0,l1,Int.reduceBEq,r1,fb,s1,s2],s3⟩
 rw [if_neg h4]
 have b4:(c.op == 4)=false:=by simpa using h4
 by_cases h5:c.op=5
 ·rw [if_pos h5]
  rw [h5] at l0
  obtain ⟨H3,A3,r1,r2⟩:=mclose hM hm hs hk
  obtain ⟨z1,z2⟩:=z (fun tm=>((some (gClose tm s).2.1,(gClose tm s).2.2),([],0,(gClose tm s).1))) fun tm=>⟨rfl,rfl⟩
  rw [z1,z2]
  obtain ⟨s1,s2,s3⟩:=fin r2 [] 0 (withT m s fun tm=>((some (gClose tm s).2.1,(gClose tm s).2.2),([],0,(gClose tm s).1))).2.2.2
  exact ⟨_,A3,p,by simp only [hbx,go_sem,hl1,hH2,Nat.zero_add,l0,Int.reduceBEq,r1,fb,s1,s2],s3⟩
 rw [if_neg h5]
 have b5:(c.op == 5)=false:=by simpa using h5
 by_cases h6:c.op=6
 ·rw [if_pos h6]
  rw [h6] at l0
  obtain ⟨H3,A3,p',r1,r2⟩:=mopen hM hs c.name hc.name c.at'
  obtain ⟨s1,s2,s3⟩:=fin r2 [] 0 (gOpen c.name c.at' s).1
  exact ⟨_,A3,p',by simp only [hbx,go_sem,hl1,hH2,Nat.zero_add,l0,l1,l3,Int.reduceBEq,r1,List.getElem?_cons_zero,List.getElem?_cons_succ,fb,s1,s2],s3⟩
 rw [if_neg h6]
 have b6:(c.op == 6)=false:=by simpa using h6
 obtain ⟨S,hsto,hres⟩:=hM.store'
 by_cases h7:c.op=7
 ·rw [if_pos h7]
  rw [h7] at l0
  obtain ⟨H3,r1,r2⟩:=Fail_run hsto c.at'
  obtain ⟨A3,r3⟩:=hres r2
  obtain ⟨H',k1,k2⟩:=j1 H r3
  exact ⟨H',A3,p,by simp only [hbx,go_sem,hl1,hH2,Nat.zero_add,l0,l3,Int.reduceBEq,r1];exact k1,k2⟩
 rw [if_neg h7]
 have b7:(c.op == 7)=false:=by simpa using h7
 by_cases h8:c.op=8
 ·rw [if_pos h8]
  rw [h8] at l0
  obtain ⟨H3,S3,r1,r2,_⟩:=Restart_run hsto hs.sto c.kept
  obtain ⟨A3,r3⟩:=hres r2
  obtain ⟨H',k1,k2⟩:=j1 H r3
  exact ⟨H',A3,p,by simp only [hbx,go_sem,hl1,hH2,Nat.zero_add,l0,l4,Int.reduceBEq,r1];exact k1,k2⟩
 rw [if_neg h8]
 have b8:(c.op == 8)=false:=by simpa using h8
 by_cases h9:c.op=9
 ·rw [if_pos h9]
  rw [h9] at l0
  obtain ⟨H3,S3,r1,r2⟩:=Create_run hsto hs.sto c.name hc.name
  obtain ⟨A3,r3⟩:=hres r2
  obtain ⟨s1,s2,s3⟩:=fin r3 [] 0 (s.create c.name).1
  exact ⟨_,A3,p,by simp only [hbx,go_sem,hl1,hH2,Nat.zero_add,l0,l1,Int.reduceBEq,r1,fb,s1,s2],s3⟩
 rw [if_neg h9]
 have b9:(c.op == 9)=false:=by simpa using h9
 by_cases h10:c.op=10
 ·rw [if_pos h10]
  rw [h10] at l0
  have hff:=first_flat hy H2
  obtain ⟨H3,S3,r1,r2⟩:=Append_run hsto hs.sto c.name (c.lines.headD []) (headD_le hc)
  obtain ⟨A3,r3⟩:=hres r2
  obtain ⟨s1,s2,s3⟩:=fin r3 [] 0 (s.append c.name (c.lines.headD [])).1
  exact ⟨_,A3,p,by simp only [hbx,go_sem,hl1,hH2,Nat.zero_add,l0,l1,l2,hff,Int.reduceBEq,r1,fb,s1,s2],s3⟩
 rw [if_neg h10]
 have b10:(c.op == 10)=false:=by simpa using h10
 by_cases h11:c.op=11
 ·rw [if_pos h11]
  rw [h11] at l0
  obtain ⟨H3,S3,r1,r2⟩:=Remove_run hsto hs.sto c.name
  obtain ⟨A3,r3⟩:=hres r2
  obtain ⟨s1,s2,s3⟩:=fin r3 [] 0 (s.remove c.name).1
  exact ⟨_,A3,p,by simp only [hbx,go_sem,hl1,hH2,Nat.zero_add,l0,l1,Int.reduceBEq,r1,fb,s1,s2],s3⟩
 rw [if_neg h11]
 have b11:(c.op == 11)=false:=by simpa using h11
 obtain ⟨H',k1,k2⟩:=j1 H hM.self
 exact ⟨H',A,p,by simp only [hbx,go_sem,hl1,hH2,Nat.zero_add,l0,b0,b1,b2,b3,b4,b5,b6,b7,b8,b9,b10,b11];exact k1,k2⟩
end Go.Am
