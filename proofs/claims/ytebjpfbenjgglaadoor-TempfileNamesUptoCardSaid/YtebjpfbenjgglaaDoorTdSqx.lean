/-
  The store in the machine: failing at an operation, starting anew.
-/
import Derived.Test.YtebjpfbenjgglaaDoorTdAx
import Derived.Test.YtebjpfbenjgglaaDoorTdLcx
import Derived.Sort.Walk0
namespace Go.Am
set_option linter.unusedSimpArgs false
set_option linter.unusedVariables false
set_option linter.unusedSectionVars false
set_option maxRecDepth 100000

theorem TxAt.cut {H : Hp} {x : AV} {l : Txt} (h : TxAt H x l) {n : Nat} (hn : n ≤ l.length) :
    ∃ x',asliceV 1 x none (some (.int .i64 (n:Int))) (some (.int .i64 (n:Int)))=some x'∧tokA x'=[]∧(∀ H',TxAt H' x' (l.take n))∧x'.cells=[x']∧x'.known=true:=by
 have hb:abounds l.length l.length none (some (.int .i64 (n:Int))) (some (.int .i64 (n:Int)))=some (0,n,n):=by
  rw [abounds_hm (len:=l.length) (cap:=l.length) .i64 .i64 (by omega) (by omega) (by omega)]
  simp
 have key:∀ t,asliceV 1 (.vs 1 t (l.map bv)) none (some (.int .i64 (n:Int))) (some (.int .i64 (n:Int)))=some (.vs 1 .clip ((l.take n).map bv)):=fun t=>by
  unfold asliceV
  dsimp only
  rw [if_pos rfl,List.length_map,hb]
  simp
 rcases h with ⟨rfl,rfl⟩ | ⟨t,e,rfl,ht⟩ | rfl
 ·have:n=0:=by simpa using hn
  subst this
  exact ⟨.nils,by unfold asliceV;dsimp only;rw [show abounds 0 0 none (some (.int .i64 ((0:Nat):Int))) (some (.int .i64 ((0:Nat):Int)))=some (0,0,0) from by simpa using hb],rfl,fun _=>.inl ⟨rfl,rfl⟩,rfl,rfl⟩
 ·exact ⟨_,key _,rfl,fun _=>.inr (.inr rfl),rfl,rfl⟩
 ·exact ⟨_,key _,rfl,fun _=>.inr (.inr rfl),rfl,rfl⟩
theorem StoRes.trans {H H1 H2:Hp} {o:Nat} {s1 s2:Sto} {A A1 A2:List Nat} (h:StoRes H H1 o s1 A A1) (k:StoRes H1 H2 o s2 A1 A2):StoRes H H2 o s2 A A2 :=
 ⟨k.at',h.stp.trans k.stp (fun _ h=>h) (fun a ha=>h.own a ha),fun a ha=>(k.own a ha).elim (h.own a) fun hh=>.inr (Nat.le_trans h.stp.len hh)⟩
end Go.Am
namespace Go.Am
set_option linter.unusedSimpArgs false
set_option linter.unusedVariables false
set_option linter.unusedSectionVars false
set_option maxRecDepth 100000

theorem RowN.stp {N:Nat} {H H':Hp} {x:AV} {l:List AV} {A:List Nat} (h:RowN N H 1 x l) (hs:Stp A H H') (hA:∀ a ∈ A,a < N):RowN N H' 1 x l:=by
 rcases h with k | ⟨t,e,k1,k2,k3⟩
 ·exact .inl k
 ·exact .inr ⟨t,e,k1,hs.get k2 fun hh=>by have:=hA t hh;omega,k3⟩
theorem RowN.ss {N:Nat} {H:Hp} {x:AV} {l:List Txt} (h:RowN N H 1 x (l.map AV.str)):SS x l:=h.imp id fun ⟨t,e,a,_⟩=>⟨_,a⟩
theorem sameN_loop {x z : AV} {l : List Txt} (hx : SS x l) (hz : SS z l) (hl : l.length ≤ 1048576) (H0 H : Hp) : ∀ (r d : List Txt), l = d ++ r →
    L19_sameNames_L1 x z (.int .i64 (d.length:Int)) H0 H=some (.bool true,H):=by
 intro r
 induction r with
 | nil =>
  intro d hd
  rw [List.append_nil] at hd
  subst hd
  have hlt:decide ((l.length:Int) < (l.length:Int))=false:=by simp
  rw [L19_sameNames_L1_eq]
  simp only [go_sem,hx.len 9,hlt,L19_sameNames_J2_eq]
 | cons s r ih =>
  intro d hd
  have hlen:l.length=d.length+(r.length+1):=by rw [hd];simp
  have hlt:decide ((d.length:Int) < (l.length:Int))=true:=by simp;omega
  have hw1:IntKind.i64.wrap ((d.length:Int)+1)=((d.length+1:Nat):Int):=by rw [wrap64 (by omega) (by omega)];omega
  have hi:l[d.length]?=some s:=by rw [hd,List.getElem?_append_right (Nat.le_refl _)];simp
  have hne:(!(s == s))=false:=by simp
  have k:=ih (d++[s]) (by rw [hd];simp)
  rw [List.length_append,List.length_singleton] at k
  rw [L19_sameNames_L1_eq]
  simp only [go_sem,hx.len 9,hlt,L19_sameNames_J3_eq,SS.idx hx hi,SS.idx hz hi,aload_vpc,hne,L19_sameNames_J4_eq,hw1]
  exact k
theorem sameN_flat {x z:AV} {l:List Txt} (hx:SS x l) (hz:SS z l) (hl:l.length≤1048576) (H:Hp):flatC C_L19_sameNames [x,z] H=some (.bool true,H):=by
 obtain ⟨x',hx1,hx2⟩:=hx.closed [] 0 4
 obtain ⟨z',hz1,hz2⟩:=hz.closed [] 0 4
 refine flat2 hx1 hz1 (H1:=[]) ?_ rfl
 have hne:((l.length:Int) != (l.length:Int))=false:=by simp
 rw [F_L19_sameNames_eq]
 unfold F_L19_sameNames
 simp only [go_sem,hx2.len 9,hz2.len 9,hne,L19_sameNames_J1_eq]
 exact sameN_loop hx2 hz2 hl [] [] l [] rfl
theorem fil_cmp (a a' : Txt) (m m' n n' : Int) : aeqBin Go.Proofs.Tryd.prog cfg.eqok .neq 83 (.agg [.str a, .int .i64 m, .int .i64 n]) (.agg [.str a', .int .i64 m', .int .i64 n']) =
    (match (match some (a == a') with
     | some true=>(match some (m == m') with
      | some true=>(match some (n == n') with
       | some true=>some true
       | r=>r)
      | r=>r)
     | r=>r:Option Bool) with
    | some b=>some (.bool (!b))
    | none=>none):=by kernel_rfl
theorem fil_eq (f:Fil):aeqBin Go.Proofs.Tryd.prog cfg.eqok .neq 83 (filAV f) (filAV f)=some (.bool false):=by
 unfold filAV
 rw [fil_cmp]
 simp
theorem sameF_loop {x z : AV} {l : List Fil} (hx : Sl 3 x (l.map filAV)) (hz : Sl 3 z (l.map filAV)) (hl : l.length ≤ 64) (H0 H : Hp) : ∀ (r d : List Fil), l = d ++ r →
    R18_SameFiles_L1 x z (.int .i64 (d.length:Int)) H0 H=some (.bool true,H):=by
 have hxl:alenD (.slice 83) x=some (.int .i64 (l.length:Int)):=by
  have:=Sl.len hx 83
  rwa [List.length_map] at this
 intro r
 induction r with
 | nil =>
  intro d hd
  rw [List.append_nil] at hd
  subst hd
  have hlt:decide ((l.length:Int) < (l.length:Int))=false:=by simp
  rw [R18_SameFiles_L1_eq]
  simp only [go_sem,hxl,hlt,R18_SameFiles_J2_eq]
 | cons f r ih =>
  intro d hd
  have hlen:l.length=d.length+(r.length+1):=by rw [hd];simp
  have hlt:decide ((d.length:Int) < (l.length:Int))=true:=by simp;omega
  have hw1:IntKind.i64.wrap ((d.length:Int)+1)=((d.length+1:Nat):Int):=by rw [wrap64 (by omega) (by omega)];omega
  have hif:l[d.length]?=some f:=by rw [hd,List.getElem?_append_right (Nat.le_refl _)];simp
  have hix:aindexS 3 x (.int .i64 (d.length:Int))=some (.vp (filAV f).cells):=Sl.idx hx (c:=filAV f) (by simp [hif])
  have hiz:aindexS 3 z (.int .i64 (d.length:Int))=some (.vp (filAV f).cells):=Sl.idx hz (c:=filAV f) (by simp [hif])
  have k:=ih (d++[f]) (by rw [hd];simp)
  rw [List.length_append,List.length_singleton] at k
  rw [R18_SameFiles_L1_eq]
  simp only [go_sem,hxl,hlt,R18_SameFiles_J3_eq,hix,hiz,load_fil,fil_eq,R18_SameFiles_J4_eq,hw1]
  exact k
theorem Sl.closeF {x:AV} {l:List Fil} (h:Sl 3 x (l.map filAV)):∃ x',closeV [] 0 6 x=some x'∧Sl 3 x' (l.map filAV):=by
 rcases h with ⟨rfl,e⟩ | ⟨tk,rfl⟩
 ·exact ⟨.nils,rfl,.inl ⟨rfl,e⟩⟩
 ·exact ⟨_,by rw [closeV_vs',mapM_fil],.inr ⟨_,rfl⟩⟩
theorem sameF_flat {x z:AV} {l:List Fil} (hx:Sl 3 x (l.map filAV)) (hz:Sl 3 z (l.map filAV)) (hl:l.length≤64) (H:Hp):flatC C_R18_SameFiles [x,z] H=some (.bool true,H):=by
 obtain ⟨x',hx1,hx2⟩:=hx.closeF
 obtain ⟨z',hz1,hz2⟩:=hz.closeF
 refine flat2 hx1 hz1 (H1:=[]) ?_ rfl
 have hne:((l.length:Int) != (l.length:Int))=false:=by simp
 have hxl:=Sl.len hx2 83
 have hzl:=Sl.len hz2 83
 rw [List.length_map] at hxl hzl
 rw [F_R18_SameFiles_eq]
 unfold F_R18_SameFiles
 simp only [go_sem,hxl,hzl,hne,R18_SameFiles_J1_eq]
 exact sameF_loop hx2 hz2 hl [] [] l [] rfl
theorem getF_nameE {l:List Fil} {n:Txt} {f:Fil} (h:getF l n=some f):f.name=n:=by
 obtain ⟨a,b,e,h1,_⟩:=getF_split h
 exact h1
end Go.Am
namespace Go.Am
set_option linter.unusedSimpArgs false
set_option linter.unusedVariables false
set_option linter.unusedSectionVars false
set_option maxRecDepth 100000

def gtB (a b:Txt):Bool:=!(Op.bytesLess a b || a == b)
theorem gtB_iff (a b:Txt):gtB a b=true ↔ b < a:=by
 unfold gtB
 rw [Go.Proofs.bytesLess_eq,Bool.not_eq_true',Bool.or_eq_false_iff,decide_eq_false_iff_not,beq_eq_false_iff_ne]
 constructor
 ·rintro ⟨h1,h2⟩
  rcases List.le_iff_lt_or_eq.1 (List.not_lt.1 h1) with h | h
  ·exact h
  ·exact absurd h.symm h2
 ·intro h
  exact ⟨fun k=>List.lt_irrefl _ (List.lt_trans h k),fun e=>List.lt_irrefl _ (e ▸ h)⟩
def leF (f g:Fil):Bool:=leB f.name g.name
theorem leF_sorted (L:List Fil):L.Pairwise (fun f g=>leF f g=true) ↔ (L.map Fil.name).Pairwise fun a b=>leB a b=true:=by rw [List.pairwise_map];rfl
theorem leF_tr (a b c:Fil) (h1:leF a b=true) (h2:leF b c=true):leF a c=true:=leB_tr _ _ _ h1 h2
theorem leF_to (a b:Fil):(leF a b || leF b a)=true:=leB_to _ _
theorem sortK_of_sorted {l m:List Txt} (h:l.Pairwise (fun a b=>leB a b=true)) (hp:l.Perm m):sortK m=l:=by
 refine List.Perm.eq_of_pairwise (le:=fun a b=>leB a b=true) (fun a b _ _ h1 h2=>?_) (sortK_sorted m) h ((sortK_perm m).trans hp.symm)
 simp only [leB,decide_eq_true_eq] at h1 h2
 exact List.le_antisymm h1 h2
theorem getF_of_mem {l:List Fil} (nd:(l.map Fil.name).Nodup) {f:Fil} (hf:f ∈ l):getF l f.name=some f:=by
 induction l with
 | nil=>cases hf
 | cons g l ih =>
  rw [List.map_cons,List.nodup_cons] at nd
  rw [getF]
  rcases List.mem_cons.1 hf with e | hf
  ·rw [e,if_pos rfl]
  ·rw [if_neg (fun e=>nd.1 (by rw [← e];exact List.mem_map_of_mem hf)),ih nd.2 hf]
theorem listF_uniq {L l:List Fil} (hs:L.Pairwise (fun f g=>leF f g=true)) (hp:L.Perm l) (nd:(l.map Fil.name).Nodup):listF l=L:=by
 unfold listF
 rw [sortK_of_sorted ((leF_sorted L).1 hs) (hp.map _),List.filterMap_map]
 have:∀ M:List Fil,(∀ f ∈ M,f ∈ l)→M.filterMap (getF l ∘ Fil.name)=M:=by
  intro M
  induction M with
  | nil=>intro _;rfl
  | cons f M ih =>
   intro h
   rw [List.filterMap_cons,Function.comp_apply,getF_of_mem nd (h f (by simp)),ih fun g hg=>h g (by simp [hg])]
 exact this L fun f hf=>hp.mem_iff.1 hf
theorem listF_sort (l:List Fil) (nd:(l.map Fil.name).Nodup):listF l=l.mergeSort leF:=by
 refine listF_uniq (List.pairwise_mergeSort leF_tr leF_to l) (List.mergeSort_perm l _) nd
theorem listF_sorted {l:List Fil} (nd:(l.map Fil.name).Nodup):(listF l).Pairwise fun f g=>leF f g=true:=by
 rw [listF_sort l nd];exact List.pairwise_mergeSort leF_tr leF_to l
theorem listF_nd {l:List Fil} (nd:(l.map Fil.name).Nodup):((listF l).map Fil.name).Nodup:=((listF_perm nd).map _).nodup_iff.2 nd
theorem listF_length {l:List Fil} (nd:(l.map Fil.name).Nodup):(listF l).length=l.length:=(listF_perm nd).length_eq
theorem getF_perm {l m:List Fil} (hp:l.Perm m) (nd:(m.map Fil.name).Nodup) (n:Txt):getF l n=getF m n:=by
 have ndl:(l.map Fil.name).Nodup:=(hp.map _).nodup_iff.2 nd
 cases h:getF m n with
 | none=>exact getF_none.2 fun g hg=>getF_none.1 h g (hp.mem_iff.1 hg)
 | some f =>
  have:=getF_of_mem ndl (hp.mem_iff.2 (getF_of_name h))
  rwa [getF_nameE h] at this
theorem listF_get {l:List Fil} (nd:(l.map Fil.name).Nodup) (n:Txt):getF (listF l) n=getF l n:=getF_perm (listF_perm nd) nd n
def insF (f:Fil):List Fil→List Fil
 | []=>[f]
 | g :: r=>if gtB g.name f.name=true then f :: g :: r else g :: insF f r
theorem insF_perm (f:Fil) (l:List Fil):(insF f l).Perm (f :: l):=by
 induction l with
 | nil=>exact List.Perm.refl _
 | cons g r ih =>
  rw [insF]
  split
  ·exact List.Perm.refl _
  ·exact (List.Perm.cons g ih).trans (List.Perm.swap f g r)
theorem leB_of_lt {a b:Txt} (h:a < b):leB a b=true:=by simp only [leB,decide_eq_true_eq];exact List.le_of_lt h
theorem insF_sorted (f:Fil) (l:List Fil) (h:l.Pairwise fun f g=>leF f g=true):(insF f l).Pairwise fun f g=>leF f g=true:=by
 induction l with
 | nil=>exact List.pairwise_singleton _ _
 | cons g r ih =>
  obtain ⟨h1,h2⟩:=List.pairwise_cons.1 h
  rw [insF]
  split
  ·rename_i hg
   have hfg:leF f g=true:=leB_of_lt ((gtB_iff _ _).1 hg)
   refine List.pairwise_cons.2 ⟨fun x hx=>?_,h⟩
   rcases List.mem_cons.1 hx with e | hx
   ·rw [e];exact hfg
   ·exact leF_tr _ _ _ hfg (h1 x hx)
  ·rename_i hg
   refine List.pairwise_cons.2 ⟨fun x hx=>?_,ih h2⟩
   rcases List.mem_cons.1 ((insF_perm f r).mem_iff.1 hx) with e | hx
   ·rw [e]
    simp only [leF,leB,decide_eq_true_eq]
    exact List.not_lt.1 fun hlt=>hg ((gtB_iff _ _).2 hlt)
   ·exact h1 x hx
theorem listF_app {l:List Fil} (nd:(l.map Fil.name).Nodup) (f:Fil) (hf:getF l f.name=none):listF (l++[f])=insF f (listF l):=by
 refine listF_uniq (insF_sorted f _ (listF_sorted nd)) ((insF_perm f _).trans (((listF_perm nd).cons f).trans (List.perm_append_singleton f l).symm)) ?_
 rw [List.map_append,List.nodup_append]
 refine ⟨nd,by simp,fun a ha b hb e=>?_⟩
 simp at hb
 obtain ⟨g,hg,hn⟩:=List.mem_map.1 ha
 exact getF_none.1 hf g hg (by rw [hn,e,hb])
theorem rmF_filter {l:List Fil} (nd:(l.map Fil.name).Nodup) (n:Txt):rmF l n=l.filter fun f=>decide (f.name ≠ n):=by
 induction l with
 | nil=>rfl
 | cons g l ih =>
  rw [List.map_cons,List.nodup_cons] at nd
  rw [rmF]
  split
  ·rename_i h
   rw [List.filter_cons_of_neg (by simp [h]),eq_comm,List.filter_eq_self]
   intro f hf
   simp only [ne_eq,decide_eq_true_eq]
   intro e
   exact nd.1 (by rw [← h,← e];exact List.mem_map_of_mem hf)
  ·rename_i h
   rw [List.filter_cons_of_pos (by simpa using fun e=>h e.symm),ih nd.2]
theorem listF_rm {l:List Fil} (nd:(l.map Fil.name).Nodup) (n:Txt):listF (rmF l n)=rmF (listF l) n:=by
 refine listF_uniq ((listF_sorted nd).sublist (rmF_sub _ _)) ?_ (nd.sublist ((rmF_sub l n).map _))
 rw [rmF_filter nd,rmF_filter (listF_nd nd)]
 exact (listF_perm nd).filter _
def placeF:List Fil→Txt→Option Nat
 | [],_=>none
 | f :: l,n=>if f.name=n then some 0 else (placeF l n).map (·+1)
theorem placeF_spec (l:List Fil) (n:Txt):(placeF l n=none∧getF l n=none) ∨ ∃ i f,placeF l n=some i∧getF l n=some f∧l[i]?=some f∧i < l.length∧rmF l n=l.eraseIdx i∧∀ u,updF l n u=l.set i (u f):=by
 induction l with
 | nil=>exact .inl ⟨rfl,rfl⟩
 | cons g l ih =>
  by_cases h:g.name=n
  ·refine .inr ⟨0,g,by rw [placeF,if_pos h],by rw [getF,if_pos h.symm],rfl,by simp,by rw [rmF,if_pos h.symm];rfl,fun u=>by rw [updF,if_pos h.symm];rfl⟩
  ·have h':¬ n=g.name:=fun e=>h e.symm
   rcases ih with ⟨h1,h2⟩ | ⟨i,f,h1,h2,h3,h4,h5,h6⟩
   ·exact .inl ⟨by rw [placeF,if_neg h,h1];rfl,by rw [getF,if_neg h',h2]⟩
   ·refine .inr ⟨i+1,f,by rw [placeF,if_neg h,h1];rfl,by rw [getF,if_neg h',h2],by simpa using h3,by simp;omega,by rw [rmF,if_neg h',h5];rfl,fun u=>by rw [updF,if_neg h',h6];rfl⟩
end Go.Am
