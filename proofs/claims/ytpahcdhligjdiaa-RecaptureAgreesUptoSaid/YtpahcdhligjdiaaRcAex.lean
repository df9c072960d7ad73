/-
  Simulating a program: where it matches.
-/
import Derived.Test.YtpahcdhligjdiaaRcOx
namespace Go.Am
set_option linter.unusedSimpArgs false
set_option linter.unusedVariables false
set_option maxRecDepth 100000

theorem next_loop {p : List In} (hP : p.length ≤ 5000) (hW : PW p) {xv : AV} {lb : Bool} (hc : SlC 7 xv (p.map inV)) {pp ao : Nat} (hpa : pp ≠ ao) {c : UInt8} {all : List Nat} {x96 : AV} (hall : ∀ k ∈ all, k < p.length) (hal : all.length ≤ 5000) {x0 x3 x9 x10 x12 x13 : AV} {Hs : Hp} (h96 : Rw Hs false 1 x96 (jV all)) (hao : ao < Hs.length) (hps : Hs[pp]? = some (.cells [xv, .bool lb])) (h96a : ao ∉ rowA x96) (H0 : Hp) :
    ∀ (k i:Nat) (t:List Nat) (sn:List Bool) (x11:AV) (Hc:Hp),all.length - i=k→i≤all.length→ThOk p t sn→BlAt Hc ao sn→Rw Hc false 1 x11 (jV t)→Kpt [ao] Hs Hc→(∀ q ∈ rowA x11,Hs.length≤q) →
    ∃ x11' H',recapture_finder_reach_L2 x0 x3 (.ptr pp 0) x9 x10 x11 x12 x13 (.int .u8 (c.toNat:Int)) (blV ao sn) x96 (.int .i64 (all.length:Int)) (.int .i64 (i:Int)) H0 Hc=recapture_finder_reach_J5 x0 x3 (.ptr pp 0) x9 x10 x11' x12 x13 H0 H' ∧
     Rw H' false 1 x11' (jV ((all.drop i).foldl (nextS p c) (t,sn)).1)∧Kpt [ao] Hs H'∧(∀ q ∈ rowA x11',Hs.length≤q):=by
 intro k
 induction k with
 | zero =>
  intro i t sn x11 Hc hk hi hok hm hr hK hb
  have hlt:decide ((i:Int) < (all.length:Int))=false:=decide_eq_false (by omega)
  have hdr:all.drop i=[]:=List.drop_eq_nil_iff.2 (by omega)
  rw [recapture_finder_reach_L2_eq,hdr]
  simp only [go_sem,hlt,List.foldl_nil]
  exact ⟨x11,Hc,rfl,hr,hK,hb⟩
 | succ k ih =>
  intro i t sn x11 Hc hk hi hok hm hr hK hb
  have hL:i < all.length:=by omega
  have hlt:decide ((i:Int) < (all.length:Int))=true:=decide_eq_true (by omega)
  have hdr:=List.drop_eq_getElem_cons hL
  have hr96:Rw Hc false 1 x96 (jV all):=h96.kept hK fun a ha hm=>h96a (by rw [List.mem_singleton.1 hm] at ha;exact ha)
  obtain ⟨q,q1,q2⟩:=hr96.nidx hL
  have hg:all.getD i 0=all[i]:=by rw [List.getD_eq_getElem?_getD,List.getElem?_eq_getElem hL];rfl
  rw [hg] at q2
  have hkl:=hall _ (List.getElem_mem hL)
  rw [hdr,List.foldl_cons]
  generalize all[i]=n at *
  obtain ⟨w1,w2,w3,w4⟩:=hW.at hkl
  have hpc:Hc[pp]?=some (.cells [xv,.bool lb]):=hK.get hps (by simp [hpa])
  have lp:aload false 1 (.ptr pp (0+0)) Hc=some xv:=by rw [aload_of hpc];rfl
  -- behind the copy of the instruction
  have hq:=get_push_len Hc (AObj.cells (inC (inAt p n))) []
  obtain ⟨l1,l2,l3,l4⟩:=ld_in hq
  have hm1:BlAt (Hc++[AObj.cells (inC (inAt p n))]) ao sn:=get_push hm _
  have hr1:Rw (Hc++[AObj.cells (inC (inAt p n))]) false 1 x11 (jV t):=hr.kept (Kpt.push [] _ _) (by simp)
  have hK1:Kpt [ao] Hs (Hc++[AObj.cells (inC (inAt p n))]):=hK.trans (Kpt.push _ _ _)
  have hwn:IntKind.i64.wrap ((n:Int)+1)=((n+1:Nat):Int):=wsucc (by omega)
  rw [recapture_finder_reach_L2_eq]
  simp only [go_sem,hlt,recapture_finder_reach_J8_eq,q1,q2,lp,code_idx hc hkl,aload_vp_in,alloc_in,l1]
  -- nothing is added
  have same : nextS p c (t, sn) n = (t, sn) → ∃ x11' H', recapture_finder_reach_J9 x0 x3 (.ptr pp 0) x9 x10 x11 x12 x13 (.int .u8 (c.toNat : Int)) (blV ao sn) x96 (.int .i64 (all.length : Int)) (.int .i64 (i : Int)) H0 (Hc ++ [AObj.cells (inC (inAt p n))]) = recapture_finder_reach_J5 x0 x3 (.ptr pp 0) x9 x10 x11' x12 x13 H0 H' ∧
      Rw H' false 1 x11' (jV ((all.drop (i+1)).foldl (nextS p c) (nextS p c (t,sn) n)).1)∧Kpt [ao] Hs H'∧(∀ q ∈ rowA x11',Hs.length≤q):=by
   intro he
   rw [he,recapture_finder_reach_J9_eq]
   obtain ⟨x',H',r1,r2,r3,r4⟩:=ih (i+1) t sn x11 _ (by omega) (by omega) hok hm1 hr1 hK1 hb
   simp only [go_sem,wsucc (n:=i) (by omega),r1]
   exact ⟨x',H',rfl,r2,r3,r4⟩
  by_cases h1:(inAt p n).op=1
  ·have e1:((inAt p n).op == 1)=true:=by simp [h1]
   simp only [e1,go_sem,l4,has_run]
   cases hh:hasM (inAt p n) c with
   | false =>
    obtain ⟨u1,u2,u3⟩:=same (by unfold nextS;rw [if_neg (by simp [hh])])
    simp only [go_sem]
    exact ⟨u1,u2,u3⟩
   | true =>
    have hn1:=w4 h1
    have hns:nextS p c (t,sn) n=visitM p (n+1) (t,sn):=by unfold nextS;rw [if_pos ⟨h1,hh⟩]
    have hks:n+1 < sn.length:=by rw [hok.len];exact hn1
    have hld:=hm1.ld hks
    by_cases hs:sn.getD (n+1) false=false
    ·rw [hs] at hld
     have hv:visitM p (n+1) (t,sn)=(t++[n+1],sn.set (n+1) true):=by unfold visitM;rw [if_pos ⟨hn1,hs⟩]
     have hst:=hm1.st hks true
     have hk1:Kpt [ao] (Hc++[AObj.cells (inC (inAt p n))]) ((Hc++[AObj.cells (inC (inAt p n))]).set ao (.cells (bL (sn.set (n+1) true)))):=Kpt.set _ _ (by simp)
     have hax:ao ∉ rowA x11:=fun hmm=>by have:=hb ao hmm;omega
     have hr2:=hr1.kept hk1 fun a ha hmm=>hax (by rw [List.mem_singleton.1 hmm] at ha;exact ha)
     obtain ⟨x',H2,r1,r2,r3,r4⟩:=hr2.napp (n+1) (by have:=hok.le;omega)
     have e5:((setElems 1 [(0,AV.int .i64 ((n+1:Nat):Int))] [(.int .i64 0)]).map (AV.vs 1 .clip))=some (.vs 1 .clip [.int .i64 ((n+1:Nat):Int)]):=rfl
     have hbs:blV ao sn=blV ao (sn.set (n+1) true):=by simp [blV]
     have hok2:=(visit_ok hok (n+1)).1
     rw [hv] at hok2
     have hm2:BlAt H2 ao (sn.set (n+1) true):=r3.get (get_set_eq _ hm1) hax
     have hlen:=hK1.1
     have hK2:Kpt [ao] Hs H2:=by
      have h12:=hK1.trans hk1
      exact ⟨Nat.le_trans h12.1 r3.1,fun q hq hn=>(r3.2 q (Nat.lt_of_lt_of_le hq h12.1) fun hmm=>by have:=hb q hmm;omega).trans (h12.2 q hq hn)⟩
     have hb2:∀ q ∈ rowA x',Hs.length≤q:=fun q hq=>by
      rcases r4 q hq with h | h
      ·exact hb q h
      ·rw [h];simp only [List.length_set];exact hlen
     obtain ⟨x'',H'',u1,u2,u3,u4⟩:=ih (i+1) _ _ x' H2 (by omega) (by omega) hok2 hm2 r2 hK2 hb2
     rw [hns,hv]
     simp only [go_sem,hwn,bl_idx ao sn hks,hld,Bool.not_false,hst,e5,r1,recapture_finder_reach_J9_eq,wsucc (n:=i) (by omega)]
     rw [hbs,u1]
     exact ⟨x'',H'',rfl,u2,u3,u4⟩
    ·have hs':sn.getD (n+1) false=true:=by simpa using hs
     rw [hs'] at hld
     obtain ⟨u1,u2,u3⟩:=same (by rw [hns];unfold visitM;rw [if_neg (fun hhh=>hs hhh.2)])
     simp only [go_sem,hwn,bl_idx ao sn hks,hld,Bool.not_true]
     exact ⟨u1,u2,u3⟩
  ·have e1:((inAt p n).op == 1)=false:=by simp [h1]
   obtain ⟨u1,u2,u3⟩:=same (by unfold nextS;rw [if_neg (fun hh=>h1 hh.1)])
   simp only [e1,go_sem]
   exact ⟨u1,u2,u3⟩
theorem Kpt.base {Hb H H':Hp} {W:List Nat} (h:Kpt [] Hb H) (h':Kpt W H H') (hw:∀ q ∈ W,Hb.length≤q):Kpt [] Hb H' :=
 ⟨Nat.le_trans h.1 h'.1,fun q hq _=>(h'.2 q (Nat.lt_of_lt_of_le hq h.1) fun hm=>by have:=hw q hm;omega).trans (h.2 q hq (by simp))⟩
def nxt (bw:Bool) (i:Nat):Nat:=if bw=true then i - 1 else i+1
def reachF (p:List In) (s:List UInt8) (lines bw:Bool) (lo to:Nat):Nat→Nat→List Nat→List Bool→List Bool
 | 0,_,_,out=>out
 | f+1,i,t,out=>if t=[] then out else
  if i=to then out.set (i - lo) (closeF p s lines i p.length 0 (t,markM p.length t) false).2
  else reachF p s lines bw lo to f (nxt bw i) (nextM p (s.getD (if bw=true then i - 1 else i) 0) (closeF p s lines i p.length 0 (t,markM p.length t) false).1) (out.set (i - lo) (closeF p s lines i p.length 0 (t,markM p.length t) false).2)
theorem reachF_len (p:List In) (s:List UInt8) (lines bw:Bool) (lo to:Nat):∀ (f i:Nat) (t:List Nat) (out:List Bool),(reachF p s lines bw lo to f i t out).length=out.length
 | 0,i,t,out=>rfl
 | f+1,i,t,out=>by
  rw [reachF]
  split
  ·rfl
  split
  ·simp
  ·rw [reachF_len p s lines bw lo to f];simp
section
variable {p:List In} {fo:Nat} {s:List UInt8} {lines:Bool} {spv xv:AV} {lb:Bool} {pp oo:Nat} {Hb:Hp}
theorem reach_loop (hP : p.length ≤ 5000) (hP0 : 0 < p.length) (hW : PW p) (hc : SlC 7 xv (p.map inV)) (hs : s.length ≤ 4000000) (bw : Bool) {lo to : Nat} (hto : to ≤ s.length) (hlt : lo ≤ to) (hfo : fo < Hb.length) (hpo : pp ≠ oo) (hpb : Hb.length ≤ pp) (hob : Hb.length ≤ oo) (H0 : Hp) :
    ∀ (f i:Nat) (t:List Nat) (out:List Bool) (x11:AV) (Hc:Hp),(if bw=true then i - to else to - i) < f→(if bw=true then to≤i else i≤to)→i≤s.length→lo≤i→i - lo < out.length→to - lo < out.length →
    t.Nodup→(∀ k ∈ t,k < p.length)→t.length≤5000→FdAt Hc fo s lines spv→Hc[pp]?=some (.cells [xv,.bool lb])→BlAt Hc oo out→Rw Hc false 1 x11 (jV t)→Kpt [] Hb Hc→(∀ q ∈ rowA x11,Hb.length≤q) →
    ∃ H',recapture_finder_reach_L1 (.ptr fo 0) (.int .i64 (to:Int)) (.ptr pp 0) (.int .i64 (lo:Int)) (blV oo out) x11 (.int .i64 (if bw=true then -1 else 1)) (.int .i64 (i:Int)) H0 Hc=some (blV oo out,H')∧BlAt H' oo (reachF p s lines bw lo to f i t out)∧Kpt [] Hb H':=by
 intro f
 induction f with
 | zero=>intro i t out x11 Hc hf;omega
 | succ f ih =>
  intro i t out x11 Hc hf hdir hi hlo hio hto' hnd htl htn hF hpp hm hr hK hb
  rw [recapture_finder_reach_L1_eq,reachF]
  by_cases ht:t=[]
  ·subst ht
   have hgt:decide ((0:Int) < ((([]:List Nat).length:Nat):Int))=false:=rfl
   rw [if_pos rfl]
   simp only [go_sem,hr.nlen,hgt,recapture_finder_reach_J3_eq]
   exact ⟨Hc,rfl,hm,hK⟩
  ·rw [if_neg ht]
   have htp:0 < t.length:=List.length_pos_iff.2 ht
   have hgt:decide ((0:Int) < (t.length:Int))=true:=decide_eq_true (by omega)
   have hcl:Hb.length≤Hc.length:=hK.1
   have hpl:pp < Hc.length:=lt_of_get hpp
   have hol:oo < Hc.length:=lt_of_get hm
   have lp:aload false 1 (.ptr pp (0+0)) Hc=some xv:=by rw [aload_of hpp];rfl
   have lxv:alenD (.slice 76) xv=some (.int .i64 (p.length:Int)):=by rw [hc.len,List.length_map]
   -- the marks
   have hr1:Rw (Hc++[AObj.cells (bL (List.replicate p.length false))]) false 1 x11 (jV t):=hr.kept (Kpt.push [] _ _) (by simp)
   have hm0:BlAt (Hc++[AObj.cells (bL (List.replicate p.length false))]) Hc.length (List.replicate p.length false):=get_push_len Hc _ []
   have i0:(((0:Nat):Int))=0:=rfl
   have hml:=mark_loop (x0:=.ptr fo 0) (x3:=.int .i64 (to:Int)) (x5:=.ptr pp 0) (x9:=.int .i64 (lo:Int)) (x10:=blV oo out) (x12:=.int .i64 (if bw=true then -1 else 1)) (x13:=.int .i64 (i:Int)) (fo:=fo) (so:=Hc.length) htl (by omega) H0 t.length 0 (List.replicate p.length false) _ rfl (by omega) (by simp) hm0 hr1
   rw [List.drop_zero,i0] at hml
   have hmk:t.foldl (fun sn k=>sn.set k true) (List.replicate p.length false)=markM p.length t:=rfl
   rw [hmk] at hml
   have hH2:(Hc++[AObj.cells (bL (List.replicate p.length false))]).set Hc.length (.cells (bL (markM p.length t)))=Hc++[.cells (bL (markM p.length t))]:=by simp
   rw [hH2] at hml
   have hF2:FdAt (Hc++[AObj.cells (bL (markM p.length t))]) fo s lines spv:=get_push hF _
   have hpp2:=get_push hpp [AObj.cells (bL (markM p.length t))]
   have hm2:BlAt (Hc++[AObj.cells (bL (markM p.length t))]) oo out:=get_push hm _
   have hr2:Rw (Hc++[AObj.cells (bL (markM p.length t))]) false 1 x11 (jV t):=hr.kept (Kpt.push [] _ _) (by simp)
   have hsn:BlAt (Hc++[AObj.cells (bL (markM p.length t))]) Hc.length (markM p.length t):=get_push_len Hc _ []
   have hK2:Kpt [] Hb (Hc++[AObj.cells (bL (markM p.length t))]):=hK.trans (Kpt.push _ _ _)
   obtain ⟨x',H3,c1,c2,c3,c3l,c4,c5⟩:=close_run (lb:=lb) hP hW hi (by omega) hF2 (by omega) hc hsn hr2 (mark_ok hnd htl)
   generalize hcf:closeF p s lines i p.length 0 (t,markM p.length t) false=r at *
   have lpa:aload true 2 (.ptr pp 0) (Hc++[AObj.cells (bL (markM p.length t))])=some (.agg [xv,.bool lb]):=by rw [aload_of hpp2];rfl
   have hw4:∀ q ∈ Hc.length :: rowA x11,Hb.length≤q:=fun q hq=>by
    rcases List.mem_cons.1 hq with h | h
    ·omega
    ·exact hb q h
   have hK3:=hK2.base c4 hw4
   have hm3:BlAt H3 oo out:=hm2.kept c4 (by
    simp only [List.mem_cons,not_or]
    exact ⟨by omega,hr2.notrow hm2⟩)
   have hpp3:H3[pp]?=some (.cells [xv,.bool lb]):=c4.get hpp2 (by
    simp only [List.mem_cons,not_or]
    exact ⟨by omega,hr2.notrow hpp2⟩)
   have hwi:IntKind.i64.wrap ((i:Int) - (lo:Int))=((i - lo:Nat):Int):=by rw [wrap64 (by omega) (by omega)];omega
   have hst:=hm3.st hio r.2
   have hset:Kpt [oo] H3 (H3.set oo (.cells (bL (out.set (i - lo) r.2)))):=Kpt.set _ _ (by simp)
   have hK4:=hK3.base hset (fun q hq=>by rw [List.mem_singleton.1 hq];exact hob)
   have hm4:BlAt (H3.set oo (.cells (bL (out.set (i - lo) r.2)))) oo (out.set (i - lo) r.2):=get_set_eq _ hm3
   have hbs:blV oo out=blV oo (out.set (i - lo) r.2):=by simp [blV]
   have hx0:aext (.tuple [x',.bool r.2]) 0=some x':=rfl
   have hx1:aext (.tuple [x',.bool r.2]) 1=some (.bool r.2):=rfl
   simp only [go_sem,hr.nlen,hgt,recapture_finder_reach_J4_eq,lp,lxv,amake_bl p.length hP0 (by omega) Hc,hml,recapture_finder_reach_J6_eq,lpa,c1,hx0,hx1,hwi,bl_idx oo out hio,hst]
   by_cases hit:i=to
   ·have he:((i:Int) == (to:Int))=true:=by simp [hit]
    rw [if_pos hit]
    simp only [he,go_sem,recapture_finder_reach_J3_eq]
    exact ⟨_,rfl,hm4,hK4⟩
   ·have he:((i:Int) == (to:Int))=false:=by simp;omega
    rw [if_neg hit]
    generalize hH4:H3.set oo (.cells (bL (out.set (i - lo) r.2)))=H4 at *
    have hF4:FdAt H4 fo s lines spv:=(hK4.2 fo hfo (by simp)).trans ((hK.2 fo hfo (by simp)).symm.trans hF)
    have hpp4:H4[pp]?=some (.cells [xv,.bool lb]):=hset.get hpp3 (by simp [hpo])
    have lp4:aload false 1 (.ptr pp (0+0)) H4=some xv:=by rw [aload_of hpp4];rfl
    have hoox:oo ∉ rowA x':=c2.notrow hm3
    have hr4:Rw H4 false 1 x' (jV r.1):=c2.kept hset fun a ha hmm=>hoox (by rw [List.mem_singleton.1 hmm] at ha;exact ha)
    -- the byte
    obtain ⟨ci,hci,hcl2,hmin⟩:∃ ci,(if bw=true then i - 1 else i)=ci∧ci < s.length∧min (i:Int) (IntKind.i64.wrap ((i:Int)+(if bw=true then -1 else 1)))=(ci:Int):=by
     cases bw with
     | true =>
      simp only [if_true] at hdir ⊢
      refine ⟨i - 1,rfl,by omega,?_⟩
      rw [wrap64 (by omega) (by omega)]
      omega
     | false =>
      simp only [Bool.false_eq_true,if_false] at hdir ⊢
      refine ⟨i,rfl,by omega,?_⟩
      rw [wrap64 (by omega) (by omega)]
      omega
    have hnx:IntKind.i64.wrap ((i:Int)+(if bw=true then -1 else 1))=(nxt bw i:Int):=by
     unfold nxt
     cases bw with
     | true =>
      simp only [if_true] at hdir ⊢
      rw [wrap64 (by omega) (by omega)]
      omega
     | false =>
      simp only [Bool.false_eq_true,if_false] at hdir ⊢
      rw [wrap64 (by omega) (by omega)]
      omega
    rw [hnx] at hmin
    -- the step
    have hr5:Rw (H4++[AObj.cells (bL (List.replicate p.length false))]) false 1 x' (jV r.1):=hr4.kept (Kpt.push [] _ _) (by simp)
    have hm5:BlAt (H4++[AObj.cells (bL (List.replicate p.length false))]) H4.length (List.replicate p.length false):=get_push_len H4 _ []
    have hpl4:pp < H4.length:=lt_of_get hpp4
    have hol4:oo < H4.length:=lt_of_get hm4
    obtain ⟨x6,H6,n1,n2,n3,n4⟩:=next_loop (x0:=.ptr fo 0) (x3:=.int .i64 (to:Int)) (x9:=.int .i64 (lo:Int)) (x10:=blV oo out) (x12:=.int .i64 (if bw=true then -1 else 1)) (x13:=.int .i64 (i:Int)) (c:=s.getD ci 0) (lb:=lb) (pp:=pp) (ao:=H4.length) hP hW hc (by omega) c3 (by omega) hr5 (by simp) (get_push hpp4 _) (hr5.notrow hm5) H0 r.1.length 0 [] (List.replicate p.length false) .nils _ rfl (by omega) ⟨by simp,by simp,by simp⟩ hm5 (.inl ⟨rfl,rfl⟩) (Kpt.refl _ _) (fun q hq=>by cases hq)
    rw [List.drop_zero] at n2
    rw [i0] at n1
    have hnm:(r.1.foldl (nextS p (s.getD ci 0)) ([],List.replicate p.length false)).1=nextM p (s.getD ci 0) r.1:=rfl
    rw [hnm] at n2
    have hKp:Kpt [] Hb (H4++[AObj.cells (bL (List.replicate p.length false))]):=hK4.trans (Kpt.push _ _ _)
    have hK6:=hKp.base n3 (fun q hq=>by rw [List.mem_singleton.1 hq];exact hK4.1)
    have hlenp:H4.length≤(H4++[AObj.cells (bL (List.replicate p.length false))]).length:=by simp
    obtain ⟨t1,t2⟩:=next_th (p:=p) (s.getD ci 0) r.1
    have t3:(nextM p (s.getD ci 0) r.1).length≤5000:=by
     have:=(mark_ok t1 t2).le
     omega
    have hF6:FdAt H6 fo s lines spv:=(hK6.2 fo hfo (by simp)).trans ((hK.2 fo hfo (by simp)).symm.trans hF)
    obtain ⟨H7,u1,u2,u3⟩:=ih (nxt bw i) (nextM p (s.getD ci 0) r.1) (out.set (i - lo) r.2) x6 H6 (by
     unfold nxt
     cases bw with
     | true=>simp only [if_true] at hf hdir ⊢;omega
     | false=>simp only [Bool.false_eq_true,if_false] at hf hdir ⊢;omega) (by
     unfold nxt
     cases bw with
     | true=>simp only [if_true] at hdir ⊢;omega
     | false=>simp only [Bool.false_eq_true,if_false] at hdir ⊢;omega) (by
     unfold nxt
     cases bw with
     | true=>simp only [if_true] at hdir ⊢;omega
     | false=>simp only [Bool.false_eq_true,if_false] at hdir ⊢;omega) (by
     unfold nxt
     cases bw with
     | true=>simp only [if_true] at hdir ⊢;omega
     | false=>simp only [Bool.false_eq_true,if_false] at hdir ⊢;omega) (by
     rw [List.length_set]
     unfold nxt
     cases bw with
     | true=>simp only [if_true] at hdir ⊢;omega
     | false=>simp only [Bool.false_eq_true,if_false] at hdir ⊢;omega) (by simpa using hto') t1 t2 t3 hF6 (n3.get (get_push hpp4 _) (by simp;omega)) (n3.get (get_push hm4 _) (by simp;omega)) n2 hK6 (fun q hq=>by have:=n4 q hq;have:=hK4.1;omega)
    rw [← hbs] at u1
    simp only [he,go_sem,recapture_finder_reach_J7_eq,hF4.ldS,hmin,aix hcl2,lp4,lxv,amake_bl p.length hP0 (by omega) H4,hr4.nlen,n1,recapture_finder_reach_J5_eq,hnx,u1,hci]
    exact ⟨H7,rfl,u2,u3⟩
end
end Go.Am
namespace Go.Am
set_option linter.unusedSimpArgs false
set_option linter.unusedVariables false
set_option maxRecDepth 100000

def reachM (p:List In) (s:List UInt8) (lines:Bool) (fr to:Nat):List Bool :=
 if p.length=0 then List.replicate (max fr to - min fr to+1) false
 else reachF p s lines (decide (to < fr)) (min fr to) to (max fr to - min fr to+1) fr [0] (List.replicate (max fr to - min fr to+1) false)
theorem reachM_len (p:List In) (s:List UInt8) (lines:Bool) (fr to:Nat):(reachM p s lines fr to).length=max fr to - min fr to+1:=by
 unfold reachM
 split
 ·simp
 ·rw [reachF_len];simp
theorem reach_run {p : List In} {fo : Nat} {s : List UInt8} {lines : Bool} {spv xv : AV} {lb : Bool} (hP : p.length ≤ 5000) (hW : PW p) (hc : SlC 7 xv (p.map inV)) (hs : s.length ≤ 3000000) {fr to : Nat} (hf : fr ≤ s.length) (ht : to ≤ s.length) {H : Hp} (hF : FdAt H fo s lines spv) :
    ∃ oo H',C_recapture_finder_reach [.ptr fo 0,.agg [xv,.bool lb],.int .i64 (fr:Int),.int .i64 (to:Int)] H=some (blV oo (reachM p s lines fr to),H')∧BlAt H' oo (reachM p s lines fr to)∧Kpt [] H H'∧H.length≤oo:=by
 have hfl:=lt_of_get hF
 have hb:abox (.agg [xv,.bool lb]) H=some (.ptr H.length 0,H++[.cells [xv,.bool lb]]):=rfl
 have hmin:min (fr:Int) (to:Int)=((min fr to:Nat):Int):=by omega
 have hmax:max (fr:Int) (to:Int)=((max fr to:Nat):Int):=by omega
 have hw1:IntKind.i64.wrap (((max fr to:Nat):Int) - ((min fr to:Nat):Int))=((max fr to - min fr to:Nat):Int):=by rw [wrap64 (by omega) (by omega)];omega
 have hw2:IntKind.i64.wrap (((max fr to - min fr to:Nat):Int)+1)=((max fr to - min fr to+1:Nat):Int):=by rw [wrap64 (by omega) (by omega)];omega
 obtain ⟨W,hW'⟩:∃ W:Hp,W=(H++[AObj.cells [xv,.bool lb]])++[.cells (bL (List.replicate (max fr to - min fr to+1) false))]:=⟨_,rfl⟩
 have hl1:(H++[AObj.cells [xv,.bool lb]]).length=H.length+1:=by simp
 have ham:=amake_bl (max fr to - min fr to+1) (by omega) (by omega) (H++[AObj.cells [xv,.bool lb]])
 rw [hl1,← hW'] at ham
 have hpp:W[H.length]?=some (.cells [xv,.bool lb]):=by rw [hW'];simp
 have hoo:BlAt W (H.length+1) (List.replicate (max fr to - min fr to+1) false):=by rw [hW'];unfold BlAt;simp
 have hFW:FdAt W fo s lines spv:=by rw [hW'];exact get_push (get_push hF _) _
 have hKW:Kpt [] H W:=by rw [hW'];exact (Kpt.push _ _ _).trans (Kpt.push _ _ _)
 have lp:aload false 1 (.ptr H.length (0+0)) W=some xv:=by rw [aload_of hpp];rfl
 have lxv:alenD (.slice 76) xv=some (.int .i64 (p.length:Int)):=by rw [hc.len,List.length_map]
 rw [F_recapture_finder_reach_eq]
 unfold F_recapture_finder_reach reachM
 simp only [hb,bnd_some,amin2_eq,amax2_eq,hmin,hmax,ibin_sub,hw1,ibin_add,hw2,ham,afield_ptr,lp,lxv,ibin_eql]
 by_cases h0:p.length=0
 ·have e0:((p.length:Int) == 0)=true:=by simp [h0]
  rw [if_pos h0]
  simp only [e0,cnd_t]
  exact ⟨H.length+1,W,rfl,hoo,hKW,by omega⟩
 ·have e0:((p.length:Int) == 0)=false:=by rw [beq_eq_false_iff_ne];omega
  rw [if_neg h0]
  have e1:((setElems 1 [(0,(.int .i64 0))] [(.int .i64 0)]).map (AV.vs 1 .clip))=some (.vs 1 .clip [.int .i64 0]):=rfl
  have hr0:Rw W false 1 (.vs 1 .clip [.int .i64 0]) (jV [0]):=.inr (.inl rfl)
  have key:=reach_loop (p:=p) (fo:=fo) (s:=s) (lines:=lines) (spv:=spv) (xv:=xv) (lb:=lb) (pp:=H.length) (oo:=H.length+1) (Hb:=H) hP (by omega) hW hc (by omega) (decide (to < fr)) (lo:=min fr to) (to:=to) ht (by omega) hfl (by omega) (by omega) (by omega) H
   (max fr to - min fr to+1) fr [0] (List.replicate (max fr to - min fr to+1) false) (.vs 1 .clip [.int .i64 0]) W
   (by by_cases h:to < fr <;> simp only [h,decide_true,decide_false,if_true,if_false,Bool.false_eq_true] <;> omega) (by by_cases h:to < fr <;> simp only [h,decide_true,decide_false,if_true,if_false,Bool.false_eq_true] <;> omega) hf (by omega) (by simp;omega) (by simp;omega) (by simp) (by simp;omega) (by simp) hFW hpp hoo hr0 hKW (fun q hq=>by cases hq)
  obtain ⟨H',r1,r2,r3⟩:=key
  have hlen:=reachF_len p s lines (decide (to < fr)) (min fr to) to (max fr to - min fr to+1) fr [0] (List.replicate (max fr to - min fr to+1) false)
  have hbs:blV (H.length+1) (List.replicate (max fr to - min fr to+1) false)=blV (H.length+1) (reachF p s lines (decide (to < fr)) (min fr to) to (max fr to - min fr to+1) fr [0] (List.replicate (max fr to - min fr to+1) false)):=by simp [blV,hlen]
  by_cases h:to < fr
  ·have e2:decide ((to:Int) < (fr:Int))=true:=decide_eq_true (by omega)
   have e3:(if decide (to < fr)=true then (-1:Int) else 1)=-1:=by simp [h]
   rw [e3] at r1
   simp only [e0,cnd_f,recapture_finder_reach_J1_eq,e1,bnd_some,ibin_lss,e2,cnd_t,recapture_finder_reach_J2_eq,r1]
   exact ⟨H.length+1,H',by rw [← hbs],r2,r3,by omega⟩
  ·have e2:decide ((to:Int) < (fr:Int))=false:=decide_eq_false (by omega)
   have e3:(if decide (to < fr)=true then (-1:Int) else 1)=1:=by simp [h]
   rw [e3] at r1
   simp only [e0,cnd_f,recapture_finder_reach_J1_eq,e1,bnd_some,ibin_lss,e2,recapture_finder_reach_J2_eq,r1]
   exact ⟨H.length+1,H',by rw [← hbs],r2,r3,by omega⟩
def GI (anch:Bool) (i:In):Prop:=0≤i.x∧0≤i.y∧(i.op=1 ∨ i.op=2 ∨ i.op=3 ∨ anch=true∧(i.op=4 ∨ i.op=5))
def GL (anch:Bool) (c:List In):Prop:=∀ i ∈ c,GI anch i
mutual
def ancM:Rt→Bool
 | .mk h args=>(h.op == 7 || h.op == 8) || ancL args
def ancL:List Rt→Bool
 | []=>false
 | e :: l=>ancM e || ancL l
end
theorem ancM_eq (h:Hd) (args:List Rt):ancM (.mk h args)=((h.op == 7 || h.op == 8) || ancL args):=by rw [ancM]
theorem ancL_cons (e:Rt) (l:List Rt):ancL (e :: l)=(ancM e || ancL l):=by rw [ancL]
theorem ancL_nil:ancL []=false:=by rw [ancL]
theorem ancL_iff:∀ {l:List Rt},ancL l=false ↔ ∀ e ∈ l,ancM e=false
 | []=>by rw [ancL_nil];simp
 | e :: l=>by rw [ancL_cons,Bool.or_eq_false_iff,ancL_iff (l:=l)];simp
section
variable {anch:Bool}
theorem GL.add {i:In} {s:Bs} (h:GL anch s.1) (hi:GI anch i):GL anch (addB i s).1:=by
 unfold addB
 split
 ·exact h
 ·intro j hj
  rcases List.mem_append.1 hj with hj | hj
  ·exact h j hj
  ·rw [List.mem_singleton.1 hj];exact hi
theorem modify_mem {α:Type} {f:α→α} {a:α}:∀ {l:List α} {k:Nat},a ∈ l.modify k f→a ∈ l ∨ ∃ b ∈ l,a=f b
 | [],k,h=>by simp at h
 | b :: l,0,h=>by
  simp at h
  rcases h with h | h
  ·exact .inr ⟨b,by simp,h⟩
  ·exact .inl (by simp [h])
 | b :: l,k+1,h=>by
  simp at h
  rcases h with h | h
  ·exact .inl (by simp [h])
  ·rcases modify_mem h with h | ⟨c,h1,h2⟩
   ·exact .inl (by simp [h])
   ·exact .inr ⟨c,by simp [h1],h2⟩
theorem GL.setX {c:List In} (h:GL anch c) (k n:Nat):GL anch (Go.Am.setX c k (n:Int)):=by
 intro i hi
 rcases modify_mem hi with hi | ⟨b,h1,rfl⟩
 ·exact h i hi
 ·have:=h b h1
  exact ⟨by show (0:Int)≤(n:Int);omega,this.2.1,this.2.2⟩
theorem GL.setY {c:List In} (h:GL anch c) (k n:Nat):GL anch (Go.Am.setY c k (n:Int)):=by
 intro i hi
 rcases modify_mem hi with hi | ⟨b,h1,rfl⟩
 ·exact h i hi
 ·have:=h b h1
  exact ⟨this.1,by show (0:Int)≤(n:Int);omega,this.2.2⟩
theorem GL.split {s:Bs} (h:GL anch s.1):GL anch (splitB s).1:=(h.add (i:=opI 2) ⟨by decide,by decide,.inr (.inl rfl)⟩).setX _ _
theorem GL.patch:∀ (l:List Nat) {c:List In},GL anch c→GL anch (patchB l c)
 | [],_,h=>h
 | k :: l,c,h=>GL.patch l (h.setX k c.length)
theorem tree_gl (e:Rt) (ha:anch=true ∨ ancM e=false):∀ s:Bs,GL anch s.1→GL anch (treeB e s).1:=by
 induction e using Rt.ind with
 | h hd args ih =>
  have hk:∀ e ∈ args,∀ s:Bs,GL anch s.1→GL anch (treeB e s).1:=fun e he=>ih e he (ha.imp id fun h=>by
   rw [ancM_eq,Bool.or_eq_false_iff] at h
   exact ancL_iff.1 h.2 e he)
  have hA:hd.op=7 ∨ hd.op=8→anch=true:=fun h=>by
   rcases ha with ha | ha
   ·exact ha
   ·rw [ancM_eq,Bool.or_eq_false_iff,Bool.or_eq_false_iff] at ha
    simp at ha
    omega
  have hhead:∀ s:Bs,GL anch s.1→GL anch (headB args s).1:=by
   intro s h
   cases args with
   | nil=>rw [headB];exact h
   | cons e l=>rw [headB_cons];exact hk e (by simp) s h
  have hseq:∀ (l:List Rt),(∀ e ∈ l,∀ s:Bs,GL anch s.1→GL anch (treeB e s).1)→∀ s:Bs,GL anch s.1→GL anch (seqB l s).1:=by
   intro l
   induction l with
   | nil=>intro _ s h;rw [seqB_nil];exact h
   | cons e l ihl=>intro h s hs;rw [seqB_cons];exact ihl (fun x hx=>h x (by simp [hx])) _ (h e (by simp) s hs)
  have halt:∀ (l:List Rt),(∀ e ∈ l,∀ s:Bs,GL anch s.1→GL anch (treeB e s).1)→∀ (js:List Nat) (s:Bs),GL anch s.1→GL anch (altB l js s).1:=by
   intro l
   induction l with
   | nil=>intro _ js s h;rw [altB_nil];exact h.patch js
   | cons e l ihl =>
    intro h js s hs
    cases l with
    | nil=>rw [altB_one];exact (h e (by simp) s hs).patch js
    | cons f m =>
     rw [altB_cons]
     exact ihl (fun x hx=>h x (by simp [hx])) _ _ (((h e (by simp) _ hs.split).add (i:=opI 3) ⟨by decide,by decide,.inr (.inr (.inl rfl))⟩).setY _ _)
  intro s hs
  rw [treeB_eq]
  split
  ·exact hs
  split
  ·exact hs.add ⟨Int.le_refl 0,Int.le_refl 0,.inl rfl⟩
  split
  ·rename_i h7
   exact hs.add ⟨by decide,by decide,.inr (.inr (.inr ⟨hA (.inl h7),.inl rfl⟩))⟩
  split
  ·rename_i h8
   exact hs.add ⟨by decide,by decide,.inr (.inr (.inr ⟨hA (.inr h8),.inr rfl⟩))⟩
  split
  ·exact halt args hk _ _ hs
  split
  ·split
   ·exact ((hhead s hs).add (i:={ opI 2 with x:=(s.1.length:Int) }) ⟨by show (0:Int)≤(s.1.length:Int);omega,Int.le_refl 0,.inr (.inl rfl)⟩).setY _ _
   ·have h1:=hhead _ hs.split
    refine GL.setY ?_ _ _
    split
    ·exact h1.add (i:={ opI 3 with x:=(addK s:Int) }) ⟨by show (0:Int)≤(addK s:Int);omega,Int.le_refl 0,.inr (.inr (.inl rfl))⟩
    ·exact h1
  ·exact hseq args hk s hs
end
theorem treeB_le (e:Rt):∀ s:Bs,s.1.length≤4096→(treeB e s).1.length≤4096:=by
 induction e using Rt.ind with
 | h hd args ih =>
  have hadd:∀ (i:In) (s:Bs),s.1.length≤4096→(addB i s).1.length≤4096:=fun i s h=>by unfold addB;split <;> simp <;> omega
  have hspl:∀ (s:Bs),s.1.length≤4096→(splitB s).1.length≤4096:=fun s h=>by unfold splitB;rw [setX_len];exact hadd _ _ h
  have hhead:∀ s:Bs,s.1.length≤4096→(headB args s).1.length≤4096:=by
   intro s h
   cases args with
   | nil=>rw [headB];exact h
   | cons e l=>rw [headB_cons];exact ih e (by simp) s h
  have hseq:∀ (l:List Rt),(∀ e ∈ l,∀ s:Bs,s.1.length≤4096→(treeB e s).1.length≤4096)→∀ s:Bs,s.1.length≤4096→(seqB l s).1.length≤4096:=by
   intro l
   induction l with
   | nil=>intro _ s h;rw [seqB_nil];exact h
   | cons e l ihl=>intro h s hs;rw [seqB_cons];exact ihl (fun x hx=>h x (by simp [hx])) _ (h e (by simp) s hs)
  have halt:∀ (l:List Rt),(∀ e ∈ l,∀ s:Bs,s.1.length≤4096→(treeB e s).1.length≤4096)→∀ (js:List Nat) (s:Bs),s.1.length≤4096→(altB l js s).1.length≤4096:=by
   intro l
   induction l with
   | nil=>intro _ js s h;rw [altB_nil,patchB_len];exact h
   | cons e l ihl =>
    intro h js s hs
    cases l with
    | nil=>rw [altB_one,patchB_len];exact h e (by simp) s hs
    | cons f m =>
     rw [altB_cons]
     refine ihl (fun x hx=>h x (by simp [hx])) _ _ ?_
     rw [setY_len]
     exact hadd _ _ (h e (by simp) _ (hspl _ hs))
  intro s hs
  rw [treeB_eq]
  split
  ·exact hs
  split
  ·exact hadd _ _ hs
  split
  ·exact hadd _ _ hs
  split
  ·exact hadd _ _ hs
  split
  ·exact halt args ih _ _ hs
  split
  ·split
   ·simp only [setY_len]
    exact hadd _ _ (hhead s hs)
   ·simp only [setY_len]
    have h1:=hhead _ (hspl _ hs)
    split
    ·exact hadd _ _ h1
    ·exact h1
  ·exact hseq args ih s hs
theorem comp_shape (e:Rt) {anch:Bool} (ha:anch=true ∨ ancM (expM e)=false):(compM e).1=[] ∨ ∃ c,(compM e).1=c++[opI 6]∧GL anch c∧c.length≤4095:=by
 unfold compM
 split
 ·exact .inl rfl
 split
 ·exact .inl rfl
 split
 ·exact .inl rfl
 split
 ·exact .inl rfl
 ·rename_i hov
  have hov:(progR e).2=false:=by simpa using hov
  have hg:=tree_gl (anch:=anch) (expM e) ha ([],false) (by intro i hi;simp at hi)
  have hl:=treeB_le (expM e) ([],false) (by simp)
  show (progR e).1=[] ∨ _
  unfold progR addB at hov ⊢
  by_cases h:4096≤(treeB (expM e) ([],false)).1.length
  ·rw [if_pos h] at hov
   cases hov
  ·rw [if_neg h]
   exact .inr ⟨_,rfl,hg,by omega⟩
theorem comp_pw (e:Rt):PW (compM e).1∧(compM e).1.length≤5000:=by
 rcases comp_shape e (anch:=true) (.inl rfl) with h | ⟨c,h,hg,hl⟩
 ·rw [h]
  exact ⟨fun k i hk=>by simp at hk,by simp⟩
 ·rw [h]
  refine ⟨fun k i hk=>?_,by simp;omega⟩
  have hlt:=(List.getElem?_eq_some_iff.1 hk).1
  rcases Nat.lt_or_ge k c.length with hc | hc
  ·rw [List.getElem?_append_left hc] at hk
   obtain ⟨a1,a2,a3⟩:=hg i (List.mem_of_getElem? hk)
   exact ⟨a1,a2,fun _=>by simp;omega⟩
  ·rw [List.getElem?_append_right hc] at hk
   have hz:k - c.length=0:=by simp at hlt;omega
   rw [hz] at hk
   simp at hk
   subst hk
   exact ⟨by decide,by decide,fun hh=>by cases hh⟩
end Go.Am
namespace Go.Am
set_option linter.unusedSimpArgs false
set_option linter.unusedVariables false
set_option maxRecDepth 100000

theorem sizL_map_le {f:Rt→Rt}:∀ {l:List Rt},(∀ e ∈ l,siz (f e)≤siz e)→sizL (l.map f)≤sizL l
 | [],_=>by simp [sizL]
 | e :: l,h=>by
  have h1:=h e (by simp)
  have h2:=sizL_map_le (f:=f) (l:=l) fun x hx=>h x (by simp [hx])
  rw [List.map_cons,sizL_cons,sizL_cons];omega
theorem siz_eq (h:Hd) (args:List Rt):siz (.mk h args)=sizL args+1:=by rw [siz]
theorem bareM_eq (h:Hd) (args:List Rt):bareM (.mk h args)=if h.op=6 then (args.map bareM).headD (.mk h []) else .mk h (args.map bareM):=by rw [bareM,bareL_eq]
theorem siz_bare (e:Rt):siz (bareM e)≤siz e:=by
 induction e using Rt.ind with
 | h hd args ih =>
  rw [bareM_eq,siz_eq]
  split
  ·cases args with
   | nil=>simp [siz,sizL]
   | cons e l =>
    simp only [List.map_cons,List.headD_cons]
    have:=ih e (by simp)
    rw [sizL_cons];omega
  ·rw [siz_eq]
   have:=sizL_map_le (f:=bareM) (l:=args) ih
   omega
theorem sizL_perm_rev:∀ l:List Rt,sizL l.reverse=sizL l
 | []=>rfl
 | e :: l=>by rw [List.reverse_cons,sizL_app,sizL_perm_rev l,sizL_cons,sizL_cons];simp [sizL];omega
theorem sizL_ord (h:Hd) (l:List Rt):sizL (ordL h l)=sizL l:=by
 unfold ordL
 split
 ·exact sizL_perm_rev l
 ·rfl
theorem siz_rev (e:Rt):siz (revM e)≤siz e:=by
 induction e using Rt.ind with
 | h hd args ih =>
  rw [revM_eq,siz_eq,siz_eq]
  have:=sizL_map_le (f:=revM) (l:=ordL hd args) fun e he=>ih e (ordL_mem.1 he)
  rw [sizL_ord] at this
  omega
theorem siz_join (l:List Rt):siz (joinM l)≤sizL l+1:=by
 match l with
 | []=>simp [joinM,siz,sizL]
 | [e]=>simp [joinM,sizL]
 | e :: f :: l=>simp [joinM,siz]
def remM (e:Rt) (c:Nat):Rt:=.mk (rpHd (max (e.hd.lo - (c:Int) - 1) 0) (if 0 < e.hd.hi then e.hd.hi - (c:Int) - 1 else e.hd.hi)) (bareM e).args
def restT (e:Rt) (k:Nat):Rt:=if e.hd.op=3 then joinM ((bareM e).args.drop (k+1)) else remM e k
structure OkE (e:Rt):Prop where
 sh:shM e=true
 rp:rpM e=true
 siz:siz e≤600
 dep:dep e≤32
theorem OkE.arg {h:Hd} {args:List Rt} (hk:OkE (.mk h args)):∀ e ∈ args,OkE e:=fun e he=>by
 obtain ⟨i,hi⟩:=List.getElem?_of_mem he
 have h1:=siz_arg hi
 have h2:=dep_arg hi
 have h3:=hk.siz
 have h4:=hk.dep
 have h5:=hk.rp
 rw [siz_eq] at h3
 rw [dep_eq] at h4
 rw [rpM_eq,Bool.and_eq_true] at h5
 exact ⟨(shM_args hk.sh).2 e he,rpL_mem h5.2 e he,by omega,by omega⟩
theorem bare_args (e:Rt):dep (.mk (opH 3) (bareM e).args)≤dep e∧sizL (bareM e).args+1≤siz e:=by
 have h1:=dep_bare e
 have h2:=siz_bare e
 rw [Rt.eta (bareM e),dep_eq] at h1
 rw [Rt.eta (bareM e),siz_eq] at h2
 rw [dep_eq]
 exact ⟨h1,h2⟩
theorem rest_bd {e:Rt} (hk:OkE e) (k:Nat):dep (restT e k)≤33∧siz (restT e k)≤601:=by
 obtain ⟨b1,b2⟩:=bare_args e
 rw [dep_eq] at b1
 have h1:=hk.siz
 have h2:=hk.dep
 unfold restT
 split
 ·have d1:=dep_join ((bareM e).args.drop (k+1))
  have d2:=siz_join ((bareM e).args.drop (k+1))
  have d3:=depL_drop (bareM e).args (k+1)
  have d4:=sizL_drop (bareM e).args (k+1)
  omega
 ·unfold remM
  rw [dep_eq,siz_eq]
  omega
def progF (e:Rt):List In:=(compM (bareM e)).1
def progS (e:Rt) (k:Nat):List In:=(compM (revM (restT e k))).1
structure Tb where
 nd:Nat→Option Rt
 mp:Nat→Option Rt
 fw:Nat→Option Rt
def ndC (h:Hd) (x:AV) (hp:Hd) (xp xa fv rv:AV):List AV:=reC h x++(reC hp xp++[xa,fv,rv])
def ChOk (T:Tb) (xa:AV) (args:List Rt):Prop:=∃ l,(xa=.nils∧l=[] ∨ ∃ t,xa=.vs 1 t l)∧l.length=args.length∧∀ (i:Nat) (e:Rt),args[i]?=some e→∃ c,l[i]?=some (.ptr c 0)∧T.nd c=some e
def NdAt (H:Hp) (T:Tb) (o:Nat) (e:Rt):Prop:=∃ x xp xa fv om,H[o]?=some (.cells (ndC e.hd x (bareM e).hd xp xa fv (.map om)))∧RtC e (reV e.hd x)∧RtC (bareM e) (reV (bareM e).hd xp)∧ChOk T xa e.args ∧
 (fv=.nilp ∨ ∃ q,fv=.ptr q 0∧T.fw q=some e)∧T.mp om=some e
def PrV (c:List In) (v:AV):Prop:=∃ x b,v=.agg [x,.bool b]∧SlC 7 x (c.map inV)
def MpAt (H:Hp) (om:Nat) (e:Rt):Prop:=∃ es k,H[om]?=some (.map es k)∧∀ en ∈ es,∃ key:Nat,en.1=.int .i64 (key:Int)∧PrV (progS e key) en.2.1
def FwAt (H:Hp) (q:Nat) (e:Rt):Prop:=∃ x b,H[q]?=some (.cells [x,.bool b])∧SlC 7 x ((progF e).map inV)
structure InvT (H:Hp) (T:Tb):Prop where
 nd:∀ o e,T.nd o=some e→NdAt H T o e∧OkE e
 mp:∀ om e,T.mp om=some e→MpAt H om e
 fw:∀ q e,T.fw q=some e→FwAt H q e
structure Sf (W:List Nat) (H:Hp) (T:Tb) (H':Hp) (T':Tb):Prop where
 nd:T'.nd=T.nd
 mp:T'.mp=T.mp
 inv:InvT H' T'
 len:H.length≤H'.length
 kept:∀ i,i < H.length→i ∉ W→T.nd i=none→T.mp i=none→H'[i]?=H[i]?
theorem Sf.refl {W:List Nat} {H:Hp} {T:Tb} (h:InvT H T):Sf W H T H T:=⟨rfl,rfl,h,Nat.le_refl _,fun _ _ _ _ _=>rfl⟩
theorem Sf.trans {W:List Nat} {H H' H'':Hp} {T T' T'':Tb} (h:Sf W H T H' T') (h':Sf W H' T' H'' T''):Sf W H T H'' T'' :=
 ⟨h'.nd.trans h.nd,h'.mp.trans h.mp,h'.inv,Nat.le_trans h.len h'.len,fun i hi hn h1 h2=>(h'.kept i (Nat.lt_of_lt_of_le hi h.len) hn (by rw [h.nd];exact h1) (by rw [h.mp];exact h2)).trans (h.kept i hi hn h1 h2)⟩
theorem Sf.get {W:List Nat} {H H':Hp} {T T':Tb} (h:Sf W H T H' T') {i:Nat} {x:AObj} (hx:H[i]?=some x) (hn:i ∉ W) (h1:T.nd i=none) (h2:T.mp i=none):H'[i]?=some x:=(h.kept i (lt_of_get hx) hn h1 h2).trans hx
theorem Sf.weak {W W':List Nat} {H H':Hp} {T T':Tb} (h:Sf W H T H' T') (hw:∀ i ∈ W,i < H.length→i ∈ W'):Sf W' H T H' T':=⟨h.nd,h.mp,h.inv,h.len,fun i hi hn=>h.kept i hi fun hc=>hn (hw i hc hi)⟩
def OutT (T:Tb) (W:List Nat):Prop:=∀ i ∈ W,T.nd i=none∧T.mp i=none∧T.fw i=none
theorem InvT.kept {H H':Hp} {T:Tb} {W:List Nat} (h:InvT H T) (hk:Kpt W H H') (hw:OutT T W):InvT H' T:=by
 refine ⟨fun o e ho=>⟨?_,(h.nd o e ho).2⟩,fun om e ho=>?_,fun q e ho=>?_⟩
 ·obtain ⟨x,xp,xa,fv,om,h1,h2⟩:=(h.nd o e ho).1
  exact ⟨x,xp,xa,fv,om,hk.get h1 (fun hm=>by have:=(hw o hm).1;rw [ho] at this;cases this),h2⟩
 ·obtain ⟨es,k,h1,h2⟩:=h.mp om e ho
  exact ⟨es,k,hk.get h1 (fun hm=>by have:=(hw om hm).2.1;rw [ho] at this;cases this),h2⟩
 ·obtain ⟨x,b,h1,h2⟩:=h.fw q e ho
  exact ⟨x,b,hk.get h1 (fun hm=>by have:=(hw q hm).2.2;rw [ho] at this;cases this),h2⟩
theorem Sf.of_kpt {H H':Hp} {T:Tb} {W:List Nat} (h:InvT H T) (hk:Kpt W H H') (hw:OutT T W):Sf W H T H' T:=⟨rfl,rfl,h.kept hk hw,hk.1,fun i hi hn _ _=>hk.2 i hi hn⟩
theorem InvT.lt_nd {H:Hp} {T:Tb} (h:InvT H T) {o:Nat} {e:Rt} (ho:T.nd o=some e):o < H.length:=by
 obtain ⟨x,xp,xa,fv,om,h1,_⟩:=(h.nd o e ho).1
 exact lt_of_get h1
theorem InvT.lt_mp {H:Hp} {T:Tb} (h:InvT H T) {o:Nat} {e:Rt} (ho:T.mp o=some e):o < H.length:=by
 obtain ⟨es,k,h1,_⟩:=h.mp o e ho
 exact lt_of_get h1
theorem InvT.lt_fw {H:Hp} {T:Tb} (h:InvT H T) {o:Nat} {e:Rt} (ho:T.fw o=some e):o < H.length:=by
 obtain ⟨x,b,h1,_⟩:=h.fw o e ho
 exact lt_of_get h1
theorem InvT.new {H:Hp} {T:Tb} (h:InvT H T) {q:Nat} (hq:H.length≤q):T.nd q=none∧T.mp q=none∧T.fw q=none:=by
 refine ⟨?_,?_,?_⟩
 ·cases he:T.nd q with
  | none=>rfl
  | some e=>have:=h.lt_nd he;omega
 ·cases he:T.mp q with
  | none=>rfl
  | some e=>have:=h.lt_mp he;omega
 ·cases he:T.fw q with
  | none=>rfl
  | some e=>have:=h.lt_fw he;omega
section
variable {H:Hp} {o:Nat} {h hp:Hd} {x xp xa fv rv:AV}
theorem nd_op (hh:H[o]?=some (.cells (ndC h x hp xp xa fv rv))):aload false 1 (.ptr o (0+0+0)) H=some (.int .i64 h.op):=by rw [aload_of hh];rfl
theorem nd_lo (hh:H[o]?=some (.cells (ndC h x hp xp xa fv rv))):aload false 1 (.ptr o (0+0+5)) H=some (.int .i64 h.lo):=by rw [aload_of hh];rfl
theorem nd_hi (hh:H[o]?=some (.cells (ndC h x hp xp xa fv rv))):aload false 1 (.ptr o (0+0+6)) H=some (.int .i64 h.hi):=by rw [aload_of hh];rfl
theorem nd_g (hh:H[o]?=some (.cells (ndC h x hp xp xa fv rv))):aload false 1 (.ptr o (0+0+7)) H=some (.int .i64 h.g):=by rw [aload_of hh];rfl
theorem nd_e (hh:H[o]?=some (.cells (ndC h x hp xp xa fv rv))):aload true 9 (.ptr o (0+0)) H=some (reV h x):=by rw [aload_of hh];rfl
theorem nd_plain (hh:H[o]?=some (.cells (ndC h x hp xp xa fv rv))):aload true 9 (.ptr o (0+9)) H=some (reV hp xp):=by rw [aload_of hh];rfl
theorem nd_pargs (hh:H[o]?=some (.cells (ndC h x hp xp xa fv rv))):aload false 1 (.ptr o (0+9+8)) H=some xp:=by rw [aload_of hh];rfl
theorem nd_args (hh:H[o]?=some (.cells (ndC h x hp xp xa fv rv))):aload false 1 (.ptr o (0+18)) H=some xa:=by rw [aload_of hh];rfl
theorem nd_fw (hh:H[o]?=some (.cells (ndC h x hp xp xa fv rv))):aload false 1 (.ptr o (0+19)) H=some fv:=by rw [aload_of hh];rfl
theorem nd_rest (hh:H[o]?=some (.cells (ndC h x hp xp xa fv rv))):aload false 1 (.ptr o (0+20)) H=some rv:=by rw [aload_of hh];rfl
end
theorem ChOk.len {T:Tb} {xa:AV} {args:List Rt} (h:ChOk T xa args) (t:Nat):alenD (.slice t) xa=some (.int .i64 (args.length:Int)):=by
 obtain ⟨l,h1,h2,_⟩:=h
 rw [← h2]
 rcases h1 with ⟨rfl,rfl⟩ | ⟨tk,rfl⟩ <;> rfl
theorem ChOk.idx {T:Tb} {xa:AV} {args:List Rt} (h:ChOk T xa args) {i:Nat} {e:Rt} (hi:args[i]?=some e):∃ c,aindexS 1 xa (.int .i64 (i:Int))=some (.vp [.ptr c 0])∧T.nd c=some e:=by
 obtain ⟨l,h1,h2,h3⟩:=h
 obtain ⟨c,h4,h5⟩:=h3 i e hi
 refine ⟨c,?_,h5⟩
 rcases h1 with ⟨rfl,rfl⟩ | ⟨tk,rfl⟩
 ·simp at h4
 ·unfold aindexS
  dsimp only
  rw [if_pos ⟨rfl,by omega⟩,Int.toNat_natCast,h4]
  rfl
theorem ld_vp1 (c:Nat) (H:Hp):aload false 1 (.vp [.ptr c 0]) H=some (.ptr c 0):=rfl
theorem findK_int (k:Int):∀ (es:List (AV × AV × Nat)) (i:Nat),(∀ en ∈ es,∃ n:Int,en.1=.int .i64 n)→findK (.int .i64 k) es i=some none ∨ ∃ j v n,findK (.int .i64 k) es i=some (some (i+j,v))∧es[j]?=some (.int .i64 k,v,n)
 | [],i,_=>.inl rfl
 | en :: es,i,h=>by
  obtain ⟨n,hn⟩:=h en (by simp)
  unfold findK
  rw [hn]
  have hk:keySame (.int .i64 k) (.int .i64 n)=some (k == n):=by simp [keySame]
  rw [hk]
  by_cases he:k=n
  ·have hb:(k == n)=true:=by simpa using he
   rw [hb]
   refine .inr ⟨0,en.2.1,en.2.2,by simp,?_⟩
   simp only [List.getElem?_cons_zero,Option.some.injEq]
   rw [he,← hn]
  ·have hb:(k == n)=false:=by simpa using he
   rw [hb]
   rcases findK_int k es (i+1) fun x hx=>h x (by simp [hx]) with h1 | ⟨j,v,m,h1,h2⟩
   ·exact .inl (by simp only [h1])
   ·refine .inr ⟨j+1,v,m,?_,by simpa using h2⟩
    simp only [h1]
    rw [show i+1+j=i+(j+1) by omega]
theorem look_int {H : Hp} {om : Nat} {es : List (AV × AV × Nat)} {c : Nat} (h : H[om]? = some (.map es c)) (hk : ∀ en ∈ es, ∃ n : Int, en.1 = .int .i64 n) (z : AV) (k : Int) :
    (findK (.int .i64 k) es 0=some none∧∀ ck,alookup (.int .i64) z ck (.map om) (.int .i64 k) H=some (if ck=true then .tuple [z,.bool false] else z)) ∨
    ∃ v n,(.int .i64 k,v,n) ∈ es∧∀ ck,alookup (.int .i64) z ck (.map om) (.int .i64 k) H=some (if ck=true then .tuple [v,.bool true] else v):=by
 have hok:keyOk (.int .i64) (.int .i64 k)=true:=by simp [keyOk]
 have he:entries (.map om) H=some es:=by simp [entries,h]
 rcases findK_int k es 0 hk with h1 | ⟨j,v,n,h1,h2⟩
 ·refine .inl ⟨h1,fun ck=>?_⟩
  unfold alookup
  rw [if_pos hok,he]
  simp only [h1]
 ·refine .inr ⟨v,n,List.mem_of_getElem? h2,fun ck=>?_⟩
  unfold alookup
  rw [if_pos hok,he]
  simp only [h1]
theorem mapSet_new {H:Hp} {om:Nat} {es:List (AV × AV × Nat)} {c:Nat} (h:H[om]?=some (.map es c)) {k:Int} (hf:findK (.int .i64 k) es 0=some none) (v:AV):amapSet (.int .i64) (.map om) (.int .i64 k) v H=some (.tuple [],H.set om (.map (es++[(.int .i64 k,v,c)]) (c+1))):=by
 have hok:keyOk (.int .i64) (.int .i64 k)=true:=by simp [keyOk]
 unfold amapSet
 simp only [h,hok,if_true,hf]
variable {fo:Nat} {s:List UInt8} {lines:Bool} {spv:AV}
def endsM (s:List UInt8) (lines:Bool) (e:Rt) (i j:Nat):List Bool:=reachM (progF e) s lines i j
def startsM (s:List UInt8) (lines:Bool) (e:Rt) (k i j:Nat):List Bool:=reachM (progS e k) s lines j i
theorem ends_run {H : Hp} {T : Tb} (hI : InvT H T) {o : Nat} {e : Rt} (ho : T.nd o = some e) (hF : FdAt H fo s lines spv) (hfo : T.nd fo = none ∧ T.mp fo = none) (hs : s.length ≤ 3000000) {i j : Nat} (hi : i ≤ s.length) (hj : j ≤ s.length) :
    ∃ oo H' T',C_recapture_finder_ends [.ptr fo 0,.ptr o 0,.int .i64 (i:Int),.int .i64 (j:Int)] H=some (blV oo (endsM s lines e i j),H')∧BlAt H' oo (endsM s lines e i j)∧H.length≤oo∧Sf [] H T H' T':=by
 obtain ⟨⟨x,xp,xa,fv,om,h1,h2,h3,h4,h5,h6⟩,hok⟩:=hI.nd o e ho
 obtain ⟨pw,pl⟩:=comp_pw (bareM e)
 have hdb:=dep_bare e
 have hsb:=siz_bare e
 have hd:=hok.dep
 have hz:=hok.siz
 rw [F_recapture_finder_ends_eq]
 unfold F_recapture_finder_ends
 rcases h5 with rfl | ⟨q,rfl,hq⟩
 ·-- the program is made
  obtain ⟨xv,b,c1,c2⟩:=fcompile_run h3 (by omega) (by omega) hF
  have hol:=lt_of_get h1
  have hne:H.length ≠ o:=by omega
  have hal:(H++[AObj.cells [.nils,(.bool false)]])[H.length]?=some (.cells [.nils,.bool false]):=by simp
  have hst:astoreU 2 (.ptr H.length 0) (.agg [xv,.bool b]) (H++[AObj.cells [.nils,(.bool false)]])=some (.tuple [],H++[AObj.cells [xv,.bool b]]):=by
   rw [astore_of (sz:=2) (v:=.agg [xv,.bool b]) hal rfl rfl (by simp)]
   simp [splice,AV.cells]
  have h1':=get_push h1 [AObj.cells [xv,.bool b]]
  have hst2:astoreU 1 (.ptr o (0+19)) (.ptr H.length 0) (H++[AObj.cells [xv,.bool b]])=some (.tuple [],(H++[AObj.cells [xv,.bool b]]).set o (.cells (ndC e.hd x (bareM e).hd xp xa (.ptr H.length 0) (.map om)))):=by
   rw [astore_of (sz:=1) (v:=.ptr H.length 0) h1' rfl rfl (by simp [ndC,reC])]
   rfl
  generalize hH1:(H++[AObj.cells [xv,.bool b]]).set o (.cells (ndC e.hd x (bareM e).hd xp xa (.ptr H.length 0) (.map om)))=H1 at *
  have g1:H1[o]?=some (.cells (ndC e.hd x (bareM e).hd xp xa (.ptr H.length 0) (.map om))):=by rw [← hH1];exact get_set_eq _ h1'
  have gq:H1[H.length]?=some (.cells [xv,.bool b]):=by rw [← hH1];exact get_set_ne _ (Ne.symm hne) (get_push_len H _ [])
  have keep:∀ i,i < H.length→i ≠ o→H1[i]?=H[i]?:=fun i hi hn=>by rw [← hH1,List.getElem?_set_ne (Ne.symm hn),List.getElem?_append_left hi]
  have l1:H1.length=H.length+1:=by rw [← hH1];simp
  obtain ⟨T',hT'⟩:∃ T':Tb,T'={ T with fw:=fun q=>if q=H.length then some e else T.fw q }:=⟨_,rfl⟩
  have hnew:=hI.new (Nat.le_refl H.length)
  have hfwm:∀ q f,T.fw q=some f→T'.fw q=some f:=fun q f hq=>by
   have:=hI.lt_fw hq
   rw [hT']
   show (if q=H.length then some e else T.fw q)=some f
   rw [if_neg (by omega)];exact hq
  have hInv:InvT H1 T':=by
   refine ⟨fun o2 e2 ho2=>?_,fun om2 e2 ho2=>?_,fun q2 e2 hq2=>?_⟩
   ·have ho2:T.nd o2=some e2:=by rw [hT'] at ho2;exact ho2
    obtain ⟨⟨y,yp,ya,yf,ym,k1,k2,k3,k4,k5,k6⟩,k7⟩:=hI.nd o2 e2 ho2
    refine ⟨?_,k7⟩
    by_cases heq:o2=o
    ·subst heq
     rw [ho] at ho2
     injection ho2 with ho2
     subst ho2
     exact ⟨x,xp,xa,.ptr H.length 0,om,g1,h2,h3,by rw [hT'];exact h4,.inr ⟨H.length,rfl,by rw [hT'];simp⟩,by rw [hT'];exact h6⟩
    ·refine ⟨y,yp,ya,yf,ym,(keep o2 (lt_of_get k1) heq).trans k1,k2,k3,by rw [hT'];exact k4,k5.imp id fun ⟨q,a,b⟩=>⟨q,a,hfwm q _ b⟩,by rw [hT'];exact k6⟩
   ·have ho2:T.mp om2=some e2:=by rw [hT'] at ho2;exact ho2
    obtain ⟨es,k,k1,k2⟩:=hI.mp om2 e2 ho2
    refine ⟨es,k,(keep om2 (lt_of_get k1) fun he=>?_).trans k1,k2⟩
    rw [he,h1] at k1
    cases k1
   ·by_cases heq:q2=H.length
    ·subst heq
     have:e2=e:=by
      rw [hT'] at hq2
      simpa using hq2.symm
     subst this
     exact ⟨xv,b,gq,c1⟩
    ·have hq2' : T.fw q2 = some e2 := by
        rw [hT'] at hq2
        simpa [heq] using hq2
     obtain ⟨y,b',k1,k2⟩:=hI.fw q2 e2 hq2'
     refine ⟨y,b',(keep q2 (lt_of_get k1) fun he=>?_).trans k1,k2⟩
     rw [he,h1] at k1
     injection k1 with k1
     injection k1 with k1
     have:=congrArg List.length k1
     simp [ndC,reC] at this
  have hfne:fo ≠ o:=fun he=>by rw [he,ho] at hfo;cases hfo.1
  have hF1:FdAt H1 fo s lines spv:=(keep fo (lt_of_get hF) hfne).trans hF
  obtain ⟨oo,H2,r1,r2,r3,r4⟩:=reach_run (lb:=b) pl pw c1 hs hi hj hF1
  have lq:aload true 2 (.ptr H.length 0) H1=some (.agg [xv,.bool b]):=by rw [aload_of gq];rfl
  simp only [go_sem,nd_fw h1,nd_plain h1,c2,hst,hst2,recapture_finder_ends_J1_eq,nd_fw g1,lq,r1]
  refine ⟨oo,H2,T',rfl,r2,by omega,by rw [hT'],by rw [hT'],hInv.kept r3 (fun i hi=>by cases hi),by have:=r3.1;omega,fun i hi _ hn1 hn2=>?_⟩
  rw [r3.2 i (by omega) (by simp),keep i hi fun he=>by rw [he,ho] at hn1;cases hn1]
 ·obtain ⟨xv,b,k1,k2⟩:=hI.fw q e hq
  obtain ⟨oo,H2,r1,r2,r3,r4⟩:=reach_run (lb:=b) pl pw k2 hs hi hj hF
  have lq:aload true 2 (.ptr q 0) H=some (.agg [xv,.bool b]):=by rw [aload_of k1];rfl
  simp only [go_sem,nd_fw h1,recapture_finder_ends_J1_eq,lq,r1]
  exact ⟨oo,H2,T,rfl,r2,r4,Sf.of_kpt hI r3 (fun i hi=>by cases hi)⟩
end Go.Am
namespace Go.Am
set_option linter.unusedSimpArgs false
set_option linter.unusedVariables false
set_option maxRecDepth 100000

variable {fo:Nat} {s:List UInt8} {lines:Bool} {spv:AV}
theorem remaining_run {H : Hp} {T : Tb} (hI : InvT H T) {o : Nat} {e : Rt} (ho : T.nd o = some e) (h5 : e.hd.op = 5) {c : Nat} (hc : c ≤ 5000000) :
    ∃ a,RtC (remM e c) a∧roC C_recapture_remaining [.ptr o 0,.int .i64 (c:Int)] H=some (a,H):=by
 obtain ⟨⟨x,xp,xa,fv,om,h1,h2,h3,h4,_,h6⟩,hok⟩:=hI.nd o e ho
 have hol:=lt_of_get h1
 have hrb:0≤e.hd.lo∧e.hd.lo≤64∧(e.hd.hi=-1 ∨ e.hd.lo≤e.hd.hi∧e.hd.hi≤64):=by
  have:=hok.rp
  rw [Rt.eta e,rpM_eq,Bool.and_eq_true] at this
  exact rp_bounds this.1 h5
 obtain ⟨l1,l2,l3⟩:=hrb
 obtain ⟨xp',lp,hxp,hsx,hlx⟩:=h3.out
 have:xp'=xp:=by
  unfold reV reC at hxp
  injection hxp with hxp
  simp at hxp
  exact hxp.symm
 subst this
 have g1:=get_push h1 [AObj.cells [(.int .i64 0),(.int .u64 0),(.int .u64 0),(.int .u64 0),(.int .u64 0),(.int .i64 0),(.int .i64 0),(.int .i64 0),.nils]]
 have hw1:IntKind.i64.wrap (e.hd.lo - (c:Int))=e.hd.lo - (c:Int):=wrap64 (by omega) (by omega)
 have hw2:IntKind.i64.wrap (e.hd.lo - (c:Int) - 1)=e.hd.lo - (c:Int) - 1:=wrap64 (by omega) (by omega)
 have hw3:IntKind.i64.wrap (e.hd.hi - (c:Int))=e.hd.hi - (c:Int):=wrap64 (by omega) (by omega)
 have hw4:IntKind.i64.wrap (e.hd.hi - (c:Int) - 1)=e.hd.hi - (c:Int) - 1:=wrap64 (by omega) (by omega)
 have hnode:=rep_node (max (e.hd.lo - (c:Int) - 1) 0) e.hd.hi xp' hsx.known
 obtain ⟨W,hW⟩:∃ W:Hp,W=H++[AObj.cells [(.int .i64 0),(.int .u64 0),(.int .u64 0),(.int .u64 0),(.int .u64 0),(.int .i64 0),(.int .i64 0),(.int .i64 0),.nils]]:=⟨_,rfl⟩
 rw [← hW] at g1
 have hWl:W.length=H.length+1:=by rw [hW];simp
 have hal:=alloc_re W (rpHd (max (e.hd.lo - (c:Int) - 1) 0) e.hd.hi) xp'
 have gn:=get_push_len W (AObj.cells (reC (rpHd (max (e.hd.lo - (c:Int) - 1) 0) e.hd.hi) xp')) []
 have g0:W[H.length]?=some (.cells z9):=by rw [hW];exact get_push_len H _ []
 have g0':=get_push g0 [AObj.cells (reC (rpHd (max (e.hd.lo - (c:Int) - 1) 0) e.hd.hi) xp')]
 -- the end
 have fin : ∀ (Hc : Hp) (hd : Hd), Hc[W.length]? = some (.cells (reC hd xp')) → Hc[H.length]? = some (.cells z9) → Hc.take H.length = H → RtC (.mk hd (bareM e).args) (reV hd xp') → dep (.mk hd (bareM e).args) ≤ 190 →
     ∃ H1,recapture_remaining_J1 (.ptr H.length 0) (.ptr W.length 0) H Hc=some (reV hd xp',H1)∧H1.take H.length=H:=by
  intro Hc hd q1 q2 q3 _ _
  rw [recapture_remaining_J1_eq]
  simp only [ld_re q1,bnd_some,st_re hd xp' q2 rfl,ld_re (get_set_eq _ q2)]
  exact ⟨_,rfl,by rw [List.take_set_of_le (Nat.le_refl _),q3]⟩
 obtain ⟨b1,b2⟩:=bare_args e
 rw [dep_eq] at b1
 have hdep:∀ hd:Hd,dep (.mk hd (bareM e).args)≤190:=fun hd=>by rw [dep_eq];have:=hok.dep;omega
 have htk:∀ (l:Hp),(W++l).take H.length=H:=fun l=>by rw [hW,List.append_assoc,List.take_left' rfl]
 have hhi:(rpHd (max (e.hd.lo - (c:Int) - 1) 0) e.hd.hi).hi=e.hd.hi:=rfl
 by_cases h0:0 < e.hd.hi
 ·have e0:decide (0 < e.hd.hi)=true:=decide_eq_true h0
  have hst:astoreU 1 (.ptr W.length (0+6)) (.int .i64 (e.hd.hi - (c:Int) - 1)) (W++[AObj.cells (reC (rpHd (max (e.hd.lo - (c:Int) - 1) 0) e.hd.hi) xp')])=some (.tuple [],(W++[AObj.cells (reC (rpHd (max (e.hd.lo - (c:Int) - 1) 0) e.hd.hi) xp')]).set W.length (.cells (reC (rpHd (max (e.hd.lo - (c:Int) - 1) 0) (e.hd.hi - (c:Int) - 1)) xp'))):=by
   rw [astore_of (sz:=1) (v:=.int .i64 (e.hd.hi - (c:Int) - 1)) gn rfl rfl (by simp [reC])]
   rfl
  have hrm:remM e c=.mk (rpHd (max (e.hd.lo - (c:Int) - 1) 0) (e.hd.hi - (c:Int) - 1)) (bareM e).args:=by unfold remM;rw [if_pos h0]
  have hrt:RtC (remM e c) (reV (rpHd (max (e.hd.lo - (c:Int) - 1) 0) (e.hd.hi - (c:Int) - 1)) xp'):=by rw [hrm];exact RtC.of hsx hlx
  obtain ⟨H1,r1,r2⟩:=fin _ (rpHd (max (e.hd.lo - (c:Int) - 1) 0) (e.hd.hi - (c:Int) - 1)) (get_set_eq _ gn) (get_set_ne _ (by omega) g0') (by rw [List.take_set_of_le (by omega),htk]) (RtC.of hsx hlx) (hdep _)
  refine ⟨_,hrt,ro_of (H':=H1) ?_ r2 (hrt.close _ _ 400 (by rw [hrm];have:=hdep (rpHd (max (e.hd.lo - (c:Int) - 1) 0) (e.hd.hi - (c:Int) - 1));omega))⟩
  rw [F_recapture_remaining_eq]
  unfold F_recapture_remaining
  simp only [bnd_some,← hW,go_sem,nd_lo g1,nd_hi g1,nd_pargs g1,hw1,hw2,hnode,hal,ld_hi gn,hhi,e0,hw3,hw4,hst,r1]
 ·have e0:decide (0 < e.hd.hi)=false:=decide_eq_false h0
  have hrm:remM e c=.mk (rpHd (max (e.hd.lo - (c:Int) - 1) 0) e.hd.hi) (bareM e).args:=by unfold remM;rw [if_neg h0]
  have hrt:RtC (remM e c) (reV (rpHd (max (e.hd.lo - (c:Int) - 1) 0) e.hd.hi) xp'):=by rw [hrm];exact RtC.of hsx hlx
  obtain ⟨H1,r1,r2⟩:=fin _ (rpHd (max (e.hd.lo - (c:Int) - 1) 0) e.hd.hi) gn g0' (htk _) (RtC.of hsx hlx) (hdep _)
  refine ⟨_,hrt,ro_of (H':=H1) ?_ r2 (hrt.close _ _ 400 (by rw [hrm];have:=hdep (rpHd (max (e.hd.lo - (c:Int) - 1) 0) e.hd.hi);omega))⟩
  rw [F_recapture_remaining_eq]
  unfold F_recapture_remaining
  simp only [bnd_some,← hW,go_sem,nd_lo g1,nd_hi g1,nd_pargs g1,hw1,hw2,hnode,hal,ld_hi gn,hhi,e0,r1]
theorem nd_push {H:Hp} {T:Tb} (hI:InvT H T) (l:Hp):InvT (H++l) T:=hI.kept (Kpt.push [] H l) (fun i hi=>by cases hi)
theorem ret_re (Hc:Hp) (h:Hd) (y:AV) (l:Hp):(bnd (astoreU 9 (.ptr Hc.length 0) (reV h y) (Hc++[AObj.cells [(.int .i64 0),(.int .u64 0),(.int .u64 0),(.int .u64 0),(.int .u64 0),(.int .i64 0),(.int .i64 0),(.int .i64 0),.nils]])) fun r=>bnd (aload true 9 (.ptr Hc.length 0) r.2) fun v=>some (v,r.2))=some (reV h y,Hc++[.cells (reC h y)]):=by
 rw [alloc_re,bnd_some,ld_re (get_push_len Hc _ []),bnd_some]
theorem rep1_run {H : Hp} {T : Tb} (hI : InvT H T) {o : Nat} {e : Rt} (ho : T.nd o = some e) (h5 : e.hd.op = 5) {c : Nat} (hc : c ≤ 5000000) {bn : Nat} (hbn : H[bn]? = some (.cells [.ptr o 0])) :
    ∃ a H1,acall cfg (callw cfg) (.fn (.func 61) [] [.ptr bn 0,.vp [.int .i64 (c:Int)]]) [] H=some (a,H1)∧RtC (restT e c) a∧Kpt [] H H1:=by
 obtain ⟨a,ha,hr⟩:=remaining_run (nd_push hI [AObj.cells [(.int .i64 0),(.int .u64 0),(.int .u64 0),(.int .u64 0),(.int .u64 0),(.int .i64 0),(.int .i64 0),(.int .i64 0),.nils]]) ho h5 hc
 have hre:restT e c=remM e c:=by unfold restT;rw [if_neg (by omega)]
 rw [hre]
 obtain ⟨xa,la,rfl,_,_⟩:=ha.out
 have lb:aload false 1 (.ptr bn 0) (H++[AObj.cells [(.int .i64 0),(.int .u64 0),(.int .u64 0),(.int .u64 0),(.int .u64 0),(.int .i64 0),(.int .i64 0),(.int .i64 0),.nils]])=some (.ptr o 0):=by rw [aload_of (get_push hbn _)];rfl
 have lk:∀ w:Hp,aload false 1 (.vp [.int .i64 (c:Int)]) w=some (.int .i64 (c:Int)):=fun w=>rfl
 refine ⟨_,H++[.cells (reC (remM e c).hd xa)],?_,ha,Kpt.push _ _ _⟩
 rw [V_recapture_finder_repeat_1]
 show C_recapture_finder_repeat_1 [.ptr bn 0,.vp [.int .i64 (c:Int)]] H=_
 rw [F_recapture_finder_repeat_1_eq]
 unfold F_recapture_finder_repeat_1
 simp only [bnd_some,lb,lk,hr]
 exact ret_re H _ _ []
theorem cat1_run {H : Hp} {T : Tb} (hI : InvT H T) {o : Nat} {e : Rt} (ho : T.nd o = some e) (h3 : e.hd.op = 3) {t : Nat} (ht : t < e.args.length) {bn bt : Nat} (hbn : H[bn]? = some (.cells [.ptr o 0])) (hbt : H[bt]? = some (.cells [.int .i64 (t : Int)])) :
    ∃ a H1,acall cfg (callw cfg) (.fn (.func 58) [] [.ptr bn 0,.ptr bt 0]) [] H=some (a,H1)∧RtC (restT e t) a∧Kpt [] H H1:=by
 obtain ⟨⟨x,xp,xa,fv,om,h1,h2,h3',h4,_,h6⟩,hok⟩:=hI.nd o e ho
 obtain ⟨xp',lp,hxp,hsx,hlx⟩:=h3'.out
 have:xp'=xp:=by
  unfold reV reC at hxp
  injection hxp with hxp
  simp at hxp
  exact hxp.symm
 subst this
 have hre:restT e t=joinM ((bareM e).args.drop (t+1)):=by unfold restT;rw [if_pos h3]
 have hal:(bareM e).args.length=e.args.length:=by
  have h6':¬ e.hd.op=6:=by omega
  have:bareM e=.mk e.hd (e.args.map bareM):=by
   conv=>{ lhs;rw [Rt.eta e,bareM_eq] }
   rw [if_neg h6']
  rw [this]
  simp [Rt.args]
 have hll:lp.length=e.args.length:=by rw [hlx.1,hal]
 have hz:=hok.siz
 have hls:=len_siz e.args
 have hse:sizL e.args+1=siz e:=by conv=>{ rhs;rw [Rt.eta e,siz_eq] }
 obtain ⟨tk,hxv⟩:∃ tk,xp'=.vs 9 tk lp:=by
  rcases hsx with ⟨_,h⟩ | h | h
  ·rw [h] at hll;simp at hll;omega
  ·exact ⟨_,h⟩
  ·exact ⟨_,h⟩
 have hslice:asliceV 9 xp' (some (.int .i64 ((t+1:Nat):Int))) none none=some (.vs 9 tk (lp.drop (t+1))):=by
  rw [hxv,asliceV_lo 9 tk .i64 (by omega) (by omega),Int.toNat_natCast]
 have hsd:SlC 9 (.vs 9 tk (lp.drop (t+1))) (lp.drop (t+1)):=by
  rcases hsx with ⟨h,_⟩ | h | h
  ·rw [hxv] at h;cases h
  ·rw [hxv] at h;injection h with _ h _;subst h;exact .inr (.inl rfl)
  ·rw [hxv] at h;injection h with _ h _;subst h;exact .inr (.inr rfl)
 obtain ⟨b1,b2⟩:=bare_args e
 rw [dep_eq] at b1
 have hdd:=depL_drop (bareM e).args (t+1)
 obtain ⟨y,r1,r2⟩:=joined_run hsd (hlx.drop (t+1)) (by have:=hok.dep;omega) (by simp;omega)
 rw [hre]
 obtain ⟨xy,ly,rfl,_,_⟩:=r1.out
 obtain ⟨W,hW⟩:∃ W:Hp,W=H++[AObj.cells [(.int .i64 0),(.int .u64 0),(.int .u64 0),(.int .u64 0),(.int .u64 0),(.int .i64 0),(.int .i64 0),(.int .i64 0),.nils]]:=⟨_,rfl⟩
 have lb:aload false 1 (.ptr bn 0) W=some (.ptr o 0):=by rw [hW,aload_of (get_push hbn _)];rfl
 have lt':aload false 1 (.ptr bt 0) W=some (.int .i64 (t:Int)):=by rw [hW,aload_of (get_push hbt _)];rfl
 have g1:W[o]?=some (.cells (ndC e.hd x (bareM e).hd xp' xa fv (.map om))):=by rw [hW];exact get_push h1 _
 refine ⟨_,H++[.cells (reC (joinM ((bareM e).args.drop (t+1))).hd xy)],?_,r1,Kpt.push _ _ _⟩
 rw [V_recapture_finder_cat_1]
 show C_recapture_finder_cat_1 [.ptr bn 0,.ptr bt 0] H=_
 rw [F_recapture_finder_cat_1_eq]
 unfold F_recapture_finder_cat_1
 simp only [bnd_some,← hW,go_sem,lb,nd_pargs g1,lt',wsucc (n:=t) (by omega),hslice,r2]
 rw [hW]
 exact ret_re H _ _ []
theorem starts_run {H : Hp} {T : Tb} (hI : InvT H T) {o : Nat} {e : Rt} (ho : T.nd o = some e) (hF : FdAt H fo s lines spv) (hfo : T.nd fo = none ∧ T.mp fo = none) (hs : s.length ≤ 3000000) {i j : Nat} (hi : i ≤ s.length) (hj : j ≤ s.length) (k : Nat) {clo : AV}
    (hclo:∀ l:Hp,∃ a H1,acall cfg (callw cfg) clo [] (H++l)=some (a,H1)∧RtC (restT e k) a∧Kpt [] (H++l) H1) :
    ∃ oo H' T',C_recapture_finder_starts [.ptr fo 0,.ptr o 0,.int .i64 (k:Int),.int .i64 (i:Int),.int .i64 (j:Int),clo] H=some (blV oo (startsM s lines e k i j),H')∧BlAt H' oo (startsM s lines e k i j)∧H.length≤oo∧Sf [] H T H' T':=by
 obtain ⟨⟨x,xp,xa,fv,om,h1,h2,h3,h4,h5,h6⟩,hok⟩:=hI.nd o e ho
 obtain ⟨es,kc,m1,m2⟩:=hI.mp om e h6
 obtain ⟨pw,pl⟩:=comp_pw (revM (restT e k))
 obtain ⟨rb1,rb2⟩:=rest_bd hok k
 have hdr:=dep_rev (restT e k)
 have hsr:=siz_rev (restT e k)
 have zeroV:∀ (w:Hp) (x:AV) (b:Bool),x.cells=[x]∧x.known=true→astoreU 2 (.ptr w.length 0) (.agg [x,.bool b]) (w++[AObj.cells [.nils,(.bool false)]])=some (.tuple [],w++[.cells [x,.bool b]]):=fun w x b _=>by
  rw [astore_of (sz:=2) (v:=.agg [x,.bool b]) (l:=[.nils,(.bool false)]) (by simp) rfl rfl (by simp)]
  simp [splice,AV.cells]
 rw [F_recapture_finder_starts_eq]
 unfold F_recapture_finder_starts
 rcases look_int m1 (fun en hen=>by obtain ⟨key,hk,_⟩:=m2 en hen;exact ⟨_,hk⟩) (.agg [.nils,.bool false]) (k:Int) with ⟨hf,hlk⟩ | ⟨v,n,hmem,hlk⟩
 ·-- it is not there yet
  have hlk:=hlk true
  simp only [if_true] at hlk
  have a0:aext (.tuple [.agg [.nils,.bool false],.bool false]) 0=some (.agg [.nils,.bool false]):=rfl
  have a1:aext (.tuple [.agg [.nils,.bool false],.bool false]) 1=some (.bool false):=rfl
  obtain ⟨a,H1,c1,c2,c3⟩:=hclo [.cells [.nils,.bool false]]
  obtain ⟨y,r1,r2⟩:=reversed_run (restT e k) (by omega) (by omega) a c2
  have gp:H1[H.length]?=some (.cells [.nils,.bool false]):=c3.get (get_push_len H _ []) (by simp)
  have hF1:FdAt H1 fo s lines spv:=c3.get (get_push hF _) (by simp)
  have hl1:H.length+1≤H1.length:=by have:=c3.1;simp at this;omega
  obtain ⟨xv,b,d1,d2⟩:=fcompile_run r1 (by omega) (by omega) hF1
  have hst:astoreU 2 (.ptr H.length 0) (.agg [xv,.bool b]) H1=some (.tuple [],H1.set H.length (.cells [xv,.bool b])):=by
   rw [astore_of (sz:=2) (v:=.agg [xv,.bool b]) gp rfl rfl (by simp)]
   rfl
  have hol:=lt_of_get h1
  have hml:=lt_of_get m1
  have gn1:H1[o]?=some (.cells (ndC e.hd x (bareM e).hd xp xa fv (.map om))):=c3.get (get_push h1 _) (by simp)
  have gm1:H1[om]?=some (.map es kc):=c3.get (get_push m1 _) (by simp)
  generalize hH2:H1.set H.length (.cells [xv,.bool b])=H2 at *
  have gn2:H2[o]?=some (.cells (ndC e.hd x (bareM e).hd xp xa fv (.map om))):=by rw [← hH2];exact get_set_ne _ (by omega) gn1
  have gm2:H2[om]?=some (.map es kc):=by rw [← hH2];exact get_set_ne _ (by omega) gm1
  have gp2:H2[H.length]?=some (.cells [xv,.bool b]):=by rw [← hH2];exact get_set_eq _ gp
  have lp2:∀ {w:Hp},w[H.length]?=some (.cells [xv,.bool b])→aload true 2 (.ptr H.length 0) w=some (.agg [xv,.bool b]):=fun h=>by rw [aload_of h];rfl
  have hset:=mapSet_new gm2 hf (.agg [xv,.bool b])
  generalize hH3:H2.set om (.map (es++[(.int .i64 (k:Int),.agg [xv,.bool b],kc)]) (kc+1))=H3 at *
  have gp3:H3[H.length]?=some (.cells [xv,.bool b]):=by rw [← hH3];exact get_set_ne _ (by omega) gp2
  have keep:∀ q,q < H.length→q ≠ om→H3[q]?=H[q]?:=fun q hq hn=>by
   rw [← hH3,List.getElem?_set_ne (Ne.symm hn),← hH2,List.getElem?_set_ne (by omega),c3.2 q (by simp;omega) (by simp),List.getElem?_append_left hq]
  have hl3:H3.length=H1.length:=by rw [← hH3,← hH2];simp
  have hmapne:∀ {q:Nat} {c:List AV},H[q]?=some (.cells c)→q ≠ om:=fun hq he=>by rw [he,m1] at hq;cases hq
  have hInv:InvT H3 T:=by
   refine ⟨fun o2 e2 ho2=>⟨?_,(hI.nd o2 e2 ho2).2⟩,fun om2 e2 ho2=>?_,fun q2 e2 hq2=>?_⟩
   ·obtain ⟨y1,y2,y3,y4,y5,k1,k2⟩:=(hI.nd o2 e2 ho2).1
    exact ⟨y1,y2,y3,y4,y5,(keep o2 (lt_of_get k1) (hmapne k1)).trans k1,k2⟩
   ·by_cases heq:om2=om
    ·subst heq
     rw [h6] at ho2
     injection ho2 with ho2
     subst ho2
     refine ⟨_,_,by rw [← hH3];exact get_set_eq _ gm2,fun en hen=>?_⟩
     rcases List.mem_append.1 hen with hen | hen
     ·exact m2 en hen
     ·rw [List.mem_singleton.1 hen]
      exact ⟨k,rfl,xv,b,rfl,d1⟩
    ·obtain ⟨es2,k2,q1,q2⟩:=hI.mp om2 e2 ho2
     exact ⟨es2,k2,(keep om2 (lt_of_get q1) heq).trans q1,q2⟩
   ·obtain ⟨y1,y2,k1,k2⟩:=hI.fw q2 e2 hq2
    exact ⟨y1,y2,(keep q2 (lt_of_get k1) (hmapne k1)).trans k1,k2⟩
  have hF3:FdAt H3 fo s lines spv:=(keep fo (lt_of_get hF) (hmapne hF)).trans hF
  obtain ⟨oo,H4,u1,u2,u3,u4⟩:=reach_run (lb:=b) pl pw d1 hs hj hi hF3
  simp only [go_sem,nd_rest h1,hlk,a0,a1,zeroV H .nils false ⟨rfl,rfl⟩,Bool.not_false,c1,r2,d2,hst,nd_rest gn2,lp2 gp2,hset,recapture_finder_starts_J1_eq,lp2 gp3,u1]
  refine ⟨oo,H4,T,rfl,u2,by omega,rfl,rfl,hInv.kept u3 (fun i hi=>by cases hi),by have:=u3.1;omega,fun q hq _ _ hq2=>?_⟩
  rw [u3.2 q (by omega) (by simp),keep q hq fun he=>by rw [he,h6] at hq2;cases hq2]
 ·-- it is there
  have hlk:=hlk true
  simp only [if_true] at hlk
  obtain ⟨key,hk1,xv,b,hk2,hk3⟩:=m2 _ hmem
  simp only at hk1 hk2
  have hkk:key=k:=by injection hk1 with _ hk1;omega
  subst hkk
  subst hk2
  have a0:aext (.tuple [.agg [xv,.bool b],.bool true]) 0=some (.agg [xv,.bool b]):=rfl
  have a1:aext (.tuple [.agg [xv,.bool b],.bool true]) 1=some (.bool true):=rfl
  have hF1:FdAt (H++[AObj.cells [xv,.bool b]]) fo s lines spv:=get_push hF _
  have lq:aload true 2 (.ptr H.length 0) (H++[AObj.cells [xv,.bool b]])=some (.agg [xv,.bool b]):=by rw [aload_of (get_push_len H _ [])];rfl
  obtain ⟨oo,H4,u1,u2,u3,u4⟩:=reach_run (lb:=b) pl pw hk3 hs hj hi hF1
  have hk:Kpt [] H H4:=(Kpt.push _ _ _).trans u3
  simp only [go_sem,nd_rest h1,hlk,a0,a1,zeroV H xv b hk3.known,Bool.not_true,recapture_finder_starts_J1_eq,lq,u1]
  exact ⟨oo,H4,T,rfl,u2,by simp at u4;omega,Sf.of_kpt hI hk (fun i hi=>by cases hi)⟩
def longM (l1:List Bool) (fr:Nat) (l2:List Bool) (lo:Nat):Nat→Int
 | 0=>-1
 | k+1=>if l1.getD k false=true∧l2.getD (fr+k - lo) false=true then ((fr+k:Nat):Int) else longM l1 fr l2 lo k
theorem longest_run {H : Hp} {o1 o2 : Nat} {l1 l2 : List Bool} (h1 : BlAt H o1 l1) (h2 : BlAt H o2 l2) {fr lo : Nat} (hlo : lo ≤ fr) (hlen : fr + l1.length - lo ≤ l2.length) (hb : fr + l1.length ≤ 1000000000) :
    roC C_recapture_longest [blV o1 l1,.int .i64 (fr:Int),blV o2 l2,.int .i64 (lo:Int)] H=some (.int .i64 (longM l1 fr l2 lo l1.length),H):=by
 have loop:∀ (k:Nat),k≤l1.length→recapture_longest_L1 (blV o1 l1) (.int .i64 (fr:Int)) (blV o2 l2) (.int .i64 (lo:Int)) (.int .i64 ((k:Int) - 1)) H H=some (.int .i64 (longM l1 fr l2 lo k),H):=by
  intro k
  induction k with
  | zero =>
   intro _
   have hge:decide ((0:Int)≤((0:Nat):Int) - 1)=false:=rfl
   rw [recapture_longest_L1_eq]
   simp only [go_sem,hge,recapture_longest_J1_eq,longM]
  | succ k ih =>
   intro hk
   have e1:((k+1:Nat):Int) - 1=(k:Int):=by omega
   have hge:decide ((0:Int)≤(k:Int))=true:=decide_eq_true (by omega)
   have hw1:IntKind.i64.wrap ((fr:Int)+(k:Int))=((fr+k:Nat):Int):=by rw [wrap64 (by omega) (by omega)];omega
   have hw2:IntKind.i64.wrap (((fr+k:Nat):Int) - (lo:Int))=((fr+k - lo:Nat):Int):=by rw [wrap64 (by omega) (by omega)];omega
   have hw3:IntKind.i64.wrap ((k:Int) - 1)=(k:Int) - 1:=wrap64 (by omega) (by omega)
   have hi:=ih (by omega)
   rw [e1,recapture_longest_L1_eq,longM]
   cases hk1:l1.getD k false with
   | false =>
    have hld:=h1.ld (k:=k) (by omega)
    rw [hk1] at hld
    rw [if_neg (by simp)]
    simp only [go_sem,hge,recapture_longest_J2_eq,bl_idx o1 l1 (show k < l1.length by omega),hld,recapture_longest_J3_eq,hw3,hi]
   | true =>
    have hld:=h1.ld (k:=k) (by omega)
    rw [hk1] at hld
    have hld2:=h2.ld (k:=fr+k - lo) (by omega)
    cases hk2:l2.getD (fr+k - lo) false with
    | false =>
     rw [hk2] at hld2
     rw [if_neg (by simp)]
     simp only [go_sem,hge,recapture_longest_J2_eq,bl_idx o1 l1 (show k < l1.length by omega),hld,hw1,hw2,bl_idx o2 l2 (show fr+k - lo < l2.length by omega),hld2,recapture_longest_J3_eq,hw3,hi]
    | true =>
     rw [hk2] at hld2
     rw [if_pos ⟨rfl,rfl⟩]
     simp only [go_sem,hge,recapture_longest_J2_eq,bl_idx o1 l1 (show k < l1.length by omega),hld,hw1,hw2,bl_idx o2 l2 (show fr+k - lo < l2.length by omega),hld2]
 have hw:IntKind.i64.wrap ((l1.length:Int) - 1)=(l1.length:Int) - 1:=wrap64 (by omega) (by omega)
 have key:C_recapture_longest [blV o1 l1,.int .i64 (fr:Int),blV o2 l2,.int .i64 (lo:Int)] H=some (.int .i64 (longM l1 fr l2 lo l1.length),H):=by
  rw [F_recapture_longest_eq]
  unfold F_recapture_longest
  have hl:alenD (.slice 4) (blV o1 l1)=some (.int .i64 (l1.length:Int)):=rfl
  simp only [hl,bnd_some,ibin_sub,hw]
  exact loop l1.length (Nat.le_refl _)
 exact ro_of key (by simp) rfl
theorem longM_bd (l1:List Bool) (fr:Nat) (l2:List Bool) (lo:Nat):∀ k,longM l1 fr l2 lo k=-1 ∨ ∃ m,m < k∧longM l1 fr l2 lo k=((fr+m:Nat):Int)∧l1.getD m false=true
 | 0=>.inl rfl
 | k+1=>by
  rw [longM]
  split
  ·rename_i h
   exact .inr ⟨k,by omega,rfl,h.1⟩
  ·rcases longM_bd l1 fr l2 lo k with h | ⟨m,h1,h2,h3⟩
   ·exact .inl h
   ·exact .inr ⟨m,by omega,h2,h3⟩
end Go.Am
namespace Go.Am
set_option linter.unusedSimpArgs false
set_option linter.unusedVariables false
set_option maxRecDepth 100000

abbrev Sp:=List (Int × Int)
mutual
def grB (n:Nat):Rt→Bool
 | .mk h args=>(!(h.op == 6) || (decide (0≤h.g) && decide (h.g.toNat < n))) && grL n args
def grL (n:Nat):List Rt→Bool
 | []=>true
 | e :: l=>grB n e && grL n l
end
theorem grB_eq (n:Nat) (h:Hd) (args:List Rt):grB n (.mk h args)=((!(h.op == 6) || (decide (0≤h.g) && decide (h.g.toNat < n))) && grL n args):=by rw [grB]
theorem grL_cons (n:Nat) (e:Rt) (l:List Rt):grL n (e :: l)=(grB n e && grL n l):=by rw [grL]
theorem grL_nil (n:Nat):grL n []=true:=by rw [grL]
theorem grL_iff {n:Nat}:∀ {l:List Rt},grL n l=true ↔ ∀ e ∈ l,grB n e=true
 | []=>by rw [grL_nil];simp
 | e :: l=>by rw [grL_cons,Bool.and_eq_true,grL_iff (l:=l)];simp
mutual
def clearM:Rt→Sp→Sp
 | .mk h args,sp=>clearL args (if h.op=6 then sp.set h.g.toNat (-1,-1) else sp)
def clearL:List Rt→Sp→Sp
 | [],sp=>sp
 | e :: l,sp=>clearL l (clearM e sp)
end
theorem clearM_eq (h:Hd) (args:List Rt) (sp:Sp):clearM (.mk h args) sp=clearL args (if h.op=6 then sp.set h.g.toNat (-1,-1) else sp):=by rw [clearM]
theorem clearL_cons (e:Rt) (l:List Rt) (sp:Sp):clearL (e :: l) sp=clearL l (clearM e sp):=by rw [clearL]
theorem clearL_nil (sp:Sp):clearL [] sp=sp:=by rw [clearL]
theorem clear_len (e:Rt):∀ sp:Sp,(clearM e sp).length=sp.length:=by
 induction e using Rt.ind with
 | h hd args ih =>
  have key:∀ l:List Rt,(∀ e ∈ l,∀ sp:Sp,(clearM e sp).length=sp.length)→∀ sp:Sp,(clearL l sp).length=sp.length:=by
   intro l
   induction l with
   | nil=>intro _ sp;rw [clearL_nil]
   | cons e l ihl=>intro h sp;rw [clearL_cons,ihl (fun x hx=>h x (by simp [hx])),h e (by simp)]
  intro sp
  rw [clearM_eq,key args ih]
  split <;> simp
section
variable (E:Rt→Nat→Nat→List Bool) (S:Rt→Nat→Nat→Nat→List Bool)
def repLoop (E0:Nat→Nat→List Bool) (S0:Nat→List Bool) (F:Nat→Nat→Sp→Sp) (cl:Sp→Sp) (lo hi:Int) (fr j:Nat):Nat→Nat→Nat→Sp→Sp
 | 0,_,_,sp=>sp
 | f + 1, c, i, sp => if hi < 0 ∨ (c : Int) < hi then
     if longM (if lo≤(c:Int) then (E0 i j).set 0 false else E0 i j) i (S0 (if hi < 0 then min c lo.toNat else c)) fr (j - i+1) < 0 then sp
     else repLoop E0 S0 F cl lo hi fr j f (c+1) (longM (if lo≤(c:Int) then (E0 i j).set 0 false else E0 i j) i (S0 (if hi < 0 then min c lo.toNat else c)) fr (j - i+1)).toNat
      (F i (longM (if lo≤(c:Int) then (E0 i j).set 0 false else E0 i j) i (S0 (if hi < 0 then min c lo.toNat else c)) fr (j - i+1)).toNat (cl sp))
  else sp
mutual
def findM:Rt→Nat→Nat→Sp→Sp
 | .mk h args,i,j,sp=>if h.op=6 then (headF args i j sp).set h.g.toNat ((i:Int),(j:Int)) else if h.op=4 then altF args i j sp else if h.op=3 then catF (.mk h args) args 0 i j sp
  else if h.op=5 then repF (.mk h args) args i j sp else sp
def headF:List Rt→Nat→Nat→Sp→Sp
 | [],_,_,sp=>sp
 | x :: _,i,j,sp=>findM x i j sp
def altF:List Rt→Nat→Nat→Sp→Sp
 | [],_,_,sp=>sp
 | x :: l,i,j,sp=>if (E x i j).getD (j - i) false=true then findM x i j sp else altF l i j sp
def catF (e:Rt):List Rt→Nat→Nat→Nat→Sp→Sp
 | [],_,_,_,sp=>sp
 | x :: l,t,i,j,sp=>if longM (E x i j) i (S e t i j) i (j - i+1) < 0 then sp
  else catF e l (t+1) (longM (E x i j) i (S e t i j) i (j - i+1)).toNat j (findM x i (longM (E x i j) i (S e t i j) i (j - i+1)).toNat sp)
def repF (e:Rt):List Rt→Nat→Nat→Sp→Sp
 | [],_,_,sp=>sp
 | x :: _,i,j,sp=>repLoop (fun a b=>E x a b) (fun k=>S e k i j) (fun a b sp=>findM x a b sp) (clearM e) e.hd.lo e.hd.hi i j (j - i+66) 0 i sp
end
end
def spE (p:Int × Int):AV:=.agg [.int .i64 p.1,.int .i64 p.2]
def SpAt (H:Hp) (so:Nat) (sp:Sp):Prop:=H[so]?=some (.cells (flat (sp.map spE)))
def spV (so n:Nat):AV:=.rs true 2 so 0 n n
theorem splice_el (A B:List AV) (n:Nat) (hA:(flat A).length=n) (a z:AV) (hz:z.cells.length=a.cells.length):splice (flat (A++z :: B)) n a.cells=flat (A++a :: B):=by
 unfold splice
 rw [flat_app,flat_cons,flat_app,flat_cons,List.take_left' hA]
 have e:(flat A++(z.cells++flat B)).drop (n+a.cells.length)=flat B:=by
  rw [← List.append_assoc]
  refine List.drop_left' ?_
  rw [List.length_append,hA,hz]
 rw [e,List.append_assoc]
theorem spE_ok (sp:Sp):∀ a ∈ sp.map spE,ElOk true 2 a:=fun a ha=>by
 obtain ⟨p,_,rfl⟩:=List.mem_map.1 ha
 exact ⟨rfl,rfl,by rw [if_pos rfl];rfl⟩
theorem SpAt.st {H : Hp} {so : Nat} {sp : Sp} (h : SpAt H so sp) {g : Int} (h0 : 0 ≤ g) (hg : g.toNat < sp.length) (a b : Int) :
    aindexS 2 (spV so sp.length) (.int .i64 g)=some (.ptr so (0+g.toNat * 2))∧astoreU 2 (.ptr so (0+g.toNat * 2)) (.agg [.int .i64 a,.int .i64 b]) H=some (.tuple [],H.set so (.cells (flat ((sp.set g.toNat (a,b)).map spE)))):=by
 refine ⟨?_,?_⟩
 ·unfold spV aindexS
  dsimp only
  rw [if_pos (by omega)]
 ·generalize g.toNat=n at hg
  obtain ⟨p,hp⟩:∃ p,sp[n]?=some p:=⟨_,List.getElem?_eq_getElem hg⟩
  obtain ⟨A,B,rfl,rfl⟩:=mid_of hp
  have hA:=flat_len_of (spE_ok A)
  rw [List.length_map] at hA
  have hl:=flat_len_of (spE_ok (A++p :: B))
  rw [List.length_map,List.length_append,List.length_cons] at hl
  show astoreU 2 (.ptr so (0+A.length * 2)) (spE (a,b)) H=_
  rw [astore_of (sz:=2) (off:=0+A.length * 2) (v:=spE (a,b)) h rfl rfl (by rw [hl];omega)]
  have e1:(A++p :: B).set A.length (a,b)=A++(a,b) :: B:=by simp
  rw [e1,List.map_append,List.map_cons,List.map_append,List.map_cons,splice_el (A.map spE) (B.map spE) (0+A.length * 2) (by rw [hA];omega) (spE (a,b)) (spE p) rfl]
section
variable {fo so:Nat} {s:List UInt8} {lines:Bool}
def ClrRun (fo so:Nat) (s:List UInt8) (lines:Bool) (e:Rt):Prop:=∀ (a:AV) (H:Hp) (sp:Sp),RtC e a→FdAt H fo s lines (spV so sp.length)→SpAt H so sp→grB sp.length e=true →
 ∃ H',C_recapture_finder_clear [.ptr fo 0,a] H=some (.tuple [],H')∧SpAt H' so (clearM e sp)∧Kpt [so] H H'
theorem clear_loop {A : List Rt} {x : AV} {l : List AV} (hx : SlC 9 x l) (hl : RtL A l) (ih : ∀ e ∈ A, ClrRun fo so s lines e) (hfs : fo ≠ so) (hb : A.length ≤ 1000000) (H0 : Hp) :
    ∀ (k i:Nat) (sp:Sp) (Hc:Hp),A.length - i=k→i≤A.length→FdAt Hc fo s lines (spV so sp.length)→SpAt Hc so sp→grL sp.length A=true →
    ∃ H',recapture_finder_clear_L1 (.ptr fo 0) x (.int .i64 (A.length:Int)) (.int .i64 (i:Int)) H0 Hc=some (.tuple [],H')∧SpAt H' so (clearL (A.drop i) sp)∧Kpt [so] Hc H':=by
 intro k
 induction k with
 | zero =>
  intro i sp Hc hk hi hF hS hg
  have hlt:decide ((i:Int) < (A.length:Int))=false:=decide_eq_false (by omega)
  have hdr:A.drop i=[]:=List.drop_eq_nil_iff.2 (by omega)
  rw [recapture_finder_clear_L1_eq,hdr,clearL_nil]
  simp only [go_sem,hlt]
  exact ⟨Hc,rfl,hS,Kpt.refl _ _⟩
 | succ k ihk =>
  intro i sp Hc hk hi hF hS hg
  have hL:i < A.length:=by omega
  have hlt:decide ((i:Int) < (A.length:Int))=true:=decide_eq_true (by omega)
  have hdr:=List.drop_eq_getElem_cons hL
  obtain ⟨a,hla,hra⟩:=hl.get (List.getElem?_eq_getElem hL)
  obtain ⟨xa,la,rfl,_,_⟩:=hra.out
  obtain ⟨H1,r1,r2,r3⟩:=ih _ (List.getElem_mem hL) _ (Hc++[AObj.cells (reC A[i].hd xa)]) sp hra (get_push hF _) (get_push hS _) (grL_iff.1 hg _ (List.getElem_mem hL))
  have hk1:Kpt [so] Hc H1:=(Kpt.push _ _ _).trans r3
  have hlen:=clear_len A[i] sp
  obtain ⟨H2,s1,s2,s3⟩:=ihk (i+1) (clearM A[i] sp) H1 (by omega) (by omega) (by rw [hlen];exact hk1.get hF (by simp [hfs])) r2 (by rw [hlen];exact hg)
  rw [recapture_finder_clear_L1_eq,hdr,clearL_cons]
  simp only [go_sem,hlt,recapture_finder_clear_J2_eq,hx.idx hla,re_cells,aload_vp_re,alloc_re,ld_re (get_push_len Hc (AObj.cells (reC A[i].hd xa)) []),r1,recapture_finder_clear_J3_eq,wsucc (n:=i) (by omega),s1]
  exact ⟨H2,rfl,s2,hk1.trans s3⟩
theorem clear_run (hfs:fo ≠ so) (e:Rt) (hw:wd e≤1000000):ClrRun fo so s lines e:=by
 induction e using Rt.ind with
 | h hd args ih =>
  intro a H sp ha hF hS hg
  obtain ⟨x,l,rfl,hx,hl⟩:=ha.out
  have hl:RtL args l:=hl
  rw [grB_eq,Bool.and_eq_true] at hg
  obtain ⟨hg1,hg2⟩:=hg
  rw [wd_eq] at hw
  have hk:∀ e ∈ args,ClrRun fo so s lines e:=fun e he=>ih e he (by have:=wd_mem he;omega)
  have hp:=get_push_len H (AObj.cells (reC hd x)) []
  have hF1:FdAt (H++[AObj.cells (reC hd x)]) fo s lines (spV so sp.length):=get_push hF _
  have hS1:SpAt (H++[AObj.cells (reC hd x)]) so sp:=get_push hS _
  have hsl:=lt_of_get hS
  have i0:(((0:Nat):Int))=0:=rfl
  rw [F_recapture_finder_clear_eq,clearM_eq]
  unfold F_recapture_finder_clear
  by_cases h6:hd.op=6
  ·have e6:(hd.op == 6)=true:=by simp [h6]
   rw [if_pos h6]
   have hgg:0≤hd.g∧hd.g.toNat < sp.length:=by simpa [h6] using hg1
   obtain ⟨q1,q2⟩:=hS1.st hgg.1 hgg.2 (-1) (-1)
   have e1:((afill [(0,1,(.int .i64 (-1))),(1,1,(.int .i64 (-1)))] [(.int .i64 0),(.int .i64 0)]).map AV.agg)=some (.agg [.int .i64 (-1),.int .i64 (-1)]):=rfl
   have hk1:Kpt [so] (H++[AObj.cells (reC hd x)]) ((H++[AObj.cells (reC hd x)]).set so (.cells (flat ((sp.set hd.g.toNat (-1,-1)).map spE)))):=Kpt.set _ _ (by simp)
   have hp2:=get_set_ne (.cells (flat ((sp.set hd.g.toNat (-1,-1)).map spE))) (show so ≠ H.length by omega) hp
   obtain ⟨H2,s1,s2,s3⟩:=clear_loop hx hl hk hfs (by omega) H args.length 0 (sp.set hd.g.toNat (-1,-1)) _ rfl (by omega) (by rw [List.length_set];exact hk1.get hF1 (by simp [hfs])) (get_set_eq _ hS1) (by rw [List.length_set];exact hg2)
   rw [List.drop_zero] at s2
   rw [i0] at s1
   simp only [Rt.hd,box_re,go_sem,ld_op hp,e6,hF1.ldP,ld_g hp,e1,q1,q2,recapture_finder_clear_J1_eq,ld_args hp2,hx.len,hl.1,s1]
   exact ⟨H2,rfl,s2,((Kpt.push _ _ _).trans hk1).trans s3⟩
  ·have e6:(hd.op == 6)=false:=by simp [h6]
   rw [if_neg h6]
   obtain ⟨H2,s1,s2,s3⟩:=clear_loop hx hl hk hfs (by omega) H args.length 0 sp _ rfl (by omega) hF1 hS1 hg2
   rw [List.drop_zero] at s2
   rw [i0] at s1
   simp only [Rt.hd,box_re,go_sem,ld_op hp,e6,recapture_finder_clear_J1_eq,ld_args hp,hx.len,hl.1,s1]
   exact ⟨H2,rfl,s2,(Kpt.push _ _ _).trans s3⟩
end
section
variable {E:Rt→Nat→Nat→List Bool} {S:Rt→Nat→Nat→Nat→List Bool}
theorem rep_len {E0:Nat→Nat→List Bool} {S0:Nat→List Bool} {F:Nat→Nat→Sp→Sp} {cl:Sp→Sp} (hF:∀ a b sp,(F a b sp).length=sp.length) (hc:∀ sp,(cl sp).length=sp.length) (lo hi:Int) (fr j:Nat):∀ (f c i:Nat) (sp:Sp),(repLoop E0 S0 F cl lo hi fr j f c i sp).length=sp.length
 | 0,c,i,sp=>rfl
 | f+1,c,i,sp=>by
  rw [repLoop]
  generalize longM (if lo≤(c:Int) then (E0 i j).set 0 false else E0 i j) i (S0 (if hi < 0 then min c lo.toNat else c)) fr (j - i+1)=k
  by_cases h1:hi < 0 ∨ (c:Int) < hi
  ·rw [if_pos h1]
   by_cases h2:k < 0
   ·rw [if_pos h2]
   ·rw [if_neg h2,rep_len hF hc lo hi fr j f,hF,hc]
  ·rw [if_neg h1]
theorem find_eq (h : Hd) (args : List Rt) (i j : Nat) (sp : Sp) : findM E S (.mk h args) i j sp = if h.op = 6 then (headF E S args i j sp).set h.g.toNat ((i : Int), (j : Int)) else if h.op = 4 then altF E S args i j sp else if h.op = 3 then catF E S (.mk h args) args 0 i j sp
    else if h.op=5 then repF E S (.mk h args) args i j sp else sp:=by rw [findM]
theorem find_len (e:Rt):∀ (i j:Nat) (sp:Sp),(findM E S e i j sp).length=sp.length:=by
 induction e using Rt.ind with
 | h hd args ih =>
  have hcat:∀ (e0:Rt) (l:List Rt),(∀ e ∈ l,∀ (i j:Nat) (sp:Sp),(findM E S e i j sp).length=sp.length)→∀ (t i j:Nat) (sp:Sp),(catF E S e0 l t i j sp).length=sp.length:=by
   intro e0 l
   induction l with
   | nil=>intro _ t i j sp;rw [catF]
   | cons e l ihl =>
    intro h t i j sp
    rw [catF]
    split
    ·rfl
    ·rw [ihl (fun x hx=>h x (by simp [hx])),h e (by simp)]
  have halt:∀ (l:List Rt),(∀ e ∈ l,∀ (i j:Nat) (sp:Sp),(findM E S e i j sp).length=sp.length)→∀ (i j:Nat) (sp:Sp),(altF E S l i j sp).length=sp.length:=by
   intro l
   induction l with
   | nil=>intro _ i j sp;rw [altF]
   | cons e l ihl =>
    intro h i j sp
    rw [altF]
    split
    ·exact h e (by simp) i j sp
    ·exact ihl (fun x hx=>h x (by simp [hx])) i j sp
  intro i j sp
  rw [find_eq]
  split
  ·rw [List.length_set]
   cases args with
   | nil=>rw [headF]
   | cons e l=>rw [headF];exact ih e (by simp) i j sp
  split
  ·exact halt args ih i j sp
  split
  ·exact hcat _ args ih 0 i j sp
  split
  ·cases args with
   | nil=>rw [repF]
   | cons e l =>
    rw [repF]
    exact rep_len (fun a b sp=>ih e (by simp) a b sp) (fun sp=>clear_len _ sp) _ _ _ _ _ _ _ _
  ·rfl
end
end Go.Am
namespace Go.Am
set_option linter.unusedSimpArgs false
set_option linter.unusedVariables false
set_option maxRecDepth 100000

section
variable {H:Hp} {T:Tb} {q so fo:Nat} {sp:Sp} {s:List UInt8} {lines:Bool} {spv:AV}
theorem noT (hI:InvT H T) {c:List AV} (hq:H[q]?=some (.cells c)) (hc:∀ h x hp xp xa fv rv,c ≠ ndC h x hp xp xa fv rv):T.nd q=none∧T.mp q=none:=by
 refine ⟨?_,?_⟩
 ·cases he:T.nd q with
  | none=>rfl
  | some e =>
   obtain ⟨⟨x,xp,xa,fv,om,h1,_⟩,_⟩:=hI.nd q e he
   rw [hq] at h1
   injection h1 with h1
   injection h1 with h1
   exact absurd h1 (hc _ _ _ _ _ _ _)
 ·cases he:T.mp q with
  | none=>rfl
  | some e =>
   obtain ⟨es,k,h1,_⟩:=hI.mp q e he
   rw [hq] at h1
   cases h1
theorem ndC_len (h:Hd) (x:AV) (hp:Hd) (xp xa fv rv:AV):(ndC h x hp xp xa fv rv).length=21:=rfl
theorem sp_len (h:SpAt H so sp):(flat (sp.map spE)).length=sp.length * 2:=by rw [flat_len_of (spE_ok sp),List.length_map]
theorem SpAt.out (hI:InvT H T) (h:SpAt H so sp):T.nd so=none∧T.mp so=none:=noT hI h fun _ _ _ _ _ _ _ he=>by
 have:=congrArg List.length he
 rw [sp_len h,ndC_len] at this
 omega
theorem SpAt.fw (hI:InvT H T) (h:SpAt H so sp):T.fw so=none:=by
 cases he:T.fw so with
 | none=>rfl
 | some e =>
  obtain ⟨x,b,h1,_⟩:=hI.fw so e he
  rw [h] at h1
  injection h1 with h1
  injection h1 with h1
  cases sp with
  | nil=>cases h1
  | cons p l =>
   rw [List.map_cons,flat_cons] at h1
   injection h1 with _ h1
   injection h1 with h1 _
   cases h1
theorem SpAt.outT (hI:InvT H T) (h:SpAt H so sp):OutT T [so]:=fun i hi=>by
 rw [List.mem_singleton.1 hi]
 exact ⟨(h.out hI).1,(h.out hI).2,h.fw hI⟩
theorem FdAt.out (hI:InvT H T) (h:FdAt H fo s lines spv):T.nd fo=none∧T.mp fo=none:=noT hI h fun _ _ _ _ _ _ _ he=>by
 have:=congrArg List.length he
 rw [ndC_len] at this
 cases this
theorem FdAt.ne (h:FdAt H fo s lines spv) (h':SpAt H so sp):fo ≠ so:=fun he=>by
 rw [he] at h
 have h2:H[so]?=some (.cells (flat (sp.map spE))):=h'
 rw [h] at h2
 injection h2 with h2
 injection h2 with h2
 have:=congrArg List.length h2
 rw [sp_len h'] at this
 simp at this
 omega
theorem box_out (hI:InvT H T) {v:AV} (h:H[q]?=some (.cells [v])):T.nd q=none∧T.mp q=none:=noT hI h fun _ _ _ _ _ _ _ he=>by
 have:=congrArg List.length he
 rw [ndC_len] at this
 cases this
theorem box_ne {v:AV} (h:H[q]?=some (.cells [v])) (h':SpAt H so sp):q ≠ so:=fun he=>by
 rw [he] at h
 have h2:H[so]?=some (.cells (flat (sp.map spE))):=h'
 rw [h] at h2
 injection h2 with h2
 injection h2 with h2
 have:=congrArg List.length h2
 rw [sp_len h'] at this
 simp at this
 omega
theorem BlAt.out (hI:InvT H T) {l:List Bool} (h:BlAt H q l):T.nd q=none∧T.mp q=none:=noT hI h fun _ _ _ _ _ _ _ he=>by
 cases l with
 | nil=>cases he
 | cons b l=>injection he with h1 _;cases h1
theorem BlAt.ne {l:List Bool} (hl:0 < l.length) (h:BlAt H q l) (h':SpAt H so sp):q ≠ so:=fun he=>by
 rw [he] at h
 have h2:H[so]?=some (.cells (flat (sp.map spE))):=h'
 rw [h] at h2
 injection h2 with h2
 injection h2 with h2
 cases l with
 | nil=>simp at hl
 | cons b l =>
  cases sp with
  | nil=>cases h2
  | cons p sp =>
   rw [List.map_cons,flat_cons] at h2
   injection h2 with h1 _
   cases h1
end
theorem endsM_len (s:List UInt8) (lines:Bool) (e:Rt) {i j:Nat} (h:i≤j):(endsM s lines e i j).length=j - i+1:=by unfold endsM;rw [reachM_len];omega
theorem startsM_len (s:List UInt8) (lines:Bool) (e:Rt) (k:Nat) {i j:Nat} (h:i≤j):(startsM s lines e k i j).length=j - i+1:=by unfold startsM;rw [reachM_len];omega
section
variable {fo so:Nat} {s:List UInt8} {lines:Bool}
def FindRun (fo so:Nat) (s:List UInt8) (lines:Bool) (e:Rt):Prop:=∀ (H:Hp) (T:Tb) (o i j:Nat) (sp:Sp),InvT H T→T.nd o=some e→FdAt H fo s lines (spV so sp.length)→SpAt H so sp→grB sp.length e=true→i≤j→j≤s.length →
 ∃ H' T',C_recapture_finder_find [.ptr fo 0,.ptr o 0,.int .i64 (i:Int),.int .i64 (j:Int)] H=some (.tuple [],H')∧SpAt H' so (findM (endsM s lines) (startsM s lines) e i j sp)∧Sf [so] H T H' T'
theorem Sf.all {W:List Nat} {H H':Hp} {T T':Tb} {spv:AV} (h:Sf W H T H' T') (hI:InvT H T) (hF:FdAt H fo s lines spv) (hn:fo ∉ W):FdAt H' fo s lines spv:=h.get hF hn (hF.out hI).1 (hF.out hI).2
theorem Sf.spans {H H':Hp} {T T':Tb} {sp:Sp} (h:Sf [] H T H' T') (hI:InvT H T) (hS:SpAt H so sp):SpAt H' so sp:=h.get hS (by simp) (hS.out hI).1 (hS.out hI).2
theorem alt_run (hs : s.length ≤ 3000000) {A : List Rt} (ih : ∀ e ∈ A, FindRun fo so s lines e) (hb : A.length ≤ 1000000) {xa : AV} {i j : Nat} (hij : i ≤ j) (hj : j ≤ s.length) (H0 : Hp) :
    ∀ (k t:Nat) (sp:Sp) (Hc:Hp) (T:Tb),A.length - t=k→t≤A.length→InvT Hc T→ChOk T xa A→FdAt Hc fo s lines (spV so sp.length)→SpAt Hc so sp→grL sp.length A=true →
    ∃ H' T',recapture_finder_find_L1 (.ptr fo 0) (.int .i64 (i:Int)) (.int .i64 (j:Int)) xa (.int .i64 (A.length:Int)) (.int .i64 (t:Int)) H0 Hc=some (.tuple [],H')∧SpAt H' so (altF (endsM s lines) (startsM s lines) (A.drop t) i j sp)∧Sf [so] Hc T H' T':=by
 intro k
 induction k with
 | zero =>
  intro t sp Hc T hk ht hI hC hF hS hg
  have hlt:decide ((t:Int) < (A.length:Int))=false:=decide_eq_false (by omega)
  have hdr:A.drop t=[]:=List.drop_eq_nil_iff.2 (by omega)
  rw [recapture_finder_find_L1_eq,hdr,altF]
  simp only [go_sem,hlt]
  exact ⟨Hc,T,rfl,hS,Sf.refl hI⟩
 | succ k ihk =>
  intro t sp Hc T hk ht hI hC hF hS hg
  have hL:t < A.length:=by omega
  have hlt:decide ((t:Int) < (A.length:Int))=true:=decide_eq_true (by omega)
  have hdr:=List.drop_eq_getElem_cons hL
  obtain ⟨c,q1,q2⟩:=hC.idx (List.getElem?_eq_getElem hL)
  have hm:=List.getElem_mem hL
  obtain ⟨oo,H1,T1,r1,r2,r3,r4⟩:=ends_run hI q2 hF (hF.out hI) hs (i:=i) (j:=j) (by omega) hj
  have hel:=endsM_len s lines A[t] hij
  have hF1:=r4.all hI hF (by simp)
  have hS1:=r4.spans hI hS
  have hwd:IntKind.i64.wrap ((j:Int) - (i:Int))=((j - i:Nat):Int):=by rw [wrap64 (by omega) (by omega)];omega
  have hld:=r2.ld (k:=j - i) (by omega)
  rw [recapture_finder_find_L1_eq,hdr,altF]
  cases hb2:(endsM s lines A[t] i j).getD (j - i) false with
  | true =>
   rw [hb2] at hld
   obtain ⟨H2,T2,s1,s2,s3⟩:=ih _ hm H1 T1 c i j sp r4.inv (by rw [r4.nd];exact q2) hF1 hS1 (grL_iff.1 hg _ hm) hij hj
   rw [if_pos rfl]
   simp only [go_sem,hlt,recapture_finder_find_J1_eq,q1,ld_vp1,r1,hwd,bl_idx oo _ (show j - i < (endsM s lines A[t] i j).length by omega),hld,s1]
   exact ⟨H2,T2,rfl,s2,(r4.weak (by simp)).trans s3⟩
  | false =>
   rw [hb2] at hld
   obtain ⟨H2,T2,s1,s2,s3⟩:=ihk (t+1) sp H1 T1 (by omega) (by omega) r4.inv (by unfold ChOk at hC ⊢;rw [r4.nd];exact hC) hF1 hS1 hg
   rw [if_neg (by decide)]
   simp only [go_sem,hlt,recapture_finder_find_J1_eq,q1,ld_vp1,r1,hwd,bl_idx oo _ (show j - i < (endsM s lines A[t] i j).length by omega),hld,recapture_finder_find_J2_eq,wsucc (n:=t) (by omega),s1]
   exact ⟨H2,T2,rfl,s2,(r4.weak (by simp)).trans s3⟩
theorem cat_run (hs : s.length ≤ 3000000) {e : Rt} (h3 : e.hd.op = 3) (ih : ∀ x ∈ e.args, FindRun fo so s lines x) (hb : e.args.length ≤ 1000000) {xa : AV} {o bn j : Nat} (hj : j ≤ s.length) (H0 : Hp) :
    ∀ (k t i:Nat) (sp:Sp) (Hc:Hp) (T:Tb),e.args.length - t=k→t≤e.args.length→i≤j→InvT Hc T→T.nd o=some e→ChOk T xa e.args→Hc[bn]?=some (.cells [.ptr o 0])→FdAt Hc fo s lines (spV so sp.length)→SpAt Hc so sp→grL sp.length e.args=true →
    ∃ H' T',recapture_finder_cat_L1 (.ptr fo 0) (.int .i64 (i:Int)) (.int .i64 (j:Int)) (.ptr bn 0) xa (.int .i64 (e.args.length:Int)) (.int .i64 (t:Int)) H0 Hc=some (.tuple [],H')∧SpAt H' so (catF (endsM s lines) (startsM s lines) e (e.args.drop t) t i j sp)∧Sf [so] Hc T H' T':=by
 intro k
 induction k with
 | zero =>
  intro t i sp Hc T hk ht hij hI ho hC hbn hF hS hg
  have hlt:decide ((t:Int) < (e.args.length:Int))=false:=decide_eq_false (by omega)
  have hdr:e.args.drop t=[]:=List.drop_eq_nil_iff.2 (by omega)
  rw [recapture_finder_cat_L1_eq,hdr,catF]
  simp only [go_sem,hlt]
  exact ⟨Hc,T,rfl,hS,Sf.refl hI⟩
 | succ k ihk =>
  intro t i sp Hc T hk ht hij hI ho hC hbn hF hS hg
  have hL:t < e.args.length:=by omega
  have hlt:decide ((t:Int) < (e.args.length:Int))=true:=decide_eq_true (by omega)
  have hdr:=List.drop_eq_getElem_cons hL
  obtain ⟨c,q1,q2⟩:=hC.idx (List.getElem?_eq_getElem hL)
  have hm:=List.getElem_mem hL
  -- the number t in a box
  have hst:astoreU 1 (.ptr Hc.length 0) (.int .i64 (t:Int)) (Hc++[AObj.cells [(.int .i64 0)]])=some (.tuple [],Hc++[.cells [.int .i64 (t:Int)]]):=by
   rw [astore_of (sz:=1) (v:=.int .i64 (t:Int)) (l:=[.int .i64 0]) (by simp) rfl rfl (by simp)]
   simp [splice,AV.cells]
  have hbt:=get_push_len Hc (AObj.cells [.int .i64 (t:Int)]) []
  have hbn1:=get_push hbn [AObj.cells [.int .i64 (t:Int)]]
  have hI1:InvT (Hc++[AObj.cells [.int .i64 (t:Int)]]) T:=nd_push hI _
  have hF1:FdAt (Hc++[AObj.cells [.int .i64 (t:Int)]]) fo s lines (spV so sp.length):=get_push hF _
  have hS1:SpAt (Hc++[AObj.cells [.int .i64 (t:Int)]]) so sp:=get_push hS _
  have lbn:aload false 1 (.ptr bn 0) (Hc++[AObj.cells [.int .i64 (t:Int)]])=some (.ptr o 0):=by rw [aload_of hbn1];rfl
  have lbt:aload false 1 (.ptr Hc.length 0) (Hc++[AObj.cells [.int .i64 (t:Int)]])=some (.int .i64 (t:Int)):=by rw [aload_of hbt];rfl
  obtain ⟨o2,H2,T2,r1,r2,r3,r4⟩:=starts_run hI1 ho hF1 (hF1.out hI1) hs (i:=i) (j:=j) (by omega) hj t (clo:=.fn (.func 58) [] [.ptr bn 0,.ptr Hc.length 0]) (fun l=>cat1_run (nd_push hI1 l) ho h3 hL (get_push hbn1 l) (get_push hbt l))
  have hF2:=r4.all hI1 hF1 (by simp)
  have hS2:=r4.spans hI1 hS1
  obtain ⟨o3,H3,T3,s1,s2,s3,s4⟩:=ends_run r4.inv (by rw [r4.nd];exact q2) hF2 (hF2.out r4.inv) hs (i:=i) (j:=j) (by omega) hj
  have hF3:=s4.all r4.inv hF2 (by simp)
  have hS3:=s4.spans r4.inv hS2
  have r2':BlAt H3 o2 (startsM s lines e t i j):=s4.get r2 (by simp) (r2.out r4.inv).1 (r2.out r4.inv).2
  have hel:=endsM_len s lines e.args[t] hij
  have hsl:=startsM_len s lines e t hij
  have hlg:=longest_run s2 r2' (fr:=i) (lo:=i) (Nat.le_refl _) (by omega) (by omega)
  rw [hel] at hlg
  have hsf:Sf [so] Hc T H3 T3:=(((Sf.of_kpt hI (Kpt.push [] Hc _) (fun i hi=>by cases hi)).trans r4).trans s4).weak (by simp)
  rw [recapture_finder_cat_L1_eq,hdr,catF]
  have hlb:=longM_bd (endsM s lines e.args[t] i j) i (startsM s lines e t i j) i (j - i+1)
  generalize hkk:longM (endsM s lines e.args[t] i j) i (startsM s lines e t i j) i (j - i+1)=kk at *
  by_cases hneg:kk < 0
  ·have hdn:decide (kk < 0)=true:=decide_eq_true hneg
   rw [if_pos hneg]
   simp only [go_sem,hlt,recapture_finder_cat_J1_eq,q1,ld_vp1,hst,lbn,lbt,r1,s1,hlg,hdn]
   exact ⟨H3,T3,rfl,hS3,hsf⟩
  ·have hdn:decide (kk < 0)=false:=decide_eq_false hneg
   rw [if_neg hneg]
   obtain ⟨m,hm1,hm2,_⟩:∃ m,m < j - i+1∧kk=((i+m:Nat):Int)∧(endsM s lines e.args[t] i j).getD m false=true:=by
    rcases hlb with h | h
    ·omega
    ·exact h
   clear hlb
   have hkt:kk.toNat=i+m:=by omega
   rw [hkt]
   obtain ⟨H4,T4,u1,u2,u3⟩:=ih _ hm H3 T3 c i (i+m) sp s4.inv (by rw [s4.nd,r4.nd];exact q2) hF3 hS3 (grL_iff.1 hg _ hm) (by omega) (by omega)
   have hln:=find_len (E:=endsM s lines) (S:=startsM s lines) e.args[t] i (i+m) sp
   have hsf4:=hsf.trans u3
   have hfs:=hF.ne hS
   have hF4:FdAt H4 fo s lines (spV so sp.length):=hsf4.all hI hF (by simp [hfs])
   have hbn4:H4[bn]?=some (.cells [.ptr o 0]):=hsf4.get hbn (by simp [box_ne hbn hS]) (box_out hI hbn).1 (box_out hI hbn).2
   obtain ⟨H5,T5,v1,v2,v3⟩:=ihk (t+1) (i+m) (findM (endsM s lines) (startsM s lines) e.args[t] i (i+m) sp) H4 T4 (by omega) (by omega) (by omega) hsf4.inv (by rw [hsf4.nd];exact ho) (by unfold ChOk at hC ⊢;rw [hsf4.nd];exact hC) hbn4 (by rw [hln];exact hF4) u2 (by rw [hln];exact hg)
   rw [hm2] at hlg hdn
   simp only [go_sem,hlt,recapture_finder_cat_J1_eq,q1,ld_vp1,hst,lbn,lbt,r1,s1,hlg,hdn,recapture_finder_cat_J3_eq,u1,recapture_finder_cat_J2_eq,wsucc (n:=t) (by omega),v1]
   exact ⟨H5,T5,rfl,v2,hsf4.trans v3⟩
end
end Go.Am
namespace Go.Am
set_option linter.unusedSimpArgs false
set_option linter.unusedVariables false
set_option maxRecDepth 100000

section
variable {fo so:Nat} {s:List UInt8} {lines:Bool}
def SetsAt (s:List UInt8) (lines:Bool) (e:Rt) (fr j:Nat) (H:Hp) (om:Nat):Prop:=∃ es k,H[om]?=some (.map es k)∧∀ en ∈ es,∃ (key oo:Nat),en.1=.int .i64 (key:Int)∧en.2.1=blV oo (startsM s lines e key fr j)∧BlAt H oo (startsM s lines e key fr j)
theorem SetsAt.get {e:Rt} {fr j:Nat} {H H':Hp} {om:Nat} {T T':Tb} {W:List Nat} (h:SetsAt s lines e fr j H om) (hf:Sf W H T H' T') (hI:InvT H T) (hm:T.mp om=none) (hw:om ∉ W∧∀ oo l,BlAt H oo l→0 < l.length→oo ∉ W) (hfj:fr≤j):SetsAt s lines e fr j H' om:=by
 obtain ⟨es,k,h1,h2⟩:=h
 have hnd:T.nd om=none:=by
  cases he:T.nd om with
  | none=>rfl
  | some e =>
   obtain ⟨⟨x,xp,xa,fv,om,q1,_⟩,_⟩:=hI.nd om e he
   rw [h1] at q1
   cases q1
 refine ⟨es,k,hf.get h1 hw.1 hnd hm,fun en hen=>?_⟩
 obtain ⟨key,oo,a1,a2,a3⟩:=h2 en hen
 exact ⟨key,oo,a1,a2,hf.get a3 (hw.2 oo _ a3 (by rw [startsM_len s lines e key hfj];omega)) (a3.out hI).1 (a3.out hI).2⟩
theorem map_ne_sp {H:Hp} {om:Nat} {es:List (AV × AV × Nat)} {k:Nat} {sp:Sp} (h:H[om]?=some (.map es k)) (h':SpAt H so sp):om ≠ so:=fun he=>by
 rw [he] at h
 have h2:H[so]?=some (.cells (flat (sp.map spE))):=h'
 rw [h] at h2
 cases h2
theorem rep_run' (hs : s.length ≤ 3000000) {e x : Rt} {l : List Rt} (h5 : e.hd.op = 5) (hargs : e.args = x :: l) (hwd : wd e ≤ 1000000) (ih : FindRun fo so s lines x) {o bn om fr j : Nat} (hj : j ≤ s.length) (hlo : 0 ≤ e.hd.lo ∧ e.hd.lo ≤ 64 ∧ (e.hd.hi = -1 ∨ e.hd.lo ≤ e.hd.hi ∧ e.hd.hi ≤ 64)) (H0 : Hp) :
    ∀ (f c i:Nat) (sp:Sp) (Hc:Hp) (T:Tb),(j - i)+(64 - c)+1≤f→fr≤i→i≤j→c≤65+(i - fr)→InvT Hc T→T.nd o=some e→T.mp om=none→SetsAt s lines e fr j Hc om→Hc[bn]?=some (.cells [.ptr o 0])→FdAt Hc fo s lines (spV so sp.length)→SpAt Hc so sp→grB sp.length e=true →
    ∃ H' T',recapture_finder_repeat_L1 (.ptr fo 0) (.int .i64 (i:Int)) (.int .i64 (j:Int)) (.ptr bn 0) (.int .i64 e.hd.lo) (.int .i64 e.hd.hi) (.map om) (.int .i64 (fr:Int)) (.int .i64 (c:Int)) H0 Hc=some (.tuple [],H') ∧
     SpAt H' so (repLoop (fun a b=>endsM s lines x a b) (fun k=>startsM s lines e k fr j) (fun a b sp=>findM (endsM s lines) (startsM s lines) x a b sp) (clearM e) e.hd.lo e.hd.hi fr j f c i sp)∧Sf [so,om] Hc T H' T':=by
 obtain ⟨l1,l2,l3⟩:=hlo
 intro f
 induction f with
 | zero=>intro c i sp Hc T hf;omega
 | succ f ihf =>
  intro c i sp Hc T hf hfi hij hcb hI ho hmp hSet hbn hF hS hg
  rw [recapture_finder_repeat_L1_eq,repLoop]
  by_cases hgo:e.hd.hi < 0 ∨ (c:Int) < e.hd.hi
  rotate_left
  ·-- the end
   have n1:decide (e.hd.hi < 0)=false:=decide_eq_false (fun h=>hgo (.inl h))
   have n2:decide ((c:Int) < e.hd.hi)=false:=decide_eq_false (fun h=>hgo (.inr h))
   rw [if_neg hgo]
   simp only [go_sem,n1,n2]
   exact ⟨Hc,T,rfl,hS,Sf.refl hI⟩
  rw [if_pos hgo]
  have hge:grB sp.length e=true:=hg
  have hgx:grB sp.length x=true:=by
   rw [Rt.eta e,grB_eq,Bool.and_eq_true,hargs] at hg
   exact grL_iff.1 hg.2 x (by simp)
  have hfs:=hF.ne hS
  have hmc:∀ {q:Nat} {cc:List AV},Hc[q]?=some (.cells cc)→q ≠ om:=fun {q cc} hq he=>by
   obtain ⟨es,k,h1,_⟩:=hSet
   rw [he,h1] at hq
   cases hq
  -- from the look for the key on
  have tail : ∀ (key : Nat) (x13 : AV) (H2 : Hp) (T2 : Tb), key = (if e.hd.hi < 0 then min c e.hd.lo.toNat else c) → Sf [om] Hc T H2 T2 → SetsAt s lines e fr j H2 om → FdAt H2 fo s lines (spV so sp.length) → SpAt H2 so sp → H2[bn]? = some (.cells [.ptr o 0]) →
      (x13=.vp [.int .i64 (key:Int)] ∨ ∃ kb,x13=.ptr kb 0∧H2[kb]?=some (.cells [.int .i64 (key:Int)])) →
      (∃ v n es kc,H2[om]?=some (.map es kc)∧(.int .i64 (key:Int),v,n) ∈ es) →
      ∃ H' T',recapture_finder_repeat_J4 (.ptr fo 0) (.int .i64 (i:Int)) (.int .i64 (j:Int)) (.ptr bn 0) (.int .i64 e.hd.lo) (.int .i64 e.hd.hi) (.map om) (.int .i64 (fr:Int)) (.int .i64 (c:Int)) x13 H0 H2=some (.tuple [],H') ∧
       SpAt H' so (if longM (if e.hd.lo≤(c:Int) then (endsM s lines x i j).set 0 false else endsM s lines x i j) i (startsM s lines e (if e.hd.hi < 0 then min c e.hd.lo.toNat else c) fr j) fr (j - i+1) < 0 then sp
        else repLoop (fun a b=>endsM s lines x a b) (fun k=>startsM s lines e k fr j) (fun a b sp=>findM (endsM s lines) (startsM s lines) x a b sp) (clearM e) e.hd.lo e.hd.hi fr j f (c+1) (longM (if e.hd.lo≤(c:Int) then (endsM s lines x i j).set 0 false else endsM s lines x i j) i (startsM s lines e (if e.hd.hi < 0 then min c e.hd.lo.toNat else c) fr j) fr (j - i+1)).toNat
         (findM (endsM s lines) (startsM s lines) x i (longM (if e.hd.lo≤(c:Int) then (endsM s lines x i j).set 0 false else endsM s lines x i j) i (startsM s lines e (if e.hd.hi < 0 then min c e.hd.lo.toNat else c) fr j) fr (j - i+1)).toNat (clearM e sp)))∧Sf [so,om] Hc T H' T':=by
   intro key x13 H2 T2 hkey hsf hSet2 hF2 hS2 hbn2 hx13 hex
   rw [← hkey]
   obtain ⟨⟨y,yp,ya,yf,ym,k1,k2,k3,k4,k5,k6⟩,hok⟩:=hsf.inv.nd o e (by rw [hsf.nd];exact ho)
   obtain ⟨cx,q1,q2⟩:=k4.idx (i:=0) (e:=x) (by rw [hargs];rfl)
   have i0:(((0:Nat):Int))=0:=rfl
   rw [i0] at q1
   have lbn:∀ {w:Hp},w[bn]?=some (.cells [.ptr o 0])→aload false 1 (.ptr bn 0) w=some (.ptr o 0):=fun h=>by rw [aload_of h];rfl
   obtain ⟨oe,H3,T3,r1,r2,r3,r4⟩:=ends_run hsf.inv q2 hF2 (hF2.out hsf.inv) hs (i:=i) (j:=j) (by omega) hj
   have hel:=endsM_len s lines x hij
   have hF3:=r4.all hsf.inv hF2 (by simp)
   have hS3:=r4.spans hsf.inv hS2
   have hmp2:T2.mp om=none:=by rw [hsf.mp];exact hmp
   have hSet3:SetsAt s lines e fr j H3 om:=hSet2.get r4 hsf.inv hmp2 ⟨by simp,fun _ _ _ _=>by simp⟩ (by omega)
   have hbn3:H3[bn]?=some (.cells [.ptr o 0]):=r4.get hbn2 (by simp) (box_out hsf.inv hbn2).1 (box_out hsf.inv hbn2).2
   -- the list of ends,perhaps without the first
   obtain ⟨el,hel',ell⟩:∃ el,(if e.hd.lo≤(c:Int) then (endsM s lines x i j).set 0 false else endsM s lines x i j)=el∧el.length=j - i+1:=⟨_,rfl,by split <;> simp [hel]⟩
   have hfirst:e.hd.lo≤(c:Int)→el.getD 0 false=false:=fun h=>by
    rw [← hel',if_pos h,List.getD_eq_getElem?_getD,List.getElem?_set_self (by omega)]
    rfl
   have hstep : ∃ H4, (cnd (.bool (decide (e.hd.lo ≤ (c : Int)))) (bnd (aindexS 1 (blV oe (endsM s lines x i j)) (.int .i64 0)) fun t76 => bnd (astoreU 1 t76 (.bool false) H3) fun r => recapture_finder_repeat_J5 (.ptr fo 0) (.int .i64 (i : Int)) (.int .i64 (j : Int)) (.ptr bn 0) (.int .i64 e.hd.lo) (.int .i64 e.hd.hi) (.map om) (.int .i64 (fr : Int)) (.int .i64 (c : Int)) x13 (blV oe (endsM s lines x i j)) H0 r.2)
       (recapture_finder_repeat_J5 (.ptr fo 0) (.int .i64 (i:Int)) (.int .i64 (j:Int)) (.ptr bn 0) (.int .i64 e.hd.lo) (.int .i64 e.hd.hi) (.map om) (.int .i64 (fr:Int)) (.int .i64 (c:Int)) x13 (blV oe (endsM s lines x i j)) H0 H3)) =
       recapture_finder_repeat_J5 (.ptr fo 0) (.int .i64 (i:Int)) (.int .i64 (j:Int)) (.ptr bn 0) (.int .i64 e.hd.lo) (.int .i64 e.hd.hi) (.map om) (.int .i64 (fr:Int)) (.int .i64 (c:Int)) x13 (blV oe el) H0 H4∧BlAt H4 oe el∧Kpt [oe] H3 H4:=by
    by_cases hlc:e.hd.lo≤(c:Int)
    ·have hd:decide (e.hd.lo≤(c:Int))=true:=decide_eq_true hlc
     rw [if_pos hlc] at hel'
     have hix:=bl_idx oe (endsM s lines x i j) (k:=0) (by omega)
     rw [i0] at hix
     have hst:=r2.st (k:=0) (by omega) false
     refine ⟨H3.set oe (.cells (bL ((endsM s lines x i j).set 0 false))),?_,by rw [← hel'];exact get_set_eq _ r2,Kpt.set _ _ (by simp)⟩
     simp only [hd,cnd_t,hix,bnd_some,hst]
     rw [← hel']
     simp [blV]
    ·have hd:decide (e.hd.lo≤(c:Int))=false:=decide_eq_false hlc
     rw [if_neg hlc] at hel'
     refine ⟨H3,?_,by rw [← hel'];exact r2,Kpt.refl _ _⟩
     simp only [hd,cnd_f]
     rw [← hel']
   obtain ⟨H4,t1,t2,t3⟩:=hstep
   have hout:OutT T3 [oe]:=fun q hq=>by
    rw [List.mem_singleton.1 hq]
    refine ⟨(r2.out r4.inv).1,(r2.out r4.inv).2,?_⟩
    cases he:T3.fw oe with
    | none=>rfl
    | some e2 =>
     obtain ⟨xv,b,w1,w2⟩:=r4.inv.fw oe e2 he
     rw [r2] at w1
     injection w1 with w1
     injection w1 with w1
     cases hcs:endsM s lines x i j with
     | nil=>rw [hcs] at hel;simp at hel
     | cons b1 bl =>
      rw [hcs] at w1
      injection w1 with w1 _
      rcases w2 with ⟨h,_⟩ | h | h <;> rw [h] at w1 <;> cases w1
   have hsf4:Sf [oe] H3 T3 H4 T3:=Sf.of_kpt r4.inv t3 hout
   -- oe is none of the others
   have hoe:H2.length≤oe:=r3
   have hF4:FdAt H4 fo s lines (spV so sp.length):=t3.get hF3 (by have:=lt_of_get hF2;simp;omega)
   have hS4:SpAt H4 so sp:=t3.get hS3 (by have:=lt_of_get hS2;simp;omega)
   have hbn4:H4[bn]?=some (.cells [.ptr o 0]):=t3.get hbn3 (by have:=lt_of_get hbn2;simp;omega)
   obtain ⟨v,n,es,kc,m1,m2⟩:=hex
   have hSet4:SetsAt s lines e fr j H4 om∧∃ o2,alookup (.int .i64) .nils false (.map om) (.int .i64 (key:Int)) H4=some (blV o2 (startsM s lines e key fr j))∧BlAt H4 o2 (startsM s lines e key fr j):=by
    obtain ⟨es2,kc2,p1,p2⟩:=hSet2
    rw [m1] at p1
    injection p1 with p1
    injection p1 with p1 p1'
    subst p1
    have hne:∀ q,q < H2.length→q ≠ oe:=fun q hq=>by omega
    have g3:H3[om]?=some (.map es kc):=r4.get m1 (by simp) (by
     cases he:T2.nd om with
     | none=>rfl
     | some e2 =>
      obtain ⟨⟨_,_,_,_,_,w1,_⟩,_⟩:=hsf.inv.nd om e2 he
      rw [m1] at w1
      cases w1) hmp2
    have g4:H4[om]?=some (.map es kc):=t3.get g3 (by have:=hne om (lt_of_get m1);simp;omega)
    have b4:∀ en ∈ es,∃ (key oo:Nat),en.1=.int .i64 (key:Int)∧en.2.1=blV oo (startsM s lines e key fr j)∧BlAt H4 oo (startsM s lines e key fr j):=fun en hen=>by
     obtain ⟨k',oo,a1,a2,a3⟩:=p2 en hen
     exact ⟨k',oo,a1,a2,t3.get (r4.get a3 (by simp) (a3.out hsf.inv).1 (a3.out hsf.inv).2) (by have:=hne oo (lt_of_get a3);simp;omega)⟩
    refine ⟨⟨es,kc,g4,b4⟩,?_⟩
    rcases look_int g4 (fun en hen=>by obtain ⟨k',_,a1,_⟩:=b4 en hen;exact ⟨_,a1⟩) .nils (key:Int) with ⟨hf0,_⟩ | ⟨v2,n2,w1,w2⟩
    ·exfalso
     have:∀ (es:List (AV × AV × Nat)) (i:Nat),(∀ en ∈ es,∃ n:Int,en.1=.int .i64 n)→(.int .i64 (key:Int),v,n) ∈ es→findK (.int .i64 (key:Int)) es i ≠ some none:=by
      intro es
      induction es with
      | nil=>intro i _ hm;cases hm
      | cons en es ihe =>
       intro i hall hm hfk
       obtain ⟨n0,hn0⟩:=hall en (by simp)
       unfold findK at hfk
       rw [hn0] at hfk
       have hks:keySame (.int .i64 (key:Int)) (.int .i64 n0)=some ((key:Int) == n0):=by simp [keySame]
       rw [hks] at hfk
       by_cases he:(key:Int)=n0
       ·have hb:((key:Int) == n0)=true:=by simpa using he
        rw [hb] at hfk
        simp at hfk
       ·have hb:((key:Int) == n0)=false:=by simpa using he
        rw [hb] at hfk
        simp only at hfk
        rcases List.mem_cons.1 hm with hm | hm
        ·rw [← hm] at hn0
         injection hn0 with _ hn0
         exact he hn0
        ·exact ihe (i+1) (fun x hx=>hall x (by simp [hx])) hm hfk
     exact this es 0 (fun en hen=>by obtain ⟨k',_,a1,_⟩:=b4 en hen;exact ⟨_,a1⟩) m2 hf0
    ·have w2:=w2 false
     rw [if_neg (by decide)] at w2
     obtain ⟨k',oo,a1,a2,a3⟩:=b4 _ w1
     simp only at a1 a2
     have hkk:key=k':=by injection a1 with _ a1;omega
     subst hkk
     exact ⟨oo,by rw [w2,a2],a3⟩
   obtain ⟨hSet4,o2,lk,lb⟩:=hSet4
   have hsl:=startsM_len s lines e key (i:=fr) (j:=j) (by omega)
   have hlg:=longest_run t2 lb (fr:=i) (lo:=fr) hfi (by omega) (by omega)
   rw [ell] at hlg
   have l13:aload false 1 x13 H4=some (.int .i64 (key:Int)):=by
    rcases hx13 with rfl | ⟨kb,rfl,hkb⟩
    ·rfl
    ·have h3:=r4.get hkb (by simp) (box_out hsf.inv hkb).1 (box_out hsf.inv hkb).2
     rw [aload_of (t3.get h3 (by have:=lt_of_get hkb;simp;omega))]
     rfl
   have hsfA:Sf [so,om] Hc T H4 T3:=by
    have h1:=hsf.trans (r4.weak (by simp))
    exact ⟨h1.nd,h1.mp,hsf4.inv,Nat.le_trans h1.len hsf4.len,fun q hq hn a b=>(hsf4.kept q (Nat.lt_of_lt_of_le hq h1.len) (by have:=hsf.len;simp;omega) (by rw [h1.nd];exact a) (by rw [h1.mp];exact b)).trans (h1.kept q hq (fun hm=>hn (by simp at hm;simp [hm])) a b)⟩
   rw [hel']
   have hlb:=longM_bd el i (startsM s lines e key fr j) fr (j - i+1)
   rw [recapture_finder_repeat_J4_eq]
   simp only [go_sem,lbn hbn2,nd_args k1,q1,ld_vp1,r1]
   rw [t1,recapture_finder_repeat_J5_eq]
   generalize hkk:longM el i (startsM s lines e key fr j) fr (j - i+1)=kk at *
   by_cases hneg:kk < 0
   ·have hdn:decide (kk < 0)=true:=decide_eq_true hneg
    rw [if_pos hneg]
    simp only [go_sem,l13,lk,hlg,hdn]
    exact ⟨H4,T3,rfl,hS4,hsfA⟩
   ·have hdn:decide (kk < 0)=false:=decide_eq_false hneg
    rw [if_neg hneg]
    obtain ⟨m,hm1,hm2,hm3⟩:∃ m,m < j - i+1∧kk=((i+m:Nat):Int)∧el.getD m false=true:=by
     rcases hlb with h | h
     ·omega
     ·exact h
    clear hlb
    have hkt:kk.toNat=i+m:=by omega
    have hmpos:e.hd.lo≤(c:Int)→1≤m:=fun h=>by
     rcases Nat.eq_zero_or_pos m with h0 | h0
     ·rw [h0,hfirst h] at hm3;cases hm3
     ·exact h0
    rw [hkt]
    -- the node at this time
    obtain ⟨⟨z,zp,za,zf,zm,y1,y2,y3,y4,y5,y6⟩,_⟩:=hsf4.inv.nd o e (by rw [r4.nd,hsf.nd];exact ho)
    obtain ⟨H5,c1,c2,c3⟩:=clear_run (s:=s) (lines:=lines) hfs e hwd (reV e.hd z) H4 sp y2 hF4 hS4 hge
    have hcl:=clear_len e sp
    have hsf5:Sf [so] H4 T3 H5 T3:=Sf.of_kpt hsf4.inv c3 (hS4.outT hsf4.inv)
    have hF5:FdAt H5 fo s lines (spV so (clearM e sp).length):=by rw [hcl];exact c3.get hF4 (by simp [hfs])
    have hbn5:H5[bn]?=some (.cells [.ptr o 0]):=c3.get hbn4 (by simp [box_ne hbn4 hS4])
    have y1':H5[o]?=some (.cells (ndC e.hd z (bareM e).hd zp za zf (.map zm))):=c3.get y1 (by
     have:=hS4.outT hsf4.inv so (by simp)
     simp only [List.mem_singleton]
     intro he
     have hoo:T3.nd o=some e:=by rw [r4.nd,hsf.nd];exact ho
     rw [he,this.1] at hoo
     cases hoo)
    obtain ⟨cx2,g1,g2⟩:=y4.idx (i:=0) (e:=x) (by rw [hargs];rfl)
    rw [i0] at g1
    obtain ⟨H6,T6,u1,u2,u3⟩:=ih H5 T3 cx2 i (i+m) (clearM e sp) hsf5.inv g2 hF5 c2 (by rw [hcl];exact hgx) (by omega) (by omega)
    have hln:=find_len (E:=endsM s lines) (S:=startsM s lines) x i (i+m) (clearM e sp)
    have hsf6:=(hsfA.trans (hsf5.weak (W':=[so,om]) fun q hq _=>by simp at hq;simp [hq])).trans (u3.weak (W':=[so,om]) fun q hq _=>by simp at hq;simp [hq])
    have hF6:FdAt H6 fo s lines (spV so sp.length):=hsf6.all hI hF (by simp [hfs,hmc hF])
    have hbn6:H6[bn]?=some (.cells [.ptr o 0]):=hsf6.get hbn (by simp [box_ne hbn hS,hmc hbn]) (box_out hI hbn).1 (box_out hI hbn).2
    have hmp4:T3.mp om=none:=by rw [r4.mp];exact hmp2
    have hSet6:SetsAt s lines e fr j H6 om:=by
     obtain ⟨es4,kc4,p1,p2⟩:=hSet4
     exact SetsAt.get ⟨es4,kc4,p1,p2⟩ (hsf5.trans u3) hsf4.inv hmp4 ⟨by simp [map_ne_sp p1 hS4],fun oo l hb hl=>by simp [hb.ne hl hS4]⟩ (by omega)
    obtain ⟨H7,T7,v1,v2,v3⟩:=ihf (c+1) (i+m) (findM (endsM s lines) (startsM s lines) x i (i+m) (clearM e sp)) H6 T6 (by
     by_cases hlc:e.hd.lo≤(c:Int)
     ·have:=hmpos hlc;omega
     ·omega) (by omega) (by omega) (by
     by_cases hlc:e.hd.lo≤(c:Int)
     ·have:=hmpos hlc;omega
     ·omega) hsf6.inv (by rw [hsf6.nd];exact ho) (by rw [hsf6.mp];exact hmp) hSet6 hbn6 (by rw [hln,hcl];exact hF6) u2 (by rw [hln,hcl];exact hge)
    rw [hm2] at hlg hdn
    simp only [go_sem,l13,lk,hlg,hdn,recapture_finder_repeat_J6_eq,lbn hbn4,nd_e y1,c1,lbn hbn5,nd_args y1',g1,ld_vp1,u1,recapture_finder_repeat_J2_eq,wsucc (n:=c) (by omega),v1]
    exact ⟨H7,T7,rfl,v2,hsf6.trans v3⟩
  -- the box of the key
  obtain ⟨key,hkey⟩:∃ key,key=(if e.hd.hi < 0 then min c e.hd.lo.toNat else c):=⟨_,rfl⟩
  have hkc:key≤c:=by rw [hkey];split <;> omega
  have hst:∀ v:Int,astoreU 1 (.ptr Hc.length 0) (.int .i64 v) (Hc++[AObj.cells [(.int .i64 0)]])=some (.tuple [],Hc++[.cells [.int .i64 v]]):=fun v=>by
   rw [astore_of (sz:=1) (v:=.int .i64 v) (l:=[.int .i64 0]) (by simp) rfl rfl (by simp)]
   simp [splice,AV.cells]
  have hst2:∀ v w:Int,astoreU 1 (.ptr Hc.length 0) (.int .i64 v) (Hc++[AObj.cells [.int .i64 w]])=some (.tuple [],Hc++[.cells [.int .i64 v]]):=fun v w=>by
   rw [astore_of (sz:=1) (v:=.int .i64 v) (l:=[.int .i64 w]) (by simp) rfl rfl (by simp)]
   simp [splice,AV.cells]
  have hkb:=get_push_len Hc (AObj.cells [.int .i64 (key:Int)]) []
  have hpush:Sf [] Hc T (Hc++[AObj.cells [.int .i64 (key:Int)]]) T:=Sf.of_kpt hI (Kpt.push [] Hc _) (fun i hi=>by cases hi)
  have hSet1:SetsAt s lines e fr j (Hc++[AObj.cells [.int .i64 (key:Int)]]) om:=hSet.get hpush hI hmp ⟨by simp,fun _ _ _ _=>by simp⟩ (by omega)
  have hbn1:=get_push hbn [AObj.cells [.int .i64 (key:Int)]]
  have hF1:FdAt (Hc++[AObj.cells [.int .i64 (key:Int)]]) fo s lines (spV so sp.length):=get_push hF _
  have hS1:SpAt (Hc++[AObj.cells [.int .i64 (key:Int)]]) so sp:=get_push hS _
  have l13:aload false 1 (.ptr Hc.length 0) (Hc++[AObj.cells [.int .i64 (key:Int)]])=some (.int .i64 (key:Int)):=by rw [aload_of hkb];rfl
  -- to the place where the key is looked up
  have toJ3 : ∀ R, recapture_finder_repeat_J3 (.ptr fo 0) (.int .i64 (i : Int)) (.int .i64 (j : Int)) (.ptr bn 0) (.int .i64 e.hd.lo) (.int .i64 e.hd.hi) (.map om) (.int .i64 (fr : Int)) (.int .i64 (c : Int)) (.ptr Hc.length 0) H0 (Hc ++ [AObj.cells [.int .i64 (key : Int)]]) = R →
      (bnd (ibin .lss (.int .i64 e.hd.hi) (.int .i64 0)) fun t31=>bnd (gdv t31 false (.tuple []) (some (.int .i64 (c:Int)))) fun t33=>bnd (gdv t31 false (.tuple []) (some (.int .i64 e.hd.hi))) fun t34=>bnd (gdv t31 false (.tuple []) (ibin .lss t33 t34)) fun t35=>bnd (apick t31 (.bool true) t35) fun t36 =>
       cnd t36 (recapture_finder_repeat_J1 (.ptr fo 0) (.int .i64 (i:Int)) (.int .i64 (j:Int)) (.ptr bn 0) (.int .i64 e.hd.lo) (.int .i64 e.hd.hi) (.map om) (.int .i64 (fr:Int)) (.int .i64 (c:Int)) H0 Hc) (some ((.tuple []),Hc)))=R:=by
   intro R hR
   by_cases hn:e.hd.hi < 0
   ·have n1:decide (e.hd.hi < 0)=true:=decide_eq_true hn
    have hmin:min (c:Int) e.hd.lo=(key:Int):=by rw [hkey,if_pos hn];omega
    simp only [go_sem,n1,recapture_finder_repeat_J1_eq,hst,hmin,hst2]
    exact hR
   ·have n1:decide (e.hd.hi < 0)=false:=decide_eq_false hn
    have n2:decide ((c:Int) < e.hd.hi)=true:=decide_eq_true (hgo.resolve_left hn)
    have hck:(c:Int)=(key:Int):=by rw [hkey,if_neg hn]
    simp only [go_sem,n1,n2,recapture_finder_repeat_J1_eq,hst]
    rw [← hR]
    have:(AObj.cells [AV.int .i64 (c:Int)])=AObj.cells [AV.int .i64 (key:Int)]:=by rw [hck]
    rw [this]
  obtain ⟨es,kc,m1,m2⟩:=hSet1
  have hmaplt:om < Hc.length:=by
   obtain ⟨_,_,h1,_⟩:=hSet
   exact lt_of_get h1
  have hkeys:∀ en ∈ es,∃ n:Int,en.1=.int .i64 n:=fun en hen=>by obtain ⟨k',_,a1,_⟩:=m2 en hen;exact ⟨_,a1⟩
  rcases look_int m1 hkeys .nils (key:Int) with ⟨hf0,hlk⟩ | ⟨v,n,w1,w2⟩
  ·-- the set is made
   have hlk:=hlk true
   rw [if_pos rfl] at hlk
   have a0:aext (.tuple [.nils,.bool false]) 0=some .nils:=rfl
   have a1:aext (.tuple [.nils,.bool false]) 1=some (.bool false):=rfl
   have hk1:Kpt [Hc.length] (Hc++[AObj.cells [.int .i64 (key:Int)]]) ((Hc++[AObj.cells [.int .i64 (key:Int)]]).set Hc.length .dead):=Kpt.set _ _ (by simp)
   have hnewT:=hI.new (Nat.le_refl Hc.length)
   have hsf1:Sf [Hc.length] (Hc++[AObj.cells [.int .i64 (key:Int)]]) T ((Hc++[AObj.cells [.int .i64 (key:Int)]]).set Hc.length .dead) T:=Sf.of_kpt hpush.inv hk1 (fun q hq=>by rw [List.mem_singleton.1 hq];exact hnewT)
   generalize hHd:(Hc++[AObj.cells [.int .i64 (key:Int)]]).set Hc.length .dead=Hd at *
   have ltl:∀ {q:Nat},q < Hc.length→q ∉ [Hc.length]:=fun h hm=>by simp at hm;omega
   have hFd:FdAt Hd fo s lines (spV so sp.length):=hk1.get hF1 (ltl (lt_of_get hF))
   have hSd:SpAt Hd so sp:=hk1.get hS1 (ltl (lt_of_get hS))
   have hbd:Hd[bn]?=some (.cells [.ptr o 0]):=hk1.get hbn1 (ltl (lt_of_get hbn))
   have hmd:Hd[om]?=some (.map es kc):=hk1.get m1 (ltl hmaplt)
   have hod:T.nd o=some e:=ho
   obtain ⟨o2,H2,T2,r1,r2,r3,r4⟩:=starts_run hsf1.inv hod hFd (hFd.out hsf1.inv) hs (i:=fr) (j:=j) (by omega) hj key (clo:=.fn (.func 61) [] [.ptr bn 0,.vp [.int .i64 (key:Int)]]) (fun l=>rep1_run (nd_push hsf1.inv l) hod h5 (by omega) (get_push hbd l))
   have hnd_om:∀ {T':Tb} {H':Hp},InvT H' T'→H'[om]?=some (.map es kc)→T'.nd om=none∧T'.fw om=none:=fun {T' H'} hI' hm=>by
    refine ⟨?_,?_⟩
    ·cases he:T'.nd om with
     | none=>rfl
     | some e2 =>
      obtain ⟨⟨_,_,_,_,_,q1,_⟩,_⟩:=hI'.nd om e2 he
      rw [hm] at q1
      cases q1
    ·cases he:T'.fw om with
     | none=>rfl
     | some e2 =>
      obtain ⟨_,_,q1,_⟩:=hI'.fw om e2 he
      rw [hm] at q1
      cases q1
   have hm2:H2[om]?=some (.map es kc):=r4.get hmd (by simp) (hnd_om hsf1.inv hmd).1 hmp
   have hF2:=r4.all hsf1.inv hFd (by simp)
   have hS2:=r4.spans hsf1.inv hSd
   have hb2:H2[bn]?=some (.cells [.ptr o 0]):=r4.get hbd (by simp) (box_out hsf1.inv hbd).1 (box_out hsf1.inv hbd).2
   have hmp2:T2.mp om=none:=by rw [r4.mp];exact hmp
   have hset:=mapSet_new hm2 hf0 (blV o2 (startsM s lines e key fr j))
   have hk3:Kpt [om] H2 (H2.set om (.map (es++[(.int .i64 (key:Int),blV o2 (startsM s lines e key fr j),kc)]) (kc+1))):=Kpt.set _ _ (by simp)
   have hsf3:Sf [om] H2 T2 _ T2:=Sf.of_kpt r4.inv hk3 (fun q hq=>by rw [List.mem_singleton.1 hq];exact ⟨(hnd_om r4.inv hm2).1,hmp2,(hnd_om r4.inv hm2).2⟩)
   have hg3:=get_set_eq (.map (es++[(.int .i64 (key:Int),blV o2 (startsM s lines e key fr j),kc)]) (kc+1)) hm2
   generalize hH3:H2.set om (.map (es++[(.int .i64 (key:Int),blV o2 (startsM s lines e key fr j),kc)]) (kc+1))=H3 at *
   have hblne:∀ {q:Nat} {l:List Bool},BlAt H2 q l→q ∉ [om]:=fun {q l} hb hm=>by
    rw [List.mem_singleton.1 hm] at hb
    have hb':H2[om]?=some (.cells (bL l)):=hb
    rw [hm2] at hb'
    cases hb'
   have hcn:∀ {q:Nat} {cc:List AV},H2[q]?=some (.cells cc)→q ∉ [om]:=fun {q cc} hb hm=>by
    rw [List.mem_singleton.1 hm,hm2] at hb
    cases hb
   have hdl:Hc.length≤Hd.length:=by rw [← hHd];simp
   have hSet3:SetsAt s lines e fr j H3 om:=by
    refine ⟨_,_,hg3,fun en hen=>?_⟩
    rcases List.mem_append.1 hen with hen | hen
    ·obtain ⟨k',oo,b1,b2,b3⟩:=m2 en hen
     have hoo:oo ≠ Hc.length:=fun he=>by
      rw [he] at b3
      have b3':(Hc++[AObj.cells [.int .i64 (key:Int)]])[Hc.length]?=some (.cells (bL (startsM s lines e k' fr j))):=b3
      rw [hkb] at b3'
      injection b3' with b3'
      injection b3' with b3'
      have hl:=startsM_len s lines e k' (i:=fr) (j:=j) (by omega)
      cases hcs:startsM s lines e k' fr j with
      | nil=>rw [hcs] at hl;simp at hl
      | cons b l=>rw [hcs] at b3';injection b3' with b3' _;cases b3'
     have c3:BlAt Hd oo (startsM s lines e k' fr j):=hk1.get b3 (by simp [hoo])
     have c4:BlAt H2 oo (startsM s lines e k' fr j):=r4.get c3 (by simp) (c3.out hsf1.inv).1 (c3.out hsf1.inv).2
     exact ⟨k',oo,b1,b2,hk3.get c4 (hblne c4)⟩
    ·rw [List.mem_singleton.1 hen]
     exact ⟨key,o2,rfl,rfl,hk3.get r2 (hblne r2)⟩
   have hsfT:Sf [om] Hc T H3 T2:=by
    refine ⟨r4.nd,r4.mp,hsf3.inv,Nat.le_trans hdl (Nat.le_trans r4.len hsf3.len),fun q hq hn a b=>?_⟩
    rw [hsf3.kept q (by have:=r4.len;omega) hn (by rw [r4.nd];exact a) (by rw [r4.mp];exact b),r4.kept q (by omega) (by simp) a b,hsf1.kept q (by simp;omega) (ltl hq) a b,hpush.kept q hq (by simp) a b]
   obtain ⟨H4,T4,t1,t2,t3⟩:=tail key (.vp [.int .i64 (key:Int)]) H3 T2 hkey hsfT hSet3 (hk3.get hF2 (hcn hF2)) (hk3.get hS2 (hcn hS2)) (hk3.get hb2 (hcn hb2)) (.inl rfl) ⟨blV o2 (startsM s lines e key fr j),kc,_,_,hg3,by simp⟩
   refine ⟨H4,T4,toJ3 _ ?_,t2,t3⟩
   have lv:∀ w:Hp,aload false 1 (.vp [.int .i64 (key:Int)]) w=some (.int .i64 (key:Int)):=fun w=>rfl
   have lvv:aloadv false 1 (.vp [.int .i64 (key:Int)])=some (.int .i64 (key:Int)):=rfl
   have lbd:aload false 1 (.ptr bn 0) Hd=some (.ptr o 0):=by rw [aload_of hbd];rfl
   rw [recapture_finder_repeat_J3_eq]
   simp only [go_sem,l13,hlk,a0,a1,Bool.not_false]
   rw [frz_of hkb,hHd]
   simp only [go_sem,lvv,lbd,lv,r1,hset,t1]
  ·-- it is there
   have w2:=w2 true
   rw [if_pos rfl] at w2
   have a0:aext (.tuple [v,.bool true]) 0=some v:=rfl
   have a1:aext (.tuple [v,.bool true]) 1=some (.bool true):=rfl
   obtain ⟨H4,T4,t1,t2,t3⟩:=tail key (.ptr Hc.length 0) _ T hkey (hpush.weak (by simp)) ⟨es,kc,m1,m2⟩ hF1 hS1 hbn1 (.inr ⟨_,rfl,hkb⟩) ⟨v,n,es,kc,m1,w1⟩
   refine ⟨H4,T4,toJ3 _ ?_,t2,t3⟩
   rw [recapture_finder_repeat_J3_eq]
   simp only [go_sem,l13,w2,a0,a1,Bool.not_true,t1]
theorem find_run (hs:s.length≤3000000) (e:Rt) (hok:OkE e):FindRun fo so s lines e:=by
 induction e using Rt.ind with
 | h hd args ih =>
  intro H T o i j sp hI ho hF hS hg hij hj
  have hk:∀ x ∈ args,FindRun fo so s lines x:=fun x hx=>ih x hx (hok.arg x hx)
  obtain ⟨⟨x,xp,xa,fv,om,h1,h2,h3,h4,h5,h6⟩,_⟩:=hI.nd o _ ho
  have h1:H[o]?=some (.cells (ndC hd x (bareM (.mk hd args)).hd xp xa fv (.map om))):=h1
  have h4:ChOk T xa args:=h4
  have hz:=hok.siz
  rw [siz_eq] at hz
  have hls:=len_siz args
  have hsh:=(shM_args hok.sh).1
  have hfs:=hF.ne hS
  have hg0:=hg
  rw [grB_eq,Bool.and_eq_true] at hg
  obtain ⟨hg1,hg2⟩:=hg
  have i0:(((0:Nat):Int))=0:=rfl
  rw [F_recapture_finder_find_eq,find_eq]
  unfold F_recapture_finder_find
  by_cases c6:hd.op=6
  ·have e6:(hd.op == 6)=true:=by simp [c6]
   rw [if_pos c6]
   obtain ⟨x0,rfl⟩:=List.length_eq_one_iff.1 (sh_one hsh (.inr c6))
   obtain ⟨c,q1,q2⟩:=h4.idx (i:=0) (e:=x0) rfl
   rw [i0] at q1
   obtain ⟨H1,T1,r1,r2,r3⟩:=hk x0 (by simp) H T c i j sp hI q2 hF hS (grL_iff.1 hg2 x0 (by simp)) hij hj
   have hgg:0≤hd.g∧hd.g.toNat < sp.length:=by simpa [c6] using hg1
   have hln:=find_len (E:=endsM s lines) (S:=startsM s lines) x0 i j sp
   have hF1:FdAt H1 fo s lines (spV so sp.length):=r3.all hI hF (by simp [hfs])
   obtain ⟨⟨y,yp,ya,yf,ym,k1,_⟩,_⟩:=r3.inv.nd o _ (by rw [r3.nd];exact ho)
   have k1:H1[o]?=some (.cells (ndC hd y (bareM (.mk hd [x0])).hd yp ya yf (.map ym))):=k1
   obtain ⟨s1,s2⟩:=r2.st hgg.1 (by rw [hln];exact hgg.2) (i:Int) (j:Int)
   rw [hln] at s1
   have e1:((afill [(0,1,(.int .i64 (i:Int))),(1,1,(.int .i64 (j:Int)))] [(.int .i64 0),(.int .i64 0)]).map AV.agg)=some (.agg [.int .i64 (i:Int),.int .i64 (j:Int)]):=rfl
   simp only [go_sem,nd_op h1,e6,nd_args h1,q1,ld_vp1,r1,hF1.ldP,nd_g k1,e1,s1,s2]
   have hk2:Kpt [so] H1 (H1.set so (.cells (flat (((findM (endsM s lines) (startsM s lines) x0 i j sp).set hd.g.toNat ((i:Int),(j:Int))).map spE)))):=Kpt.set _ _ (by simp)
   refine ⟨_,T1,rfl,?_,r3.trans (Sf.of_kpt r3.inv hk2 (r2.outT r3.inv))⟩
   rw [headF]
   exact get_set_eq _ r2
  have e6:(hd.op == 6)=false:=by simp [c6]
  rw [if_neg c6]
  by_cases c4:hd.op=4
  ·have e4:(hd.op == 4)=true:=by simp [c4]
   rw [if_pos c4]
   obtain ⟨H1,T1,r1,r2,r3⟩:=alt_run (fo:=fo) (so:=so) (s:=s) (lines:=lines) hs hk (by omega) hij hj H args.length 0 sp H T rfl (by omega) hI h4 hF hS hg2
   rw [i0] at r1
   rw [List.drop_zero] at r2
   simp only [go_sem,nd_op h1,e6,e4,nd_args h1,h4.len,r1]
   exact ⟨H1,T1,rfl,r2,r3⟩
  have e4:(hd.op == 4)=false:=by simp [c4]
  rw [if_neg c4]
  by_cases c3:hd.op=3
  ·have e3:(hd.op == 3)=true:=by simp [c3]
   rw [if_pos c3]
   have hb:abox (.ptr o 0) H=some (.ptr H.length 0,H++[.cells [.ptr o 0]]):=rfl
   have hbn:=get_push_len H (AObj.cells [.ptr o 0]) []
   have hpush:Sf [] H T (H++[AObj.cells [.ptr o 0]]) T:=Sf.of_kpt hI (Kpt.push [] H _) (fun i hi=>by cases hi)
   have lb:aload false 1 (.ptr H.length 0) (H++[AObj.cells [.ptr o 0]])=some (.ptr o 0):=by rw [aload_of hbn];rfl
   obtain ⟨H1,T1,r1,r2,r3⟩:=cat_run (fo:=fo) (so:=so) (s:=s) (lines:=lines) hs (e:=.mk hd args) c3 hk (by show args.length≤_;omega) (xa:=xa) (o:=o) (bn:=H.length) hj H args.length 0 i sp _ T rfl (by omega) hij hpush.inv ho h4 hbn (get_push hF _) (get_push hS _) hg2
   rw [i0] at r1
   rw [List.drop_zero] at r2
   have hC:C_recapture_finder_cat [.ptr fo 0,.ptr o 0,.int .i64 (i:Int),.int .i64 (j:Int)] H=some (.tuple [],H1):=by
    rw [F_recapture_finder_cat_eq]
    unfold F_recapture_finder_cat
    simp only [hb,go_sem,lb,nd_args (get_push h1 [AObj.cells [.ptr o 0]]),h4.len]
    exact r1
   simp only [go_sem,nd_op h1,e6,e4,e3,hC]
   exact ⟨H1,T1,rfl,r2,(hpush.weak (by simp)).trans r3⟩
  have e3:(hd.op == 3)=false:=by simp [c3]
  rw [if_neg c3]
  by_cases c5:hd.op=5
  ·have e5:(hd.op == 5)=true:=by simp [c5]
   rw [if_pos c5]
   obtain ⟨x0,rfl⟩:=List.length_eq_one_iff.1 (sh_one hsh (.inl c5))
   have hrp:=hok.rp
   rw [rpM_eq,Bool.and_eq_true] at hrp
   have hb:abox (.ptr o 0) H=some (.ptr H.length 0,H++[.cells [.ptr o 0]]):=rfl
   have hbn0:=get_push_len H (AObj.cells [.ptr o 0]) []
   have hbn:=get_push hbn0 [AObj.map [] 0]
   have hkp:Kpt [] H ((H++[AObj.cells [.ptr o 0]])++[AObj.map [] 0]):=(Kpt.push _ _ _).trans (Kpt.push _ _ _)
   have hpush:Sf [] H T ((H++[AObj.cells [.ptr o 0]])++[AObj.map [] 0]) T:=Sf.of_kpt hI hkp (fun i hi=>by cases hi)
   have lb:aload false 1 (.ptr H.length 0) (H++[AObj.cells [.ptr o 0]])=some (.ptr o 0):=by rw [aload_of hbn0];rfl
   have hl1:(H++[AObj.cells [.ptr o 0]]).length=H.length+1:=by simp
   have hmap:((H++[AObj.cells [.ptr o 0]])++[AObj.map [] 0])[H.length+1]?=some (.map [] 0):=by rw [← hl1];exact get_push_len _ _ []
   have hnew:=hI.new (show H.length≤H.length+1 by omega)
   have hws:=wd_siz (.mk hd [x0])
   have hsz:=hok.siz
   obtain ⟨H1,T1,r1,r2,r3⟩:=rep_run' (fo:=fo) (so:=so) (s:=s) (lines:=lines) hs (e:=.mk hd [x0]) (x:=x0) (l:=[]) c5 rfl (by omega) (hk x0 (by simp)) (o:=o) (bn:=H.length) (om:=H.length+1) (fr:=i) hj (rp_bounds hrp.1 c5) H (j - i+66) 0 i sp _ T (by omega) (Nat.le_refl _) hij (by omega) hpush.inv ho hnew.2.1 ⟨[],0,hmap,fun en hen=>by cases hen⟩ hbn (get_push (get_push hF _) _) (get_push (get_push hS _) _) hg0
   rw [i0] at r1
   have hh1:=get_push h1 [AObj.cells [.ptr o 0]]
   have hC:C_recapture_finder_repeat [.ptr fo 0,.ptr o 0,.int .i64 (i:Int),.int .i64 (j:Int)] H=some (.tuple [],H1):=by
    rw [F_recapture_finder_repeat_eq]
    unfold F_recapture_finder_repeat
    simp only [hb,go_sem,lb,nd_lo hh1,nd_hi hh1,hl1]
    exact r1
   have hfin:Sf [so] H T H1 T1:=by
    refine ⟨r3.nd.trans hpush.nd,r3.mp.trans hpush.mp,r3.inv,Nat.le_trans hpush.len r3.len,fun q hq hn a b=>?_⟩
    rw [r3.kept q (by have:=hpush.len;omega) (by
     simp only [List.mem_cons,List.mem_singleton,List.not_mem_nil,or_false,not_or] at hn ⊢
     exact ⟨hn,by omega⟩) a b,hpush.kept q hq (by simp) a b]
   simp only [go_sem,nd_op h1,e6,e4,e3,e5,hC]
   refine ⟨H1,T1,rfl,?_,hfin⟩
   rw [repF]
   exact r2
  ·have e5:(hd.op == 5)=false:=by simp [c5]
   rw [if_neg c5]
   simp only [go_sem,nd_op h1,e6,e4,e3,e5]
   exact ⟨H,T,rfl,hS,Sf.refl hI⟩
end
end Go.Am
namespace Go.Am
set_option linter.unusedSimpArgs false
set_option linter.unusedVariables false
set_option maxRecDepth 100000

theorem gro_of {C:List AV→Hp→Option (AV × Hp)} {args:List AV} {H H':Hp} {v:AV} (h:C args H=some (v,H')) (hk:Kpt [] H H'):groC C args H=some (v,H'):=by
 have ht:H'.take H.length=H:=by
  apply List.ext_getElem?
  intro i
  by_cases hi:i < H.length
  ·rw [List.getElem?_take_of_lt hi]
   exact hk.2 i hi (by simp)
  ·rw [List.getElem?_eq_none (by rw [List.length_take];omega),List.getElem?_eq_none (by omega)]
 unfold groC
 rw [h]
 dsimp only
 rw [if_pos (by rw [ht];exact eqbH_refl _)]
def TExt (n:Nat) (T T':Tb):Prop:=∀ q,q < n→T'.nd q=T.nd q∧T'.mp q=T.mp q∧T'.fw q=T.fw q
theorem TExt.refl (n:Nat) (T:Tb):TExt n T T:=fun _ _=>⟨rfl,rfl,rfl⟩
theorem TExt.trans {n m:Nat} {T T' T'':Tb} (h:TExt n T T') (h':TExt m T' T'') (hn:n≤m):TExt n T T'':=fun q hq=>by
 obtain ⟨a,b,c⟩:=h q hq
 obtain ⟨d,e,f⟩:=h' q (by omega)
 exact ⟨d.trans a,e.trans b,f.trans c⟩
def BuildRun (e:Rt):Prop:=∀ (a:AV) (H:Hp) (T:Tb),RtC e a→InvT H T →
 ∃ o H' T',C_recapture_build [a] H=some (.ptr o 0,H')∧Kpt [] H H'∧InvT H' T'∧T'.nd o=some e∧TExt H.length T T'
def ChL (T:Tb) (l:List AV) (A:List Rt):Prop:=l.length=A.length∧∀ (i:Nat) (e:Rt),A[i]?=some e→∃ c,l[i]?=some (.ptr c 0)∧T.nd c=some e
def RowB (n:Nat) (H:Hp) (k:Nat) (x:AV) (l:List AV):Prop:=x=.nils∧l=[] ∨ ∃ t e,x=.vs k (.own t e) l∧H[t]?=some (.tok e)∧n≤t
theorem RowB.row {n k:Nat} {H:Hp} {x:AV} {l:List AV} (h:RowB n H k x l):Row H k x l:=h.imp id fun ⟨t,e,a,b,_⟩=>⟨t,e,a,b⟩
theorem RowB.mono {n k:Nat} {H H':Hp} {x:AV} {l:List AV} (h:RowB n H k x l) (hf:∀ (i e:Nat),H[i]?=some (.tok e)→H'[i]?=some (.tok e)):RowB n H' k x l:=h.imp id fun ⟨t,e,a,b,c⟩=>⟨t,e,a,hf _ _ b,c⟩
theorem RowB.app {n k : Nat} {H : Hp} {x : AV} {l : List AV} (h : RowB n H k x l) (hn : n ≤ H.length) (bytes : Nat) (y : AV) (a : AV) (hy : elems k y H = some [a]) (hf : (l.length + 1) * (bytes + 1) ≤ 140737488355328) :
    ∃ x' H',aappE k bytes x y H=some (x',H')∧RowB n H' k x' (l++[a])∧H.length≤H'.length∧(∀ i,i < n→H'[i]?=H[i]?)∧(∀ (i:Nat) (c:List AV),H[i]?=some (.cells c)→H'[i]?=some (.cells c)) ∧
     (∀ (i:Nat) (es:List (AV × AV × Nat)) (kk:Nat),H[i]?=some (.map es kk)→H'[i]?=some (.map es kk)):=by
 unfold aappE
 simp only [hy]
 rcases h with ⟨rfl,rfl⟩ | ⟨t,e,rfl,ht,hnt⟩
 ·have hfit:fits [a].length bytes=true:=by simpa [fits] using hf
  refine ⟨.vs k (.own H.length 1) [a],H++[.tok 1],?_,.inr ⟨H.length,1,rfl,by simp,hn⟩,by simp,fun i hi=>by rw [List.getElem?_append_left (by omega)],fun i c h=>get_push h _,fun i es kk h=>get_push h _⟩
  simp only [aappend,hfit,if_true]
  rw [if_neg (by simp)]
  rfl
 ·have hfit:fits (l.length+[a].length) bytes=true:=by simpa [fits] using hf
  refine ⟨_,_,by simp only [aappend,hfit,and_self,if_true,ht];rw [if_neg (by simp)];rfl,.inr ⟨t,e+1,rfl,get_set_eq _ ht,hnt⟩,by simp,fun i hi=>by rw [List.getElem?_set_ne (by omega)],fun i c h=>?_,fun i es kk h=>?_⟩
  ·refine get_set_ne _ (fun he=>?_) h
   rw [he,h] at ht
   cases ht
  ·refine get_set_ne _ (fun he=>?_) h
   rw [he,h] at ht
   cases ht
theorem build_loop {A : List Rt} {x : AV} {l : List AV} (hx : SlC 9 x l) (hl : RtL A l) (ih : ∀ e ∈ A, BuildRun e) {h hp : Hd} {x0 xp : AV} {o om : Nat} {Hb : Hp} (hob : Hb.length ≤ o) (hb : A.length ≤ 100000) (H0 : Hp) :
    ∀ (k i:Nat) (acc:List AV) (y:AV) (Hc:Hp) (T Tb0:Tb),A.length - i=k→i≤A.length→InvT Hc T→Hc[o]?=some (.cells (ndC h x0 hp xp y .nilp (.map om)))→T.nd o=none→Hc[om]?=some (.map [] 0)→T.mp om=none→RowB Hb.length Hc 1 y acc→ChL T acc (A.take i)→Kpt [] Hb Hc→TExt Hb.length Tb0 T →
    ∃ z acc' H' T',recapture_build_L1 (.ptr o 0) x (.int .i64 (A.length:Int)) (.int .i64 (i:Int)) H0 Hc=some (.ptr o 0,H')∧InvT H' T'∧H'[o]?=some (.cells (ndC h x0 hp xp z .nilp (.map om)))∧T'.nd o=none∧H'[om]?=some (.map [] 0)∧T'.mp om=none∧Row H' 1 z acc'∧ChL T' acc' A∧Kpt [] Hb H'∧TExt Hb.length Tb0 T':=by
 intro k
 induction k with
 | zero =>
  intro i acc y Hc T Tb0 hk hi hI ho hno hm hnm hr hc hK hT
  have hlt:decide ((i:Int) < (A.length:Int))=false:=decide_eq_false (by omega)
  rw [List.take_of_length_le (by omega)] at hc
  rw [recapture_build_L1_eq]
  simp only [go_sem,hlt,recapture_build_J1_eq]
  exact ⟨y,acc,Hc,T,rfl,hI,ho,hno,hm,hnm,hr.row,hc,hK,hT⟩
 | succ k ihk =>
  intro i acc y Hc T Tb0 hk hi hI ho hno hm hnm hr hc hK hT
  have hL:i < A.length:=by omega
  have hlt:decide ((i:Int) < (A.length:Int))=true:=decide_eq_true (by omega)
  obtain ⟨a,hla,hra⟩:=hl.get (List.getElem?_eq_getElem hL)
  have hrun:=ih _ (List.getElem_mem hL)
  have hra0:=hra
  obtain ⟨xa,la,rfl,_,_⟩:=hra.out
  obtain ⟨c,H1,T1,r1,r2,r3,r4,r5⟩:=hrun _ (Hc++[AObj.cells (reC A[i].hd xa)]) T hra0 (nd_push hI _)
  have hgr:=gro_of r1 r2
  have ho1:=get_push ho [AObj.cells (reC A[i].hd xa)]
  have ho2:H1[o]?=some (.cells (ndC h x0 hp xp y .nilp (.map om))):=r2.get ho1 (by simp)
  have hm2:H1[om]?=some (.map [] 0):=r2.get (get_push hm _) (by simp)
  have hlc:Hc.length≤(Hc++[AObj.cells (reC A[i].hd xa)]).length:=by simp
  have hol:=lt_of_get ho
  have hml:=lt_of_get hm
  have hal:acc.length=i:=by rw [hc.1];simp;omega
  have hr2:RowB Hb.length H1 1 y acc:=hr.mono fun q e hq=>r2.get (get_push hq _) (by simp)
  have hbl:Hb.length≤H1.length:=by have:=hK.1;have:=r2.1;omega
  obtain ⟨y2,H2,s1,s2,s3,s6,s4,s5⟩:=hr2.app hbl 8 (.vs 1 .clip [.ptr c 0]) (.ptr c 0) rfl (by omega)
  have ho3:=s4 o _ ho2
  have hst:astoreU 1 (.ptr o (0+18)) y2 H2=some (.tuple [],H2.set o (.cells (ndC h x0 hp xp y2 .nilp (.map om)))):=by
   obtain ⟨kc,kk⟩:=s2.row.known
   rw [astore_of (sz:=1) (v:=y2) ho3 kk (by rw [kc];rfl) (by simp [ndC,reC]),kc]
   rfl
  have e1:((setElems 1 [(0,AV.ptr c 0)] [.nilp]).map (AV.vs 1 .clip))=some (.vs 1 .clip [.ptr c 0]):=rfl
  -- the table over the heap behind the append and the store
  have hno1:T1.nd o=none:=by rw [(r5 o (by omega)).1];exact hno
  have hnm1:T1.mp om=none:=by rw [(r5 om (by omega)).2.1];exact hnm
  have hfo1:T1.fw o=none:=by
   cases he:T1.fw o with
   | none=>rfl
   | some e2 =>
    obtain ⟨xv,b,w1,_⟩:=r3.fw o e2 he
    rw [ho2] at w1
    injection w1 with w1
    injection w1 with w1
    have:=congrArg List.length w1
    simp [ndC,reC] at this
  have hmo1:T1.mp o=none:=by
   cases he:T1.mp o with
   | none=>rfl
   | some e2 =>
    obtain ⟨_,_,w1,_⟩:=r3.mp o e2 he
    rw [ho2] at w1
    cases w1
  have hInv2:InvT H2 T1:=by
   refine ⟨fun o2 e2 h2=>⟨?_,(r3.nd o2 e2 h2).2⟩,fun om2 e2 h2=>?_,fun q2 e2 h2=>?_⟩
   ·obtain ⟨z1,z2,z3,z4,z5,k1,k2⟩:=(r3.nd o2 e2 h2).1
    exact ⟨z1,z2,z3,z4,z5,s4 _ _ k1,k2⟩
   ·obtain ⟨es,kk,k1,k2⟩:=r3.mp om2 e2 h2
    exact ⟨es,kk,s5 _ _ _ k1,k2⟩
   ·obtain ⟨z1,z2,k1,k2⟩:=r3.fw q2 e2 h2
    exact ⟨z1,z2,s4 _ _ k1,k2⟩
  have hk3:Kpt [o] H2 (H2.set o (.cells (ndC h x0 hp xp y2 .nilp (.map om)))):=Kpt.set _ _ (by simp)
  have hInv3:=hInv2.kept hk3 (fun q hq=>by rw [List.mem_singleton.1 hq];exact ⟨hno1,hmo1,hfo1⟩)
  have hm3:H2[om]?=some (.map [] 0):=s5 _ _ _ hm2
  have hm4:=get_set_ne (.cells (ndC h x0 hp xp y2 .nilp (.map om))) (show o ≠ om from fun he=>by rw [he,hm3] at ho3;cases ho3) hm3
  have hc2:ChL T1 (acc++[.ptr c 0]) (A.take (i+1)):=by
   rw [List.take_succ_eq_append_getElem hL]
   refine ⟨by rw [List.length_append,List.length_append,hc.1];rfl,fun q e hq=>?_⟩
   rcases Nat.lt_or_ge q (A.take i).length with hq1 | hq1
   ·rw [List.getElem?_append_left hq1] at hq
    obtain ⟨c1,g1,g2⟩:=hc.2 q e hq
    refine ⟨c1,by rw [List.getElem?_append_left (by rw [hc.1];exact hq1)];exact g1,?_⟩
    rw [(r5 c1 (by have:=hI.lt_nd g2;omega)).1];exact g2
   ·rw [List.getElem?_append_right hq1] at hq
    have hz:q - (A.take i).length=0:=by
     have:=(List.getElem?_eq_some_iff.1 hq).1
     rw [List.length_singleton] at this;omega
    rw [hz] at hq
    simp at hq
    subst hq
    exact ⟨c,by rw [List.getElem?_append_right (by rw [hc.1];exact hq1),hc.1,hz];rfl,r4⟩
  have hKb:Kpt [] Hb (H2.set o (.cells (ndC h x0 hp xp y2 .nilp (.map om)))):=by
   have h1:Kpt [] Hb H1:=(hK.trans (Kpt.push _ _ _)).trans r2
   refine ⟨by have:=h1.1;simp;omega,fun q hq _=>?_⟩
   rw [List.getElem?_set_ne (by omega),s6 q hq]
   exact h1.2 q hq (by simp)
  obtain ⟨z,acc',H',T',u1,u2⟩:=ihk (i+1) (acc++[.ptr c 0]) y2 _ T1 Tb0 (by omega) (by omega) hInv3 (get_set_eq _ ho3) hno1 hm4 hnm1 (s2.mono fun q e hq=>get_set_ne _ (fun he=>by rw [← he,ho3] at hq;cases hq) hq) hc2 hKb (hT.trans r5 (by have:=hK.1;omega))
  rw [recapture_build_L1_eq]
  have lna:aload false 1 (.ptr o (0+18)) (Hc++[AObj.cells (reC A[i].hd xa)])=some y:=nd_args ho1
  simp only [go_sem,hlt,recapture_build_J2_eq,hx.idx hla,re_cells,aload_vp_re,alloc_re,lna,ld_re (get_push_len Hc (AObj.cells (reC A[i].hd xa)) []),hgr,e1,s1,hst,recapture_build_J3_eq,wsucc (n:=i) (by omega),u1]
  exact ⟨z,acc',H',T',rfl,u2⟩
theorem build_run (e:Rt) (hok:OkE e):BuildRun e:=by
 induction e using Rt.ind with
 | h hd args ih =>
  intro a H T ha hI
  have hk:∀ x ∈ args,BuildRun x:=fun x hx=>ih x hx (hok.arg x hx)
  obtain ⟨yb,hb1,hb2⟩:=bare_run (.mk hd args) hok.sh (by have:=hok.dep;omega) (by have:=hok.siz;omega) a ha
  have ha0:=ha
  obtain ⟨x,l,rfl,hx,hl⟩:=ha.out
  have hl:RtL args l:=hl
  obtain ⟨xb,lb,rfl,_,_⟩:=hb1.out
  have hb2:∀ H,flatC C_recapture_bare [reV hd x] H=some (reV (bareM (.mk hd args)).hd xb,H):=hb2
  have hls:=len_siz args
  have hz:=hok.siz
  rw [siz_eq] at hz
  -- the three objects
  have g0:=get_push_len H (AObj.cells (reC hd x)) []
  have l1:(H++[AObj.cells (reC hd x)]).length=H.length+1:=by simp
  have l2:((H++[AObj.cells (reC hd x)])++[AObj.map [] 0]).length=H.length+2:=by simp
  have e1:((afill [(0,9,reV hd x),(9,9,reV (bareM (.mk hd args)).hd xb),(20,1,.map (H.length+1))] [(.int .i64 0),(.int .u64 0),(.int .u64 0),(.int .u64 0),(.int .u64 0),(.int .i64 0),(.int .i64 0),(.int .i64 0),.nils,(.int .i64 0),(.int .u64 0),(.int .u64 0),(.int .u64 0),(.int .u64 0),(.int .i64 0),(.int .i64 0),(.int .i64 0),.nils,.nils,.nilp,.nilm]).map AV.agg)=some (.agg (ndC hd x (bareM (.mk hd args)).hd xb .nils .nilp (.map (H.length+1)))):=rfl
  have hbx:abox (.agg (ndC hd x (bareM (.mk hd args)).hd xb .nils .nilp (.map (H.length+1)))) ((H++[AObj.cells (reC hd x)])++[AObj.map [] 0])=some (.ptr (H.length+2) 0,((H++[AObj.cells (reC hd x)])++[AObj.map [] 0])++[.cells (ndC hd x (bareM (.mk hd args)).hd xb .nils .nilp (.map (H.length+1)))]):=by
   rw [abox_of rfl,l2]
   rfl
  obtain ⟨W,hW⟩:∃ W:Hp,W=((H++[AObj.cells (reC hd x)])++[AObj.map [] 0])++[.cells (ndC hd x (bareM (.mk hd args)).hd xb .nils .nilp (.map (H.length+1)))]:=⟨_,rfl⟩
  have hKW:Kpt [] H W:=by rw [hW];exact ((Kpt.push _ _ _).trans (Kpt.push _ _ _)).trans (Kpt.push _ _ _)
  have gW0:W[H.length]?=some (.cells (reC hd x)):=by rw [hW];exact get_push (get_push g0 _) _
  have gWm:W[H.length+1]?=some (.map [] 0):=by
   rw [hW,← l1]
   exact get_push (get_push_len _ _ []) _
  have gWo:W[H.length+2]?=some (.cells (ndC hd x (bareM (.mk hd args)).hd xb .nils .nilp (.map (H.length+1)))):=by
   rw [hW,← l2]
   exact get_push_len _ _ []
  have hIW:InvT W T:=hI.kept hKW (fun i hi=>by cases hi)
  obtain ⟨z,acc,H1,T1,q1,q2,q3,q4,q5,q6,q7,q8,q9,q10⟩:=build_loop hx hl hk (h:=hd) (hp:=(bareM (.mk hd args)).hd) (x0:=x) (xp:=xb) (o:=H.length+2) (om:=H.length+1) (Hb:=H) (by omega) (by omega) H args.length 0 [] .nils W T T rfl (by omega) hIW gWo (hI.new (by omega)).1 gWm (hI.new (by omega)).2.1 (.inl ⟨rfl,rfl⟩) ⟨by simp,fun i e h=>by simp at h⟩ hKW (TExt.refl _ _)
  have i0:(((0:Nat):Int))=0:=rfl
  rw [i0] at q1
  have key:C_recapture_build [reV hd x] H=some (.ptr (H.length+2) 0,H1):=by
   rw [F_recapture_build_eq]
   unfold F_recapture_build
   simp only [box_re,bnd_some,ld_re g0,hb2,l1,e1,hbx,← hW,afield_ptr,ld_args gW0,hx.len,hl.1]
   exact q1
  obtain ⟨T',hT'⟩:∃ T':Tb,T'={ T1 with nd:=fun q=>if q=H.length+2 then some (.mk hd args) else T1.nd q,mp:=fun q=>if q=H.length+1 then some (.mk hd args) else T1.mp q }:=⟨_,rfl⟩
  have hnd':∀ q x,T1.nd q=some x→T'.nd q=some x:=fun q x h=>by
   rw [hT']
   show (if q=H.length+2 then _ else T1.nd q)=_
   by_cases hq:q=H.length+2
   ·rw [hq,q4] at h;cases h
   ·rw [if_neg hq];exact h
  have hmp':∀ q x,T1.mp q=some x→T'.mp q=some x:=fun q x h=>by
   rw [hT']
   show (if q=H.length+1 then _ else T1.mp q)=_
   by_cases hq:q=H.length+1
   ·rw [hq,q6] at h;cases h
   ·rw [if_neg hq];exact h
  have hch:∀ {xa:AV} {A:List Rt},ChOk T1 xa A→ChOk T' xa A:=fun {xa A} h=>by
   obtain ⟨l,h1,h2,h3⟩:=h
   exact ⟨l,h1,h2,fun i e hi=>by obtain ⟨c,g1,g2⟩:=h3 i e hi;exact ⟨c,g1,hnd' _ _ g2⟩⟩
  refine ⟨H.length+2,H1,T',key,q9,⟨fun o2 e2 h2=>?_,fun om2 e2 h2=>?_,fun q2' e2 h2=>q2.fw q2' e2 (by rw [hT'] at h2;exact h2)⟩,by rw [hT'];simp,fun q hq=>?_⟩
  ·by_cases ho:o2=H.length+2
   ·subst ho
    have he:e2=.mk hd args:=by
     rw [hT'] at h2
     simpa using h2.symm
    subst he
    refine ⟨⟨x,xb,z,.nilp,H.length+1,q3,ha0,hb1,?_,.inl rfl,by rw [hT'];simp⟩,hok⟩
    refine hch ⟨acc,?_,q8.1,q8.2⟩
    rcases q7 with ⟨h1,h3⟩ | ⟨t,e',h1,_⟩
    ·exact .inl ⟨h1,h3⟩
    ·exact .inr ⟨_,h1⟩
   ·have h2' : T1.nd o2 = some e2 := by
       rw [hT'] at h2
       simpa [ho] using h2
    obtain ⟨⟨y1,y2,y3,y4,y5,k1,k2,k3,k4,k5,k6⟩,k7⟩:=q2.nd o2 e2 h2'
    exact ⟨⟨y1,y2,y3,y4,y5,k1,k2,k3,hch k4,by rw [hT'];exact k5,hmp' _ _ k6⟩,k7⟩
  ·by_cases ho:om2=H.length+1
   ·subst ho
    have he:e2=.mk hd args:=by
     rw [hT'] at h2
     simpa using h2.symm
    subst he
    exact ⟨[],0,q5,fun en hen=>by cases hen⟩
   ·exact q2.mp om2 e2 (by
       rw [hT'] at h2
       simpa [ho] using h2)
  ·obtain ⟨t1,t2,t3⟩:=q10 q hq
   rw [hT']
   refine ⟨?_,?_,t3⟩
   ·show (if q=H.length+2 then _ else T1.nd q)=_
    rw [if_neg (by omega)];exact t1
   ·show (if q=H.length+1 then _ else T1.mp q)=_
    rw [if_neg (by omega)];exact t2
mutual
def numB:Rt→Nat→Bool
 | .mk h args,k=>if h.op=6 then (h.g == ((k+1:Nat):Int)) && numL args (k+1) else numL args k
def numL:List Rt→Nat→Bool
 | [],_=>true
 | e :: l,k=>numB e k && numL l (k+cntM 6 e)
end
theorem numB_eq (h:Hd) (args:List Rt) (k:Nat):numB (.mk h args) k=if h.op=6 then (h.g == ((k+1:Nat):Int)) && numL args (k+1) else numL args k:=by rw [numB]
theorem numL_cons (e:Rt) (l:List Rt) (k:Nat):numL (e :: l) k=(numB e k && numL l (k+cntM 6 e)):=by rw [numL]
theorem numL_nil (k:Nat):numL [] k=true:=by rw [numL]
theorem cnt6 (h:Hd) (args:List Rt):cntM 6 (.mk h args)=(if h.op=6 then 1 else 0)+cntL 6 args:=by
 rw [cntM_eq]
 by_cases h6:h.op=6 <;> simp [h6]
theorem node_num (e:Rt):∀ c,(nodeM e c).1.groups=c.groups+cntM 6 e∧((nodeM e c).1.bd=false→numB e c.groups=true):=by
 induction e using Rt.ind with
 | h hd args ih =>
  intro c
  have key : ∀ (l : List Rt), (∀ e ∈ l, ∀ c, (nodeM e c).1.groups = c.groups + cntM 6 e ∧ ((nodeM e c).1.bd = false → numB e c.groups = true)) → ∀ (c : Ck) (m : Nat),
      (nodesM l c m).1.groups=c.groups+cntL 6 l∧((nodesM l c m).1.bd=false→numL l c.groups=true):=by
   intro l
   induction l with
   | nil=>intro _ c m;rw [nodesM_nil,numL_nil,cntL_nil];exact ⟨rfl,fun _=>rfl⟩
   | cons e l ihl =>
    intro h c m
    obtain ⟨a1,a2⟩:=h e (by simp) c
    obtain ⟨b1,b2⟩:=ihl (fun x hx=>h x (by simp [hx])) (nodeM e c).1 (max m (nodeM e c).2)
    rw [nodesM_cons,numL_cons,cntL_cons]
    refine ⟨by rw [b1,a1,Nat.add_assoc],fun hb=>?_⟩
    have hb2:=b2 hb
    rw [a1] at hb2
    have hbd:(nodeM e c).1.bd=false:=by
     have hall:∀ (l:List Rt) (c:Ck) (m:Nat),(nodesM l c m).1.bd=false→c.bd=false:=by
      intro l
      induction l with
      | nil=>intro c m h;rw [nodesM_nil] at h;exact h
      | cons e l ihl=>intro c m h;rw [nodesM_cons] at h;exact ((node_flags e c).2 (ihl _ _ h)).1
     exact hall l _ _ hb
    rw [a2 hbd,hb2]
    rfl
  obtain ⟨b1,b2⟩:=key args ih (ckHead hd args.length c) 0
  obtain ⟨d1,d2⟩:=ckEnd_nodes hd (ckHead hd args.length c).groups (nodesM args (ckHead hd args.length c) 0).1
  obtain ⟨f1,f2⟩:=ckEnd_flags hd (ckHead hd args.length c).groups (nodesM args (ckHead hd args.length c) 0).1
  rw [nodeM_eq,cnt6,numB_eq]
  have hg:(ckHead hd args.length c).groups=c.groups+(if hd.op=6 then 1 else 0):=by
   unfold ckHead ckOp
   by_cases h5:hd.op=5
   ·rw [if_pos h5,if_neg (by omega)];rfl
   ·rw [if_neg h5]
    by_cases h6:hd.op=6
    ·rw [if_pos h6,if_pos h6]
    ·rw [if_neg h6,if_neg h6]
     split <;> rfl
  refine ⟨?_,fun hb=>?_⟩
  ·show (ckEnd hd _ _).groups=_
   rw [d2,b1,hg,Nat.add_assoc]
  ·have hb:(ckEnd hd (ckHead hd args.length c).groups (nodesM args (ckHead hd args.length c) 0).1).bd=false:=hb
   rw [f2] at hb
   have hn:=b2 hb
   rw [hg] at hn
   by_cases h6:hd.op=6
   ·rw [if_pos h6] at hn ⊢
    rw [hn,Bool.and_true]
    have hall:∀ (l:List Rt) (c:Ck) (m:Nat),(nodesM l c m).1.bd=false→c.bd=false:=by
     intro l
     induction l with
     | nil=>intro c m h;rw [nodesM_nil] at h;exact h
     | cons e l ihl=>intro c m h;rw [nodesM_cons] at h;exact ((node_flags e c).2 (ihl _ _ h)).1
    have hh:=hall _ _ _ hb
    unfold ckHead ckOp at hh
    rw [if_neg (by omega),if_pos h6] at hh
    simp only [Bool.or_eq_false_iff] at hh
    have:=hh.2
    simp at this
    simp [this]
   ·rw [if_neg h6] at hn ⊢
    exact hn
theorem num_grB (n:Nat) (e:Rt):∀ k,numB e k=true→k+cntM 6 e < n→grB n e=true:=by
 induction e using Rt.ind with
 | h hd args ih =>
  have key:∀ (l:List Rt),(∀ e ∈ l,∀ k,numB e k=true→k+cntM 6 e < n→grB n e=true)→∀ k,numL l k=true→k+cntL 6 l < n→grL n l=true:=by
   intro l
   induction l with
   | nil=>intro _ k _ _;rw [grL_nil]
   | cons e l ihl =>
    intro h k hn hlt
    rw [numL_cons,Bool.and_eq_true] at hn
    rw [cntL_cons] at hlt
    rw [grL_cons,h e (by simp) k hn.1 (by omega),ihl (fun x hx=>h x (by simp [hx])) _ hn.2 (by omega)]
    rfl
  intro k hn hlt
  rw [numB_eq] at hn
  rw [cnt6] at hlt
  rw [grB_eq]
  by_cases h6:hd.op=6
  ·rw [if_pos h6,Bool.and_eq_true] at hn
   rw [if_pos h6] at hlt
   have hg:hd.g=((k+1:Nat):Int):=by simpa using hn.1
   rw [key args ih _ hn.2 (by omega),Bool.and_true]
   simp [h6,hg]
   omega
  ·rw [if_neg h6] at hn hlt
   rw [key args ih k hn (by omega),Bool.and_true]
   simp [h6]
end Go.Am
