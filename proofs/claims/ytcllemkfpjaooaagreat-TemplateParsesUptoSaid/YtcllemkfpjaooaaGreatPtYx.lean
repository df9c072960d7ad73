/-
  Reading a replacement, the document's way.
-/
import Derived.Test.YtcllemkfpjaooaaGreatPtXx
namespace Go.Am
set_option linter.unusedSimpArgs false
set_option linter.unusedVariables false
set_option maxRecDepth 100000

theorem chunks_row:∀ (pre rest:List Pt),chunks true 3 pre.length (rowC (pre++rest))=pre.map ptV:=by
 intro pre
 induction pre with
 | nil=>intro rest;rfl
 | cons p pre ih =>
  intro rest
  rw [List.cons_append,rowC_cons,List.length_cons,List.map_cons]
  show AV.agg ((ptC p++rowC (pre++rest)).take 3) :: chunks true 3 pre.length ((ptC p++rowC (pre++rest)).drop 3)=_
  have h1:(ptC p++rowC (pre++rest)).take 3=ptC p:=rfl
  have h2:(ptC p++rowC (pre++rest)).drop 3=rowC (pre++rest):=rfl
  rw [h1,h2,ih rest]
  rfl
theorem store_text (Hc:Hp) (f:Pt) (t:List UInt8):astoreU 1 (.ptr Hc.length (0+2)) (.str t) (Hc++[AObj.cells (ptC f)])=some (.tuple [],Hc++[AObj.cells (ptC ⟨f.kind,f.group,t⟩)]):=by
 rw [astore_of (sz:=1) (v:=.str t) (l:=ptC f) (by simp) rfl rfl (by simp [ptC])]
 simp [splice,AV.cells,ptC]
theorem flat_row (pre:List Pt):((pre.map ptV).map AV.cells).flatten=rowC pre:=by
 induction pre with
 | nil=>rfl
 | cons p pre ih=>rw [List.map_cons,List.map_cons,List.flatten_cons,ih,rowC_cons];rfl
theorem copy_row {H : Hp} {o e : Nat} {pre rest : List Pt} (ho : H[o]? = some (.row e (rowC (pre ++ rest)))) (hl : pre.length < 4200000000000) :
    ∃ x H',aappEL true 3 32 .nils (.ws true 3 o e pre.length) H=some (x,H')∧RowAt H' x pre∧Kpt [] H H'∧∀ a ∈ rowA x,H.length≤a:=by
 have he:Go.Am.elems 3 (.ws true 3 o e pre.length) H=some (pre.map ptV):=by
  unfold Go.Am.elems
  dsimp only
  rw [if_pos ⟨rfl,.inl rfl⟩,ho]
  dsimp only
  rw [if_pos ⟨rfl,by rw [rowC_len,List.length_append];omega⟩,chunks_row]
 unfold aappEL
 rw [he]
 dsimp only
 unfold aappL
 dsimp only
 cases pre with
 | nil=>exact ⟨.nils,H,rfl,.inl ⟨rfl,rfl⟩,Kpt.refl _ _,fun a ha=>by cases ha⟩
 | cons p pre =>
  have hfit:fits ((p :: pre).map ptV).length 32=true:=by simp [fits] at hl ⊢;omega
  rw [if_neg (by simp),if_pos hfit,List.length_map,flat_row]
  exact ⟨_,_,rfl,.inr ⟨H.length,0,rfl,by simp⟩,Kpt.push _ _ _,fun a ha=>by rw [List.mem_singleton.1 ha];exact Nat.le_refl _⟩
theorem rtext_J1 {H : Hp} {v : AV} {out : List Pt} (h : RowAt H v out) (t : List UInt8) (hl : out.length < 4200000000000) (H0 : Hp) :
    ∃ x' H',R16_text_J1 v (.str t) H0 H=some (x',H')∧RowAt H' x' (out++[⟨1,0,t⟩])∧Kpt (rowA v) H H'∧(∀ a ∈ rowA x',a ∈ rowA v ∨ H.length≤a):=by
 obtain ⟨x',H',r1,r2,r3,r4,_,_⟩:=h.app ⟨1,0,t⟩ hl
 refine ⟨x',H',?_,r2,r3,fun a ha=>(r4 a ha).imp id (fun h=>by omega)⟩
 have e1:((afill [(0,1,(.int .i64 1)),(2,1,.str t)] [(.int .i64 0),(.int .i64 0),(.str [])]).map AV.agg)=some (.agg (ptC ⟨1,0,t⟩)):=rfl
 have e2:((setElems 3 [(0,.agg (ptC ⟨1,0,t⟩))] [(.agg [(.int .i64 0),(.int .i64 0),(.str [])])]).map (AV.vs 3 .clip))=some (.vs 3 .clip [.agg (ptC ⟨1,0,t⟩)]):=rfl
 rw [R16_text_J1_eq]
 simp only [go_sem,e1,e2,r1]
theorem rtext_spec {H : Hp} {v : AV} {out : List Pt} (h : RowAt H v out) (t : List UInt8) (hl : out.length < 4200000000000) (ht : ∀ p ∈ out, p.text.length ≤ 8000000000000) (htl : t.length ≤ 100) :
    ∃ x' H',C_R16_text [v,.str t] H=some (x',H')∧RowAt H' x' (addT out t)∧Kpt (rowA v) H H'∧(∀ a ∈ rowA x',a ∈ rowA v ∨ H.length≤a):=by
 rw [F_R16_text_eq]
 unfold F_R16_text
 rcases List.eq_nil_or_concat out with rfl | ⟨pre,p,rfl⟩
 ·obtain ⟨x',H',r1,r2⟩:=rtext_J1 h t (by simp) H
  have e0:decide ((0:Int) < (([]:List Pt).length:Int))=false:=by decide
  simp only [go_sem,h.rd.len,e0]
  exact ⟨x',H',r1,r2⟩
 ·rw [List.concat_eq_append] at *
  have hpl:(pre++[p])[pre.length]?=some p:=by simp
  have hlen:(pre++[p]).length=pre.length+1:=by simp
  have e0:decide ((0:Int) < ((pre++[p]).length:Int))=true:=decide_eq_true (by rw [hlen];omega)
  have hw:IntKind.i64.wrap (((pre++[p]).length:Int) - 1)=(pre.length:Int):=by rw [wrap64 (by omega) (by omega),hlen];omega
  obtain ⟨a,a0,a1,a2,q1,q2,q3,q4,q5,q6,q7,q8⟩:=h.rd.idx hpl
  simp only [go_sem,h.rd.len,e0,hw,q1,q2,q5]
  by_cases k1:p.kind=1
  ·have ek:(p.kind == 1)=true:=by simp [k1]
   have hadd:sbin .add (.str p.text) (.str t)=some (.str (p.text++t)):=sbin_add (by have:=ht p (by simp);omega)
   have hq:(H++[AObj.cells (ptC p)])[H.length]?=some (.cells (ptC p)):=by simp
   simp only [ek,go_sem,q1,q8,new_part,ld2 hq,hadd,store_text]
   rcases h with ⟨_,h2⟩ | ⟨o,e,rfl,h2⟩
   ·simp at h2
   ·have hsl : asliceV 3 (.ws true 3 o e (pre ++ [p]).length) none (some (.int .i64 (pre.length : Int))) none = some (.ws true 3 o e pre.length) := by
       unfold asliceV
       dsimp only
       rw [abound_of .i64 (by omega) (by rw [hlen];omega)]
       dsimp only
       rw [if_pos rfl,Int.toNat_natCast]
    obtain ⟨x1,H1,r1,r2,r3,r4⟩:=copy_row (get_push h2 [AObj.cells (ptC ⟨p.kind,p.group,p.text++t⟩)]) (show pre.length < 4200000000000 by omega)
    have hq1:H1[H.length]?=some (.cells (ptC ⟨p.kind,p.group,p.text++t⟩)):=r3.get (by simp) (by simp)
    have hld:aload true 3 (.ptr H.length 0) H1=some (.agg (ptC ⟨p.kind,p.group,p.text++t⟩)):=by rw [aload_of hq1];rfl
    obtain ⟨x2,H2,s1,s2,s3,s4,_,_⟩:=r2.app ⟨p.kind,p.group,p.text++t⟩ (by omega)
    have e2:((setElems 3 [(0,.agg (ptC ⟨p.kind,p.group,p.text++t⟩))] [(.agg [(.int .i64 0),(.int .i64 0),(.str [])])]).map (AV.vs 3 .clip))=some (.vs 3 .clip [.agg (ptC ⟨p.kind,p.group,p.text++t⟩)]):=rfl
    have hlen1:H.length+1≤H1.length:=by have:=r3.1;simpa using this
    simp only [hsl,go_sem,r1,hld,e2,s1]
    refine ⟨x2,H2,rfl,by rw [addT_snoc,if_pos k1];exact s2,⟨by have:=s3.1;omega,fun i hi hn=>?_⟩,fun a ha=>.inr ?_⟩
    ·rw [s3.2 i (by omega) (fun hc=>by have:=r4 i hc;simp at this;omega),r3.2 i (by simp;omega) (by simp),List.getElem?_append_left hi]
    ·rcases s4 a ha with h | h
     ·have:=r4 a h
      simp at this
      omega
     ·omega
  ·have ek:(p.kind == 1)=false:=by simp [k1]
   obtain ⟨x',H',r1,r2⟩:=rtext_J1 h t hl H
   rw [addT_snoc,if_neg k1]
   simp only [ek,go_sem]
   exact ⟨x',H',r1,r2⟩
def RPS (H:Hp) (out:List Pt) (v:AV) (H':Hp):Prop:=RowAt H' v out∧(∀ a ∈ rowA v,H.length≤a)∧Kpt [] H H'
theorem RPS.next {H H' H2:Hp} {out out':List Pt} {v v2:AV} (h:RPS H out v H') (h1:RowAt H2 v2 out') (h2:Kpt (rowA v) H' H2) (h3:∀ a ∈ rowA v2,a ∈ rowA v ∨ H'.length≤a):RPS H out' v2 H2:=by
 obtain ⟨p1,p2,p3⟩:=h
 refine ⟨h1,fun a ha=>?_,⟨Nat.le_trans p3.1 h2.1,fun i hi hn=>?_⟩⟩
 ·rcases h3 a ha with h | h
  ·exact p2 a h
  ·have:=p3.1;omega
 ·rw [h2.2 i (by have:=p3.1;omega) (fun hc=>by have:=p2 i hc;omega)]
  exact p3.2 i hi hn
theorem rparse_loop {s : List UInt8} {g : Int} {H : Hp} (hs : s.length ≤ 4199999999990) (H0 : Hp) : ∀ (k i : Nat) (out : List Pt) (v : AV) (H' : Hp), s.length - i ≤ k → i ≤ s.length →
    RPS H out v H'→out.length≤i→(∀ p ∈ out,p.text.length≤i) →
    PRes H (parseP g (s.drop i) i out) (R16_Parse_L1 (.str s) (.int .i64 g) v (.int .i64 (i:Int)) H0 H'):=by
 intro k
 induction k with
 | zero =>
  intro i out v H' hk hi hp hl ht
  have hlt:decide ((i:Int) < (s.length:Int))=false:=decide_eq_false (by omega)
  have hd:s.drop i=[]:=List.drop_eq_nil_iff.2 (by omega)
  rw [R16_Parse_L1_eq]
  simp only [go_sem,hlt,hd,parseP_nil,R16_Parse_J1_eq]
  exact ⟨v,H',rfl,hp.1,hp.2.2,hp.2.1⟩
 | succ k ih =>
  intro i out v H' hk hi hp hl ht
  by_cases hL:i < s.length
  ·have hlt:decide ((i:Int) < (s.length:Int))=true:=decide_eq_true (by omega)
   have hd:=List.drop_eq_getElem_cons hL
   have hix:=aindexStr_of (List.getElem?_eq_getElem hL)
   have hs1:=slice1 hL
   have e38:((s[i].toNat:Int) == 38)=(s[i] == 38):=(u8d s[i]).2.2.1
   have ene:((s[i].toNat:Int) != 92)=!(s[i] == 92):=u8ne s[i]
   have next : ∀ (out' : List Pt) (v2 : AV) (H2 : Hp), RPS H out' v2 H2 → out'.length ≤ i + 1 → (∀ p ∈ out', p.text.length ≤ i + 1) →
       PRes H (parseP g (s.drop (i+1)) (i+1) out') (R16_Parse_J3 (.str s) (.int .i64 g) v2 (.int .i64 (i:Int)) H0 H2):=by
    intro out' v2 H2 h1 h2 h3
    rw [R16_Parse_J3_eq]
    simp only [go_sem,wsucc (n:=i) (by omega)]
    exact ih (i+1) out' v2 H2 (by omega) (by omega) h1 h2 h3
   rw [hd,R16_Parse_L1_eq]
   simp only [go_sem,hlt,R16_Parse_J2_eq,hix,e38]
   generalize s[i]=c at *
   by_cases c1:c=38
   ·subst c1
    obtain ⟨x',H1,r1,r2,r3,r4,_,_⟩:=hp.1.app ⟨2,0,[]⟩ (by omega)
    have e1:((afill [(0,1,(.int .i64 2))] [(.int .i64 0),(.int .i64 0),(.str [])]).map AV.agg)=some (.agg (ptC ⟨2,0,[]⟩)):=rfl
    have e2:((setElems 3 [(0,.agg (ptC ⟨2,0,[]⟩))] [(.agg [(.int .i64 0),(.int .i64 0),(.str [])])]).map (AV.vs 3 .clip))=some (.vs 3 .clip [.agg (ptC ⟨2,0,[]⟩)]):=rfl
    have ec:((38:UInt8) == 38)=true:=rfl
    simp only [ec,go_sem,e1,e2,r1,parseP_amp]
    refine next _ _ _ (hp.next r2 r3 fun a ha=>(r4 a ha).imp id fun h=>by omega) (by simp;omega) fun p hp=>?_
    rcases List.mem_append.1 hp with h | h
    ·have:=ht p h;omega
    ·rw [List.mem_singleton] at h;subst h;simp
   ·have c1':(c == 38)=false:=by simp [c1]
    simp only [c1',go_sem,R16_Parse_J4_eq,ene]
    by_cases c2:c=92
    ·subst c2
     have ec:(!((92:UInt8) == 92))=false:=rfl
     simp only [ec,go_sem,R16_Parse_J5_eq,wsucc (n:=i) (by omega)]
     by_cases hL2:i+1 < s.length
     ·have hge:((((i+1:Nat):Int)) == (s.length:Int))=false:=by simp;omega
      have hd2:=List.drop_eq_getElem_cons hL2
      have hix2:=aindexStr_of (List.getElem?_eq_getElem hL2)
      have hs2:=slice1 hL2
      have hw2:IntKind.i64.wrap ((i:Int)+2)=((i+1+1:Nat):Int):=by rw [wrap64 (by omega) (by omega)];omega
      have u:=u8d s[i+1]
      have e48:((s[i+1].toNat:Int) != 48)=decide (s[i+1].toNat ≠ 48):=by rw [Bool.eq_iff_iff];simp;omega
      rw [hd2,parseP_esc]
      simp only [hge,go_sem,R16_Parse_J6_eq,wsucc (n:=i) (by omega),hix2]
      generalize s[i+1]=d at *
      have next2 : ∀ (out' : List Pt) (v2 : AV) (H2 : Hp), RPS H out' v2 H2 → out'.length ≤ i + 2 → (∀ p ∈ out', p.text.length ≤ i + 2) →
          PRes H (parseP g (s.drop (i+1+1)) (i+2) out') (R16_Parse_J7 (.str s) (.int .i64 g) v2 (.int .i64 (i:Int)) H0 H2):=by
       intro out' v2 H2 h1 h2 h3
       rw [R16_Parse_J7_eq]
       simp only [go_sem,wsucc (n:=i) (by omega),R16_Parse_J3_eq,wsucc (n:=i+1) (by omega)]
       exact ih (i+2) out' v2 H2 (by omega) (by omega) h1 h2 h3
      have callT:∀ b:UInt8,∃ v2 H2,C_R16_text [v,.str [b]] H'=some (v2,H2)∧RPS H (addT out [b]) v2 H2:=fun b=>by
       obtain ⟨x',H2,r1,r2,r3,r4⟩:=rtext_spec hp.1 [b] (by omega) (fun p hp=>by have:=ht p hp;omega) (by simp)
       exact ⟨x',H2,r1,hp.next r2 r3 r4⟩
      have okT:∀ (b:UInt8) (v2:AV) (H2:Hp),RPS H (addT out [b]) v2 H2→PRes H (parseP g (s.drop (i+1+1)) (i+2) (addT out [b])) (R16_Parse_J7 (.str s) (.int .i64 g) v2 (.int .i64 (i:Int)) H0 H2) :=
       fun b v2 H2 h=>next2 _ v2 H2 h (by have:=addT_len out [b];omega) (fun p hp=>by have:=addT_text out [b] i ht p hp;simp at this;omega)
      have bad:∀ e:Int,PRes H ([],e,(i:Int)) (some (.tuple [.nils,.int .i64 e,.int .i64 (i:Int)],H')):=fun e=>⟨.nils,H',rfl,.inl ⟨rfl,rfl⟩,hp.2.2,fun a ha=>by cases ha⟩
      by_cases dd:48≤d.toNat∧d.toNat≤57
      ·obtain ⟨d1,d2⟩:=dd
       have e1:decide ((48:Int)≤(d.toNat:Int))=true:=decide_eq_true (by omega)
       have e2:decide ((d.toNat:Int)≤57)=true:=decide_eq_true (by omega)
       rw [if_pos ⟨d1,d2⟩]
       simp only [e1,e2,go_sem,u8sub d1 d2,cv64 (n:=(d.toNat:Int) - 48) (by omega) (by omega)]
       have more : ¬(0 < (d.toNat : Int) - 48 ∧ g < (d.toNat : Int) - 48) → PRes H (if 0 < (d.toNat : Int) - 48 ∧ g < (d.toNat : Int) - 48 then ([], 2, (i : Int)) else parseP g (s.drop (i + 1 + 1)) (i + 2) (out ++ [⟨2, (d.toNat : Int) - 48, []⟩]))
           (R16_Parse_J8 (.str s) (.int .i64 g) v (.int .i64 (i:Int)) (.int .u8 (d.toNat:Int)) H0 H'):=by
        intro hn
        rw [if_neg hn]
        obtain ⟨x',H1,r1,r2,r3,r4,_,_⟩:=hp.1.app ⟨2,(d.toNat:Int) - 48,[]⟩ (by omega)
        have f1:((afill [(0,1,(.int .i64 2)),(1,1,.int .i64 ((d.toNat:Int) - 48))] [(.int .i64 0),(.int .i64 0),(.str [])]).map AV.agg)=some (.agg (ptC ⟨2,(d.toNat:Int) - 48,[]⟩)):=rfl
        have f2:((setElems 3 [(0,.agg (ptC ⟨2,(d.toNat:Int) - 48,[]⟩))] [(.agg [(.int .i64 0),(.int .i64 0),(.str [])])]).map (AV.vs 3 .clip))=some (.vs 3 .clip [.agg (ptC ⟨2,(d.toNat:Int) - 48,[]⟩)]):=rfl
        rw [R16_Parse_J8_eq]
        simp only [go_sem,u8sub d1 d2,cv64 (n:=(d.toNat:Int) - 48) (by omega) (by omega),f1,f2,r1]
        refine next2 _ _ _ (hp.next r2 r3 fun a ha=>(r4 a ha).imp id fun h=>by omega) (by simp;omega) fun p hp=>?_
        rcases List.mem_append.1 hp with h | h
        ·have:=ht p h;omega
        ·rw [List.mem_singleton] at h;subst h;simp
       by_cases k2:g < (d.toNat:Int) - 48
       ·have f2:decide (g < (d.toNat:Int) - 48)=true:=decide_eq_true k2
        simp only [f2,go_sem,e48]
        by_cases k1:d.toNat ≠ 48
        ·have f1:decide (d.toNat ≠ 48)=true:=decide_eq_true k1
         rw [if_pos ⟨by omega,k2⟩]
         simp only [f1,go_sem]
         exact bad 2
        ·have f1:decide (d.toNat ≠ 48)=false:=decide_eq_false k1
         simp only [f1,go_sem]
         exact more fun h=>by omega
       ·have f2:decide (g < (d.toNat:Int) - 48)=false:=decide_eq_false k2
        simp only [f2,go_sem]
        exact more fun h=>k2 h.2
      ·rw [if_neg dd]
       have hf:decide ((48:Int)≤(d.toNat:Int))=false ∨ decide ((48:Int)≤(d.toNat:Int))=true∧decide ((d.toNat:Int)≤57)=false:=by
        by_cases h:48≤d.toNat
        ·exact .inr ⟨decide_eq_true (by omega),decide_eq_false (fun h2=>dd ⟨h,by omega⟩)⟩
        ·exact .inl (decide_eq_false (by omega))
       rcases hf with e1 | ⟨e1,e2⟩
       all_goals first | simp only [e1,e2,go_sem,u.1] | simp only [e1,go_sem,u.1]
       all_goals
        by_cases n1:d=110
        ·have en:(d == 110)=true:=by simp [n1]
         obtain ⟨v2,H2,r1,r2⟩:=callT 10
         rw [if_pos (.inl n1)]
         simp only [en,go_sem,r1]
         exact okT 10 v2 H2 r2
        ·have en:(d == 110)=false:=by simp [n1]
         simp only [en,go_sem,u.2.1]
         by_cases n2:d=10
         ·have en2:(d == 10)=true:=by simp [n2]
          obtain ⟨v2,H2,r1,r2⟩:=callT 10
          rw [if_pos (.inr n2)]
          simp only [en2,go_sem,r1]
          exact okT 10 v2 H2 r2
         ·have en2:(d == 10)=false:=by simp [n2]
          rw [if_neg (fun h=>h.elim n1 n2)]
          simp only [en2,go_sem,u.2.2.1]
          obtain ⟨v2,H2,r1,r2⟩:=callT d
          by_cases n3:d=38
          ·have en3:(d == 38)=true:=by simp [n3]
           rw [if_pos (.inl n3)]
           simp only [en3,go_sem,wsucc (n:=i) (by omega),hw2,hs2,r1]
           exact okT d v2 H2 r2
          ·have en3:(d == 38)=false:=by simp [n3]
           simp only [en3,go_sem,u.2.2.2]
           by_cases n4:d=92
           ·have en4:(d == 92)=true:=by simp [n4]
            rw [if_pos (.inr n4)]
            simp only [en4,go_sem,wsucc (n:=i) (by omega),hw2,hs2,r1]
            exact okT d v2 H2 r2
           ·have en4:(d == 92)=false:=by simp [n4]
            rw [if_neg (fun h=>h.elim n3 n4)]
            simp only [en4,go_sem]
            exact bad 1
     ·have hge:((((i+1:Nat):Int)) == (s.length:Int))=true:=by simp;omega
      have hd2:s.drop (i+1)=[]:=List.drop_eq_nil_iff.2 (by omega)
      rw [hd2,parseP_end]
      simp only [hge,go_sem]
      exact ⟨.nils,H',rfl,.inl ⟨rfl,rfl⟩,hp.2.2,fun a ha=>by cases ha⟩
    ·have ec:(!(c == 92))=true:=by simp [c2]
     rw [parseP_plain g c _ _ _ c1 c2]
     obtain ⟨x',H2,r1,r2,r3,r4⟩:=rtext_spec hp.1 [c] (by omega) (fun p hp=>by have:=ht p hp;omega) (by simp)
     simp only [ec,go_sem,wsucc (n:=i) (by omega),hs1,r1]
     exact next _ _ _ (hp.next r2 r3 r4) (by have:=addT_len out [c];omega) (fun p hp=>by have:=addT_text out [c] i ht p hp;simpa using this)
  ·have hlt:decide ((i:Int) < (s.length:Int))=false:=decide_eq_false (by omega)
   have hd:s.drop i=[]:=List.drop_eq_nil_iff.2 (by omega)
   rw [R16_Parse_L1_eq]
   simp only [go_sem,hlt,hd,parseP_nil,R16_Parse_J1_eq]
   exact ⟨v,H',rfl,hp.1,hp.2.2,hp.2.1⟩
theorem rparse_spec {s:List UInt8} {g:Int} (hs:s.length≤4199999999990) (H:Hp):PRes H (parseP g s 0 []) (C_R16_Parse [.str s,.int .i64 g] H):=by
 have:=rparse_loop (g:=g) hs H s.length 0 [] .nils H (by omega) (by omega) ⟨.inl ⟨rfl,rfl⟩,(fun a ha=>by cases ha),Kpt.refl _ _⟩ (by simp) (by simp)
 rw [F_R16_Parse_eq]
 unfold F_R16_Parse
 exact this
end Go.Am
