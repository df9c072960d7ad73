/-
  Reading a replacement: what is read; the program's way.
-/
import Derived.Test.YtcllemkfpjaooaaGreatPtVx
namespace Go.Am
set_option linter.unusedSimpArgs false
set_option linter.unusedVariables false
set_option maxRecDepth 100000

def addT (out:List Pt) (s:List UInt8):List Pt :=
 match out.getLast? with
 | some p=>if p.kind=1 then out.dropLast++[⟨p.kind,p.group,p.text++s⟩] else out++[⟨1,0,s⟩]
 | none=>[⟨1,0,s⟩]
theorem addT_nil (s:List UInt8):addT [] s=[⟨1,0,s⟩]:=(Eq.refl _).trans (Eq.refl _)
theorem addT_snoc (pre:List Pt) (p:Pt) (s:List UInt8):addT (pre++[p]) s=if p.kind=1 then pre++[⟨p.kind,p.group,p.text++s⟩] else (pre++[p])++[⟨1,0,s⟩]:=by
 simp [addT]
theorem addT_len (out:List Pt) (s:List UInt8):(addT out s).length≤out.length+1:=by
 rcases List.eq_nil_or_concat out with rfl | ⟨pre,p,rfl⟩
 ·simp [addT_nil]
 ·rw [List.concat_eq_append,addT_snoc];split <;> simp
theorem addT_text (out:List Pt) (s:List UInt8) (n:Nat) (h:∀ p ∈ out,p.text.length≤n):∀ p ∈ addT out s,p.text.length≤n+s.length:=by
 rcases List.eq_nil_or_concat out with rfl | ⟨pre,p,rfl⟩
 ·intro q hq;rw [addT_nil,List.mem_singleton] at hq;subst hq;simp
 ·rw [List.concat_eq_append] at h ⊢
  intro q hq
  rw [addT_snoc] at hq
  split at hq
  ·rcases List.mem_append.1 hq with hq | hq
   ·have:=h q (List.mem_append_left _ hq);omega
   ·rw [List.mem_singleton] at hq;subst hq
    have:=h p (by simp)
    simp;omega
  ·rcases List.mem_append.1 hq with hq | hq
   ·have:=h q hq;omega
   ·rw [List.mem_singleton] at hq;subst hq;simp
def parseP (g:Int):List UInt8→Nat→List Pt→List Pt × Int × Int
 | [],_,out=>(out,0,0)
 | [c],i,out=>if c=38 then (out++[⟨2,0,[]⟩],0,0) else if c=92 then ([],1,i) else (addT out [c],0,0)
 | c :: d :: l,i,out =>
  if c=38 then parseP g (d :: l) (i+1) (out++[⟨2,0,[]⟩])
  else if c=92 then
   if 48≤d.toNat∧d.toNat≤57 then
    if 0 < (d.toNat:Int) - 48∧g < (d.toNat:Int) - 48 then ([],2,i) else parseP g l (i+2) (out++[⟨2,(d.toNat:Int) - 48,[]⟩])
   else if d=110 ∨ d=10 then parseP g l (i+2) (addT out [10])
   else if d=38 ∨ d=92 then parseP g l (i+2) (addT out [d])
   else ([],1,i)
  else parseP g (d :: l) (i+1) (addT out [c])
 termination_by l=>l.length
theorem parseP_nil (g:Int) (i:Nat) (out:List Pt):parseP g [] i out=(out,0,0):=by rw [parseP]
theorem parseP_amp (g:Int) (l:List UInt8) (i:Nat) (out:List Pt):parseP g (38 :: l) i out=parseP g l (i+1) (out++[⟨2,0,[]⟩]):=by
 cases l with
 | nil=>simp [parseP]
 | cons d l=>rw [parseP,if_pos rfl]
theorem parseP_plain (g:Int) (c:UInt8) (l:List UInt8) (i:Nat) (out:List Pt) (h1:c ≠ 38) (h2:c ≠ 92):parseP g (c :: l) i out=parseP g l (i+1) (addT out [c]):=by
 cases l with
 | nil=>simp [parseP,h1,h2]
 | cons d l=>rw [parseP,if_neg h1,if_neg h2]
theorem parseP_end (g:Int) (i:Nat) (out:List Pt):parseP g [92] i out=([],1,(i:Int)):=by simp [parseP]
theorem parseP_esc (g : Int) (d : UInt8) (l : List UInt8) (i : Nat) (out : List Pt) : parseP g (92 :: d :: l) i out =
    if 48 ≤ d.toNat ∧ d.toNat ≤ 57 then
        if 0 < (d.toNat:Int) - 48∧g < (d.toNat:Int) - 48 then ([],2,(i:Int)) else parseP g l (i+2) (out++[⟨2,(d.toNat:Int) - 48,[]⟩])
     else if d=110 ∨ d=10 then parseP g l (i+2) (addT out [10])
     else if d=38 ∨ d=92 then parseP g l (i+2) (addT out [d])
     else ([],1,(i:Int)):=by
 rw [parseP,if_neg (by decide),if_pos rfl]
theorem splice_row (A:List Pt) (f:Pt) (B:List Pt) (j:Nat) (c:List AV) (hj:j+c.length≤3):splice (rowC (A++f :: B)) (A.length * 3+j) c=rowC A++(splice (ptC f) j c++rowC B):=by
 have hA:=rowC_len A
 have h3:(ptC f).length=3:=rfl
 unfold splice
 rw [rowC_app,rowC_cons,← hA]
 rw [List.take_length_add_append,List.take_append_of_le_length (by omega),Nat.add_assoc,List.drop_length_add_append,List.drop_append_of_le_length (by omega)]
 simp [List.append_assoc]
theorem put_text {H : Hp} {pre : List Pt} {p : Pt} {o e : Nat} (ho : H[o]? = some (.row e (rowC (pre ++ [p])))) (t : List UInt8) :
    astoreU 1 (.wp o e (pre.length * 3+2)) (.str t) H=some (.tuple [],H.set o (.row e (rowC (pre++[⟨p.kind,p.group,t⟩])))):=by
 have hl:(rowC (pre++[p])).length=pre.length * 3+3:=by rw [rowC_len];simp;omega
 unfold astoreU astore
 simp only [ho]
 rw [if_pos ⟨trivial,rfl,rfl,by omega⟩]
 have hs:=splice_row pre p [] 2 [.str t] (by simp)
 show some (AV.tuple [],H.set o (.row e (splice (rowC (pre++[p])) (pre.length * 3+2) [AV.str t])))=_
 rw [hs,rowC_app]
 rfl
def PS (H:Hp) (out:List Pt) (H':Hp):Prop:=∃ v,H'[H.length]?=some (.cells [v])∧RowAt H' v out∧(∀ a ∈ rowA v,H.length < a)∧Kpt [] H H'∧v.cells=[v]∧v.known=true
theorem store_ptr {H:Hp} {o:Nat} {v x:AV} (h:H[o]?=some (.cells [v])) (hk:x.known=true) (hc:x.cells=[x]):astoreU 1 (.ptr o 0) x H=some (.tuple [],H.set o (.cells [x])):=by
 rw [astore_of (l:=[v]) h hk (by rw [hc];rfl) (by simp),hc]
 rfl
theorem RowAt.kept {H H':Hp} {x:AV} {L:List Pt} {W:List Nat} (h:RowAt H x L) (hk:Kpt W H H') (hn:∀ a ∈ rowA x,a ∉ W):RowAt H' x L :=
 h.imp id fun ⟨o,e,h1,h2⟩=>⟨o,e,h1,hk.get h2 (hn o (by rw [h1];simp [rowA]))⟩
theorem PS.app {H H' : Hp} {out : List Pt} (h : PS H out H') (f : Pt) (hl : out.length < 4200000000000) :
    ∃ v x' H1 H2,aload false 1 (.ptr H.length 0) H'=some v∧alenD (.slice 56) v=some (.int .i64 (out.length:Int))∧aappEL true 3 32 v (.vs 3 .clip [.agg (ptC f)]) H'=some (x',H1) ∧
     astoreU 1 (.ptr H.length 0) x' H1=some (.tuple [],H2)∧PS H (out++[f]) H2:=by
 obtain ⟨v,h1,h2,h3,h4,h5,h6⟩:=h
 obtain ⟨x',H1,r1,r2,r3,r4,r5,r6⟩:=h2.app f hl
 have hlt:=lt_of_get h1
 have hno:H.length ∉ rowA v:=fun h=>absurd (h3 _ h) (by omega)
 have ho1:=r3.get h1 hno
 have hno':∀ a ∈ rowA x',H.length < a:=fun a ha=>by
  rcases r4 a ha with h | h
  ·exact h3 a h
  ·omega
 have hk1:Kpt [] H H1:=⟨Nat.le_trans h4.1 r3.1,fun i hi _=>(r3.2 i (by omega) (fun hc=>absurd (h3 i hc) (by omega))).trans (h4.2 i hi (by simp))⟩
 refine ⟨v,x',H1,H1.set H.length (.cells [x']),by rw [aload_of h1];rfl,h2.rd.len 56,r1,store_ptr ho1 r6 r5,x',get_set_eq _ ho1,?_,hno',?_,r5,r6⟩
 ·refine r2.kept (W:=[H.length]) (Kpt.set _ _ (by simp)) fun a ha hc=>?_
  have:=hno' a ha
  rw [List.mem_singleton] at hc
  omega
 ·exact ⟨by simpa using hk1.1,fun i hi _=>by rw [List.getElem?_set_ne (by omega)];exact hk1.2 i hi (by simp)⟩
theorem closure_J1 {H H' : Hp} {out : List Pt} (h : PS H out H') (c : UInt8) (hl : out.length < 4200000000000) (H0 : Hp) :
    ∃ H2,template_Parse_1_J1 (.int .u8 (c.toNat:Int)) (.ptr H.length 0) H0 H'=some (.tuple [],H2)∧PS H (out++[⟨1,0,[c]⟩]) H2:=by
 obtain ⟨v,x',H1,H2,r1,r2,r3,r4,r5⟩:=h.app ⟨1,0,[c]⟩ hl
 refine ⟨H2,?_,r5⟩
 have e1:((afill [(0,1,(.int .i64 1)),(2,1,.str [c])] [(.int .i64 0),(.int .i64 0),(.str [])]).map AV.agg)=some (.agg (ptC ⟨1,0,[c]⟩)):=rfl
 have e2:((setElems 3 [(0,.agg (ptC ⟨1,0,[c]⟩))] [(.agg [(.int .i64 0),(.int .i64 0),(.str [])])]).map (AV.vs 3 .clip))=some (.vs 3 .clip [.agg (ptC ⟨1,0,[c]⟩)]):=rfl
 rw [template_Parse_1_J1_eq]
 simp only [go_sem,r1,one_byte,rd_one,e1,e2,r3,r4]
theorem closure_spec {H H' : Hp} {out : List Pt} (h : PS H out H') (c : UInt8) (hl : out.length < 4200000000000) (ht : ∀ p ∈ out, p.text.length ≤ 8000000000000) :
    ∃ H2,acall cfg (callw cfg) (.fn (.func 19) [] [.ptr H.length 0]) [.int .u8 (c.toNat:Int)] H'=some (.tuple [],H2)∧PS H (addT out [c]) H2:=by
 rw [V_template_Parse_1]
 show ∃ H2,C_template_Parse_1 [.int .u8 (c.toNat:Int),.ptr H.length 0] H'=some (.tuple [],H2)∧PS H (addT out [c]) H2
 rw [F_template_Parse_1_eq]
 unfold F_template_Parse_1
 obtain ⟨v,h1,h2,h3,h4,h5,h6⟩:=h
 have hld:aload false 1 (.ptr H.length 0) H'=some v:=by rw [aload_of h1];rfl
 rcases List.eq_nil_or_concat out with rfl | ⟨pre,p,rfl⟩
 ·obtain ⟨H2,r1,r2⟩:=closure_J1 ⟨v,h1,h2,h3,h4,h5,h6⟩ c (by simp) H'
  refine ⟨H2,?_,r2⟩
  have e0:decide ((0:Int) < (([]:List Pt).length:Int))=false:=by decide
  simp only [go_sem,hld,h2.rd.len,e0]
  exact r1
 ·rw [List.concat_eq_append] at *
  have hpl:(pre++[p])[pre.length]?=some p:=by simp
  have hlen:(pre++[p]).length=pre.length+1:=by simp
  have e0:decide ((0:Int) < ((pre++[p]).length:Int))=true:=decide_eq_true (by rw [hlen];omega)
  have hw:IntKind.i64.wrap (((pre++[p]).length:Int) - 1)=(pre.length:Int):=by rw [wrap64 (by omega) (by omega),hlen];omega
  rcases h2 with ⟨_,h2⟩ | ⟨o,e,rfl,h2⟩
  ·simp at h2
  ·have hrow:RowAt H' (.ws true 3 o e (pre++[p]).length) (pre++[p]):=.inr ⟨o,e,rfl,h2⟩
   have hix:aindexS 3 (.ws true 3 o e (pre++[p]).length) (.int .i64 (pre.length:Int))=some (.wp o e (pre.length * 3)):=by
    unfold aindexS
    dsimp only
    rw [if_pos (by rw [hlen];omega),Int.toNat_natCast]
   obtain ⟨a,a0,a1,a2,q1,q2,q3,q4,q5,q6,q7,_⟩:=hrow.rd.idx hpl
   rw [hix] at q1
   injection q1 with q1
   subst q1
   rw [afield_wp] at q2 q4
   injection q2 with q2
   injection q4 with q4
   subst q2 q4
   simp only [go_sem,hld,hrow.rd.len,e0,hw,hix,q5]
   by_cases k1:p.kind=1
   ·have ek:(p.kind == 1)=true:=by simp [k1]
    have hadd:sbin .add (.str p.text) (.str [c])=some (.str (p.text++[c])):=sbin_add (by have:=ht p (by simp);simp;omega)
    have hno:o ≠ H.length:=by have:=h3 o (by simp [rowA]);omega
    simp only [ek,go_sem,hld,hix,q7,one_byte,rd_one,hadd,put_text h2]
    refine ⟨_,rfl,.ws true 3 o e (pre++[p]).length,get_set_ne _ hno h1,.inr ⟨o,e,by rw [addT_snoc,if_pos k1];simp,?_⟩,h3,?_,rfl,rfl⟩
    ·rw [get_set_eq _ h2,addT_snoc,if_pos k1]
    ·have:=h3 o (by simp [rowA])
     exact ⟨by simpa using h4.1,fun i hi _=>by rw [List.getElem?_set_ne (by omega)];exact h4.2 i hi (by simp)⟩
   ·have ek:(p.kind == 1)=false:=by simp [k1]
    obtain ⟨H2,r1,r2⟩:=closure_J1 (out:=pre++[p]) ⟨_,h1,hrow,h3,h4,rfl,rfl⟩ c hl H'
    refine ⟨H2,?_,by rw [addT_snoc,if_neg k1];exact r2⟩
    simp only [ek,go_sem]
    exact r1
end Go.Am
