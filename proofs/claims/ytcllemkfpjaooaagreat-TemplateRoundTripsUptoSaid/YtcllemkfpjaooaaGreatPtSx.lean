/-
  Replacements in the machine: rows of parts; comparing them, and whether they are normal.
-/
import Derived.Test.YtcllemkfpjaooaaGreatPtGx
import Derived.Test.YtcllemkfpjaooaaGreatHmTx
namespace Go.Am
set_option linter.unusedSimpArgs false
set_option linter.unusedVariables false
set_option maxRecDepth 100000

theorem afield_wp (k o e x:Nat):afield k (.wp o e x)=some (.wp o e (x+k)):=(Eq.refl _).trans (Eq.refl _)
attribute [go_sem] afield_wp
theorem u8eq (b:UInt8) (n:Nat) (h:n < 256):(((b.toNat:Int)) == (n:Int))=(b == UInt8.ofNat n):=by
 rw [Bool.eq_iff_iff]
 simp only [beq_iff_eq]
 constructor
 ·intro e
  have:b.toNat=n:=by omega
  rw [← this];simp
 ·intro e
  subst e
  simp;omega
theorem aindexStr_of {s:List UInt8} {i:Nat} {b:UInt8} (h:s[i]?=some b):aindexStr (.str s) (.int .i64 (i:Int))=some (.int .u8 b.toNat):=by simp [aindexStr,h]
theorem wsucc {n:Nat} (h:n < 9223372036854775807):IntKind.i64.wrap ((n:Int)+1)=((n+1:Nat):Int):=by rw [wrap64 (by omega) (by omega)];omega
structure Pt where
 kind:Int
 group:Int
 text:List UInt8
deriving DecidableEq
def ptC (p:Pt):List AV:=[.int .i64 p.kind,.int .i64 p.group,.str p.text]
def ptV (p:Pt):AV:=.agg (ptC p)
def rowC (L:List Pt):List AV:=(L.map ptC).flatten
theorem rowC_app (A B:List Pt):rowC (A++B)=rowC A++rowC B:=by simp [rowC]
theorem rowC_cons (f:Pt) (B:List Pt):rowC (f :: B)=ptC f++rowC B:=by simp [rowC]
theorem rowC_len (L:List Pt):(rowC L).length=L.length * 3:=by
 induction L with
 | nil=>rfl
 | cons f L ih=>rw [rowC_cons,List.length_append,ih,List.length_cons];simp [ptC];omega
theorem mid_of {L:List Pt} {i:Nat} {f:Pt} (h:L[i]?=some f):∃ A B,L=A++f :: B∧A.length=i:=by
 obtain ⟨hl,he⟩:=List.getElem?_eq_some_iff.1 h
 refine ⟨L.take i,L.drop (i+1),?_,by rw [List.length_take];omega⟩
 rw [← he,← List.drop_eq_getElem_cons hl,List.take_append_drop]
def Kpt (W:List Nat) (H H':Hp):Prop:=H.length≤H'.length∧∀ i,i < H.length→i ∉ W→H'[i]?=H[i]?
theorem Kpt.refl (W:List Nat) (H:Hp):Kpt W H H:=⟨Nat.le_refl _,fun _ _ _=>rfl⟩
theorem Kpt.trans {W:List Nat} {H H' H'':Hp} (h:Kpt W H H') (h':Kpt W H' H''):Kpt W H H'' :=
 ⟨Nat.le_trans h.1 h'.1,fun i hi hn=>(h'.2 i (Nat.lt_of_lt_of_le hi h.1) hn).trans (h.2 i hi hn)⟩
theorem Kpt.push (W:List Nat) (H l:Hp):Kpt W H (H++l):=⟨by simp,fun i hi _=>by rw [List.getElem?_append_left hi]⟩
theorem Kpt.set {W:List Nat} (H:Hp) {o:Nat} (x:AObj) (h:o ∈ W):Kpt W H (H.set o x) :=
 ⟨by simp,fun i hi hn=>by rw [List.getElem?_set_ne (fun e=>hn (by rw [← e];exact h))]⟩
theorem Kpt.get {W:List Nat} {H H':Hp} (h:Kpt W H H') {i:Nat} {x:AObj} (hx:H[i]?=some x) (hn:i ∉ W):H'[i]?=some x:=(h.2 i (lt_of_get hx) hn).trans hx
def RdAt (H:Hp) (x:AV) (L:List Pt):Prop:=x=.nils∧L=[] ∨ (∃ t,x=.vs 3 t (L.map ptV)) ∨ ∃ o e,x=.ws true 3 o e L.length∧H[o]?=some (.row e (rowC L))
def rowA:AV→List Nat
 | .ws _ _ o _ _=>[o]
 | _=>[]
theorem RdAt.frame {H H':Hp} {x:AV} {L:List Pt} (h:RdAt H x L) (hf:∀ a ∈ rowA x,H'[a]?=H[a]?):RdAt H' x L :=
 h.imp id fun h=>h.imp id fun ⟨o,e,h1,h2⟩=>⟨o,e,h1,(hf o (by rw [h1];simp [rowA])).trans h2⟩
theorem RdAt.lt {H:Hp} {x:AV} {L:List Pt} (h:RdAt H x L):∀ a ∈ rowA x,a < H.length:=by
 intro a ha
 rcases h with ⟨rfl,_⟩ | ⟨t,rfl⟩ | ⟨o,e,rfl,h2⟩
 ·cases ha
 ·cases ha
 ·rw [List.mem_singleton.1 ha];exact lt_of_get h2
theorem RdAt.kept {H H':Hp} {x:AV} {L:List Pt} {W:List Nat} (h:RdAt H x L) (hk:Kpt W H H') (hn:∀ a ∈ rowA x,a ∉ W):RdAt H' x L :=
 h.frame fun a ha=>hk.2 a (h.lt a ha) (hn a ha)
theorem RdAt.len {H:Hp} {x:AV} {L:List Pt} (h:RdAt H x L) (t:Nat):alenD (.slice t) x=some (.int .i64 (L.length:Int)):=by
 rcases h with ⟨rfl,rfl⟩ | ⟨tk,rfl⟩ | ⟨o,e,rfl,_⟩
 ·rfl
 ·rw [alen_vs,List.length_map]
 ·rfl
theorem RdAt.idx {H : Hp} {x : AV} {L : List Pt} (h : RdAt H x L) {i : Nat} {f : Pt} (hi : L[i]? = some f) :
    ∃ a a0 a1 a2,aindexS 3 x (.int .i64 (i:Int))=some a∧afield 0 a=some a0∧afield 1 a=some a1∧afield 2 a=some a2 ∧
     aload false 1 a0 H=some (.int .i64 f.kind)∧aload false 1 a1 H=some (.int .i64 f.group)∧aload false 1 a2 H=some (.str f.text) ∧
     aload true 3 a H=some (.agg (ptC f)):=by
 have hl:=(List.getElem?_eq_some_iff.1 hi).1
 rcases h with ⟨rfl,rfl⟩ | ⟨tk,rfl⟩ | ⟨o,e,rfl,h2⟩
 ·simp at hi
 ·refine ⟨.vp (ptC f),.vp (ptC f),.vp [.int .i64 f.group,.str f.text],.vp [.str f.text],?_,rfl,rfl,rfl,rfl,rfl,rfl,rfl⟩
  unfold aindexS
  dsimp only
  rw [if_pos ⟨rfl,by omega⟩,Int.toNat_natCast,List.getElem?_map,hi]
  rfl
 ·obtain ⟨A,B,rfl,rfl⟩:=mid_of hi
  have hrow:rowC (A++f :: B)=rowC A++(ptC f++rowC B):=by rw [rowC_app,rowC_cons]
  have hA:=rowC_len A
  have hd:(rowC (A++f :: B)).drop (A.length * 3)=ptC f++rowC B:=by rw [hrow,← hA,List.drop_left]
  have hg:∀ j,(rowC (A++f :: B))[A.length * 3+j]?=(ptC f++rowC B)[j]?:=fun j=>by rw [← List.getElem?_drop,hd]
  refine ⟨.wp o e (A.length * 3),.wp o e (A.length * 3+0),.wp o e (A.length * 3+1),.wp o e (A.length * 3+2),?_,rfl,rfl,rfl,?_,?_,?_,?_⟩
  ·unfold aindexS
   dsimp only
   rw [if_pos (by omega),Int.toNat_natCast]
  ·unfold aload
   simp only [h2,if_true]
   unfold Go.Am.apart
   simp only [hg]
   rfl
  ·unfold aload
   simp only [h2,if_true]
   unfold Go.Am.apart
   simp only [hg]
   rfl
  ·unfold aload
   simp only [h2,if_true]
   unfold Go.Am.apart
   simp only [hg]
   rfl
  ·unfold aload
   simp only [h2,if_true]
   unfold Go.Am.apart
   have h3:((rowC (A++f :: B)).drop (A.length * 3)).take 3=ptC f:=by rw [hd];rfl
   simp only [h3,if_true]
   rw [if_pos (by rw [rowC_len];simp;omega)]
def RowAt (H:Hp) (x:AV) (L:List Pt):Prop:=x=.nils∧L=[] ∨ ∃ o e,x=.ws true 3 o e L.length∧H[o]?=some (.row e (rowC L))
theorem RowAt.rd {H:Hp} {x:AV} {L:List Pt} (h:RowAt H x L):RdAt H x L:=h.imp id Or.inr
theorem RowAt.app {H : Hp} {x : AV} {L : List Pt} (h : RowAt H x L) (f : Pt) (hl : L.length < 4200000000000) :
    ∃ x' H',aappEL true 3 32 x (.vs 3 .clip [.agg (ptC f)]) H=some (x',H')∧RowAt H' x' (L++[f])∧Kpt (rowA x) H H'∧(∀ a ∈ rowA x',a ∈ rowA x ∨ a=H.length)∧x'.cells=[x']∧x'.known=true:=by
 unfold aappEL
 have he:Go.Am.elems 3 (.vs 3 .clip [.agg (ptC f)]) H=some [.agg (ptC f)]:=rfl
 rw [he]
 dsimp only
 have hf1:fits 1 32=true:=rfl
 have hfit:fits (L.length+1) 32=true:=by simp [fits];omega
 rcases h with ⟨rfl,rfl⟩ | ⟨o,e,rfl,ho⟩
 ·refine ⟨.ws true 3 H.length 0 1,H++[.row 0 (ptC f)],?_,.inr ⟨H.length,0,rfl,by simp [rowC]⟩,Kpt.push _ _ _,fun a ha=>.inr (List.mem_singleton.1 ha),rfl,rfl⟩
  unfold aappL
  simp only [List.length_singleton,hf1,if_true,List.map_cons,List.map_nil,List.flatten_cons,List.flatten_nil,AV.cells,List.append_nil]
  rw [if_neg (by simp)]
 ·refine ⟨.ws true 3 o (e+1) (L.length+1),H.set o (.row (e+1) (rowC (L++[f]))),?_,.inr ⟨o,e+1,by simp,get_set_eq _ ho⟩,Kpt.set _ _ (by simp [rowA]),fun a ha=>.inl (by simpa [rowA] using ha),rfl,rfl⟩
  unfold aappL
  simp only [List.length_singleton,hfit,and_self,if_true,ho,rowC_len,Nat.le_refl,cutL_eq,List.take_of_length_le (Nat.le_of_eq (rowC_len L)),List.map_cons,List.map_nil,List.flatten_cons,List.flatten_nil,AV.cells,List.append_nil]
  rw [if_neg (by simp),rowC_app,rowC_cons]
  simp [rowC]
theorem pt_cmp (a a' : Int) (m m' : Int) (n n' : List UInt8) : aeqBin Go.Proofs.Tryz.prog cfg.eqok .neq 56 (.agg [.int .i64 a, .int .i64 m, .str n]) (.agg [.int .i64 a', .int .i64 m', .str n']) =
    (match (match some (a == a') with
     | some true=>(match some (m == m') with
      | some true=>(match some (n == n') with
       | some true=>some true
       | r=>r)
      | r=>r)
     | r=>r:Option Bool) with
    | some b=>some (.bool (!b))
    | none=>none):=by kernel_rfl
theorem pt_ne (f g:Pt):aeqBin Go.Proofs.Tryz.prog cfg.eqok .neq 56 (.agg (ptC f)) (.agg (ptC g))=some (.bool (!decide (f=g))):=by
 obtain ⟨a,m,n⟩:=f
 obtain ⟨a',m',n'⟩:=g
 unfold ptC
 rw [pt_cmp]
 by_cases h1:a=a'
 ·by_cases h2:m=m'
  ·by_cases h3:n=n'
   ·simp [h1,h2,h3]
   ·simp [h1,h2,h3]
  ·simp [h1,h2]
 ·simp [h1]
theorem same_loop {H : Hp} {x y : AV} {L M : List Pt} (hx : RdAt H x L) (hy : RdAt H y M) (hl : L.length = M.length) (hb : L.length ≤ 8000000000000) (H0 : Hp) : ∀ (k i : Nat), L.length - i = k → i ≤ L.length →
    R16_SameParts_L1 x y (.int .i64 (i:Int)) H0 H=some (.bool (decide (L.drop i=M.drop i)),H):=by
 intro k
 induction k with
 | zero =>
  intro i hk hi
  have hlt:decide ((i:Int) < (L.length:Int))=false:=by simp;omega
  have h1:L.drop i=[]:=List.drop_eq_nil_iff.2 (by omega)
  have h2:M.drop i=[]:=List.drop_eq_nil_iff.2 (by omega)
  rw [R16_SameParts_L1_eq]
  simp only [go_sem,hx.len,hlt,R16_SameParts_J2_eq,h1,h2]
  rfl
 | succ k ih =>
  intro i hk hi
  have hlt:decide ((i:Int) < (L.length:Int))=true:=by simp;omega
  have hL:i < L.length:=by omega
  have hM:i < M.length:=by omega
  obtain ⟨a,a0,a1,a2,q1,_,_,_,_,_,_,q8⟩:=hx.idx (List.getElem?_eq_getElem hL)
  obtain ⟨c,c0,c1,c2,r1,_,_,_,_,_,_,r8⟩:=hy.idx (List.getElem?_eq_getElem hM)
  rw [R16_SameParts_L1_eq]
  simp only [go_sem,hx.len,hlt,R16_SameParts_J3_eq,q1,q8,r1,r8,pt_ne]
  rw [List.drop_eq_getElem_cons hL,List.drop_eq_getElem_cons hM]
  by_cases he:L[i]=M[i]
  ·have hd:decide (L[i]=M[i])=true:=by simp [he]
   simp only [hd,Bool.not_true,go_sem,R16_SameParts_J4_eq,wsucc (n:=i) (by omega)]
   rw [ih (i+1) (by omega) (by omega)]
   simp only [List.cons.injEq,he,true_and]
  ·have hd:decide (L[i]=M[i])=false:=by simp [he]
   simp only [hd,Bool.not_false,go_sem]
   simp only [List.cons.injEq,he,false_and,decide_false]
theorem same_spec {H : Hp} {x y : AV} {L M : List Pt} (hx : RdAt H x L) (hy : RdAt H y M) (hb : L.length ≤ 8000000000000) :
    C_R16_SameParts [x,y] H=some (.bool (decide (L=M)),H):=by
 rw [F_R16_SameParts_eq]
 unfold F_R16_SameParts
 simp only [go_sem,hx.len,hy.len]
 by_cases hl:L.length=M.length
 ·have h1:((L.length:Int) != (M.length:Int))=false:=by simp [hl]
  simp only [h1,go_sem,R16_SameParts_J1_eq]
  have:=same_loop hx hy hl hb H L.length 0 (by omega) (by omega)
  simpa using this
 ·have h1:((L.length:Int) != (M.length:Int))=true:=by simp;omega
  have h2:decide (L=M)=false:=by simp;intro h;exact hl (by rw [h])
  simp only [h1,go_sem,h2]
def isT (p:Pt):Bool:=p.kind == 1 && (decide (0 < p.text.length) && p.group == 0)
def isG (p:Pt):Bool:=p.kind == 2 && (p.text == [] && (decide (0≤p.group) && decide (p.group≤9)))
def normG:Bool→List Pt→Bool
 | _,[]=>true
 | q,p :: l=>if ((!isT p && !isG p) || (isT p && q))=true then false else normG (p.kind == 1) l
def normP (L:List Pt):Bool:=normG false L
def beforeT (L:List Pt) (i:Nat):Bool:=match i with
 | 0=>false
 | i+1=>match L[i]? with
  | some p=>p.kind == 1
  | none=>false
theorem norm_loop {H : Hp} {x : AV} {L : List Pt} (hx : RdAt H x L) (hb : L.length ≤ 8000000000000) (H0 : Hp) : ∀ (k i : Nat), L.length - i = k → i ≤ L.length →
    R16_Normal_L1 x (.int .i64 (i:Int)) H0 H=some (.bool (normG (beforeT L i) (L.drop i)),H):=by
 intro k
 induction k with
 | zero =>
  intro i hk hi
  have hlt:decide ((i:Int) < (L.length:Int))=false:=by simp;omega
  have h1:L.drop i=[]:=List.drop_eq_nil_iff.2 (by omega)
  rw [R16_Normal_L1_eq]
  simp only [go_sem,hx.len,hlt,R16_Normal_J1_eq,h1]
  rfl
 | succ k ih =>
  intro i hk hi
  have hlt:decide ((i:Int) < (L.length:Int))=true:=by simp;omega
  have hL:i < L.length:=by omega
  have hLi:=List.getElem?_eq_getElem hL
  obtain ⟨a,a0,a1,a2,q1,q2,q3,q4,q5,q6,q7,q8⟩:=hx.idx hLi
  rw [R16_Normal_L1_eq]
  simp only [go_sem,hx.len,hlt,R16_Normal_J2_eq,q1,q2,q5]
  have hih:=ih (i+1) (by omega) (by omega)
  have hbf:beforeT L (i+1)=(L[i].kind == 1):=by simp [beforeT,hLi]
  rw [hbf] at hih
  rw [List.drop_eq_getElem_cons hL]
  generalize hp:L[i]=p at *
  unfold normG
  by_cases hk1:p.kind=1
  ·have e1:(p.kind == 1)=true:=by simp [hk1]
   have e2:(p.kind == 2)=false:=by simp [hk1]
   have hG:isG p=false:=by simp [isG,e2]
   simp only [e1,e2,go_sem,q1,q3,q4,q6,q7,hG,Bool.not_false,Bool.and_true]
   rw [e1] at hih
   by_cases hT:isT p=true
   ·have h3:decide ((0:Int) < (p.text.length:Int))=true:=by simp [isT,e1] at hT;simp;omega
    have h4:(p.group == 0)=true:=by simp [isT,e1] at hT;simp [hT]
    simp only [h3,h4,go_sem,q1,q3,q4,q6,q7,hT,Bool.not_true,Bool.not_false,Bool.true_and,Bool.false_or]
    cases i with
    | zero =>
     have h0:decide ((0:Int) < ((0:Nat):Int))=false:=by decide
     simp only [h0,go_sem,beforeT,Bool.false_eq_true,if_false,R16_Normal_J3_eq,wsucc (n:=0) (by omega)]
     exact hih
    | succ m =>
     have h0:decide ((0:Int) < ((m+1:Nat):Int))=true:=by simp
     have hw:IntKind.i64.wrap (((m+1:Nat):Int) - 1)=(m:Int):=by rw [wrap64 (by omega) (by omega)];omega
     have hm:m < L.length:=by omega
     obtain ⟨c,c0,c1,c2,r1,r2,_,_,r5,_,_,_⟩:=hx.idx (List.getElem?_eq_getElem hm)
     simp only [h0,go_sem,hw,r1,r2,r5,beforeT,List.getElem?_eq_getElem hm]
     cases (L[m].kind == 1) with
     | true=>simp only [go_sem,if_true]
     | false =>
      simp only [go_sem,Bool.false_eq_true,if_false,R16_Normal_J3_eq,wsucc (n:=m+1) (by omega)]
      exact hih
   ·have hT':isT p=false:=by simpa using hT
    simp only [hT',Bool.not_false,Bool.true_or,if_true]
    by_cases h3:0 < p.text.length
    ·have h3':decide ((0:Int) < (p.text.length:Int))=true:=decide_eq_true (by omega)
     have h4:(p.group == 0)=false:=by simp [isT,e1,h3] at hT';simp [hT']
     simp only [h3',h4,go_sem,q1,q3,q4,q6,q7,Bool.not_false]
    ·have h3':decide ((0:Int) < (p.text.length:Int))=false:=decide_eq_false (by omega)
     simp only [h3',go_sem,q1,q3,q4,q6,q7,Bool.not_false]
  ·have e1:(p.kind == 1)=false:=by simp [hk1]
   have hT:isT p=false:=by simp [isT,e1]
   simp only [e1,go_sem,hT,Bool.not_false,Bool.true_and,Bool.false_and,Bool.or_false]
   rw [e1] at hih
   by_cases hk2:p.kind=2
   ·have e2:(p.kind == 2)=true:=by simp [hk2]
    simp only [e2,go_sem,q1,q3,q4,q6,q7]
    by_cases hG:isG p=true
    ·have h3:(p.text == [])=true:=by simp [isG,e2] at hG;simp [hG]
     have h4:decide ((0:Int)≤p.group)=true:=by simp [isG,e2] at hG;simp [hG]
     have h5:decide (p.group≤9)=true:=by simp [isG,e2] at hG;simp [hG]
     simp only [h3,h4,h5,go_sem,q1,q3,q4,q6,q7,hG,Bool.not_true,Bool.not_false,Bool.false_eq_true,if_false,R16_Normal_J3_eq,wsucc (n:=i) (by omega)]
     exact hih
    ·have hG':isG p=false:=by simpa using hG
     simp only [hG',Bool.not_false,if_true]
     by_cases h3:p.text=[]
     ·have h3':(p.text == [])=true:=by simp [h3]
      by_cases h4:0≤p.group
      ·have h4':decide ((0:Int)≤p.group)=true:=by simp [h4]
       have h5:decide (p.group≤9)=false:=by simp [isG,e2,h3,h4] at hG';simp;omega
       simp only [h3',h4',h5,go_sem,q1,q3,q4,q6,q7,Bool.not_false]
      ·have h4':decide ((0:Int)≤p.group)=false:=by simp [h4]
       simp only [h3',h4',go_sem,q1,q3,q4,q6,q7,Bool.not_false]
     ·have h3':(p.text == [])=false:=by simp [h3]
      simp only [h3',go_sem,q1,q3,q4,q6,q7,Bool.not_false]
   ·have e2:(p.kind == 2)=false:=by simp [hk2]
    have hG:isG p=false:=by simp [isG,e2]
    simp only [e2,go_sem,hG,Bool.not_false,if_true]
theorem norm_spec {H:Hp} {x:AV} {L:List Pt} (hx:RdAt H x L) (hb:L.length≤8000000000000):C_R16_Normal [x] H=some (.bool (normP L),H):=by
 rw [F_R16_Normal_eq]
 unfold F_R16_Normal normP
 have:=norm_loop hx hb H L.length 0 (by omega) (by omega)
 simpa [beforeT] using this
end Go.Am
