/-
  Counting nodes; the shape of a node.
-/
import Derived.Test.YtpahcdhligjdiaaRcMx
import Derived.Test.YtpahcdhligjdiaaRcGTx
namespace Go.Am
set_option linter.unusedSimpArgs false
set_option linter.unusedVariables false
set_option maxRecDepth 100000

def Kpt (W:List Nat) (H H':Hp):Prop:=H.length≤H'.length∧∀ i,i < H.length→i ∉ W→H'[i]?=H[i]?
theorem Kpt.refl (W:List Nat) (H:Hp):Kpt W H H:=⟨Nat.le_refl _,fun _ _ _=>rfl⟩
theorem Kpt.trans {W:List Nat} {H H' H'':Hp} (h:Kpt W H H') (h':Kpt W H' H''):Kpt W H H'' :=
 ⟨Nat.le_trans h.1 h'.1,fun i hi hn=>(h'.2 i (Nat.lt_of_lt_of_le hi h.1) hn).trans (h.2 i hi hn)⟩
theorem Kpt.push (W:List Nat) (H l:Hp):Kpt W H (H++l):=⟨by simp,fun i hi _=>by rw [List.getElem?_append_left hi]⟩
theorem Kpt.set {W:List Nat} (H:Hp) {o:Nat} (x:AObj) (h:o ∈ W):Kpt W H (H.set o x) :=
 ⟨by simp,fun i hi hn=>by rw [List.getElem?_set_ne (fun e=>hn (by rw [← e];exact h))]⟩
theorem Kpt.get {W:List Nat} {H H':Hp} (h:Kpt W H H') {i:Nat} {x:AObj} (hx:H[i]?=some x) (hn:i ∉ W):H'[i]?=some x:=(h.2 i (lt_of_get hx) hn).trans hx
theorem Kpt.weak {W W':List Nat} {H H':Hp} (h:Kpt W H H') (hw:∀ i ∈ W,i < H.length→i ∈ W'):Kpt W' H H' :=
 ⟨h.1,fun i hi hn=>h.2 i hi fun hc=>hn (hw i hc hi)⟩
theorem and_b {α:Type} (a b:Bool) (f:AV→Option α):bnd (gdv (.bool a) true (.tuple []) (some (.bool b))) (fun t=>bnd (apick (.bool a) t (.bool false)) f)=f (.bool (a && b)):=by
 cases a <;> rfl
theorem or_b {α:Type} (a b:Bool) (f:AV→Option α):bnd (gdv (.bool a) false (.tuple []) (some (.bool b))) (fun t=>bnd (apick (.bool a) (.bool true) t) f)=f (.bool (a || b)):=by
 cases a <;> rfl
mutual
def cntM (op:Int):Rt→Nat
 | .mk h args=>(if op=0 ∨ h.op=op then 1 else 0)+cntL op args
def cntL (op:Int):List Rt→Nat
 | []=>0
 | e :: l=>cntM op e+cntL op l
end
theorem cntM_eq (op:Int) (h:Hd) (args:List Rt):cntM op (.mk h args)=(if op=0 ∨ h.op=op then 1 else 0)+cntL op args:=by rw [cntM]
theorem cntL_cons (op:Int) (e:Rt) (l:List Rt):cntL op (e :: l)=cntM op e+cntL op l:=by rw [cntL]
theorem cntL_nil (op:Int):cntL op []=0:=by rw [cntL]
theorem sizL_cons (e:Rt) (l:List Rt):sizL (e :: l)=siz e+sizL l:=by rw [sizL]
theorem cnt_siz (op:Int) (e:Rt):cntM op e≤siz e:=by
 induction e using Rt.ind with
 | h hd args ih =>
  have hl:∀ l:List Rt,(∀ e ∈ l,cntM op e≤siz e)→cntL op l≤sizL l:=by
   intro l
   induction l with
   | nil=>intro _;simp [cntL,sizL]
   | cons e l ihl =>
    intro h
    have h1:=h e (by simp)
    have h2:=ihl fun x hx=>h x (by simp [hx])
    rw [cntL_cons,sizL_cons];omega
  have:=hl args ih
  rw [cntM_eq]
  simp only [siz]
  split <;> omega
theorem count1_run {H : Hp} {p q : Nat} {op : Int} {n : Nat} {h : Hd} {x : AV} (hp : H[p]? = some (.cells [.int .i64 op])) (hq : H[q]? = some (.cells [.int .i64 (n : Int)])) (hn : n ≤ 2000000000) :
    ∃ H',C_retree_count_1 [reV h x,.ptr p 0,.ptr q 0] H=some (.tuple [],H')∧H'[q]?=some (.cells [.int .i64 ((n+(if op=0 ∨ h.op=op then 1 else 0):Nat):Int)])∧Kpt [q] H H':=by
 have hp':=get_push hp [AObj.cells (reC h x)]
 have hq':=get_push hq [AObj.cells (reC h x)]
 have e1:aload false 1 (.ptr p 0) (H++[AObj.cells (reC h x)])=some (.int .i64 op):=by rw [aload_of hp'];rfl
 have e2:aload false 1 (.ptr q 0) (H++[AObj.cells (reC h x)])=some (.int .i64 (n:Int)):=by rw [aload_of hq'];rfl
 have e3:∀ v:Int,astoreU 1 (.ptr q 0) (.int .i64 v) (H++[AObj.cells (reC h x)])=some (.tuple [],(H++[AObj.cells (reC h x)]).set q (.cells [.int .i64 v])):=fun v=>by
  rw [astore_of (sz:=1) (v:=.int .i64 v) hq' rfl rfl (by simp)]
  rfl
 rw [F_retree_count_1_eq]
 unfold F_retree_count_1
 by_cases h0:op=0
 ·have hb:(op == 0)=true:=by simpa using h0
  simp only [box_re,go_sem,e1,hb,e2,wsucc (n:=n) (by omega),e3,h0,true_or,if_true]
  exact ⟨_,rfl,get_set_eq _ hq',(Kpt.push _ _ _).trans (Kpt.set _ _ (by simp))⟩
 ·have hb:(op == 0)=false:=by simpa using h0
  simp only [box_re,go_sem,e1,hb,e2,ld_op (get_push_len H (AObj.cells (reC h x)) []),wsucc (n:=n) (by omega),e3,h0,false_or]
  by_cases hc:h.op=op
  ·have hb2:(h.op == op)=true:=by simpa using hc
   rw [if_pos hc]
   simp only [hb2,go_sem]
   exact ⟨_,rfl,get_set_eq _ hq',(Kpt.push _ _ _).trans (Kpt.set _ _ (by simp))⟩
  ·have hb2:(h.op == op)=false:=by simpa using hc
   rw [if_neg hc]
   simp only [hb2,go_sem,Nat.add_zero]
   exact ⟨_,rfl,hq',Kpt.push _ _ _⟩
def Walks (op:Int) (e:Rt):Prop:=∀ (a:AV) (H:Hp) (p q n:Nat),RtC e a→p ≠ q→H[p]?=some (.cells [.int .i64 op])→H[q]?=some (.cells [.int .i64 (n:Int)])→n+siz e≤2000000000 →
 ∃ H',C_retree_walk [a,.fn (.func 55) [] [.ptr p 0,.ptr q 0]] H=some (.tuple [],H')∧H'[q]?=some (.cells [.int .i64 ((n+cntM op e:Nat):Int)])∧Kpt [q] H H'
theorem walk_loop {op : Int} {A : List Rt} {x : AV} {l : List AV} (hx : SlC 9 x l) (hl : RtL A l) (ih : ∀ e ∈ A, Walks op e) {p q : Nat} (hpq : p ≠ q) (hb : A.length ≤ 2000000000) (H0 : Hp) :
    ∀ (k i n:Nat) (Hc:Hp),A.length - i=k→i≤A.length→Hc[p]?=some (.cells [.int .i64 op])→Hc[q]?=some (.cells [.int .i64 (n:Int)])→n+sizL (A.drop i)≤2000000000 →
    ∃ H',retree_walk_L1 (.fn (.func 55) [] [.ptr p 0,.ptr q 0]) x (.int .i64 (A.length:Int)) (.int .i64 (i:Int)) H0 Hc=some (.tuple [],H')∧H'[q]?=some (.cells [.int .i64 ((n+cntL op (A.drop i):Nat):Int)])∧Kpt [q] Hc H':=by
 intro k
 induction k with
 | zero =>
  intro i n Hc hk hi hp hq hn
  have hlt:decide ((i:Int) < (A.length:Int))=false:=decide_eq_false (by omega)
  have hd:A.drop i=[]:=List.drop_eq_nil_iff.2 (by omega)
  rw [retree_walk_L1_eq,hd,cntL_nil]
  simp only [go_sem,hlt]
  exact ⟨_,rfl,hq,Kpt.refl _ _⟩
 | succ k ihk =>
  intro i n Hc hk hi hp hq hn
  have hL:i < A.length:=by omega
  have hlt:decide ((i:Int) < (A.length:Int))=true:=decide_eq_true (by omega)
  have hd:=List.drop_eq_getElem_cons hL
  rw [hd,sizL_cons] at hn
  rw [hd,cntL_cons]
  obtain ⟨a,hla,hra⟩:=hl.get (List.getElem?_eq_getElem hL)
  obtain ⟨xa,la,rfl,_,_⟩:=hra.out
  obtain ⟨H1,r1,r2,r3⟩:=ih _ (List.getElem_mem hL) _ (Hc++[AObj.cells (reC A[i].hd xa)]) p q n hra hpq (get_push hp _) (get_push hq _) (by omega)
  have hk1:Kpt [q] Hc H1:=(Kpt.push _ _ _).trans r3
  obtain ⟨H2,s1,s2,s3⟩:=ihk (i+1) _ H1 (by omega) (by omega) (hk1.get hp (by simp [hpq])) r2 (by have:=cnt_siz op A[i];omega)
  rw [retree_walk_L1_eq]
  simp only [go_sem,hlt,retree_walk_J1_eq,hx.idx hla,re_cells,aload_vp_re,alloc_re,ld_re (get_push_len Hc (AObj.cells (reC A[i].hd xa)) []),r1,retree_walk_J2_eq,wsucc (n:=i) (by omega),s1]
  exact ⟨_,rfl,by rw [s2,Nat.add_assoc],hk1.trans s3⟩
theorem walk_run (op:Int) (e:Rt):Walks op e:=by
 induction e using Rt.ind with
 | h hd args ih =>
  intro a H p q n ha hpq hp hq hn
  obtain ⟨x,l,rfl,hx,hl⟩:=ha.out
  have hl:RtL args l:=hl
  simp only [siz] at hn
  have hsz:=len_siz args
  obtain ⟨H1,r1,r2,r3⟩:=count1_run (h:=hd) (x:=x) (get_push hp [AObj.cells (reC hd x)]) (get_push hq [AObj.cells (reC hd x)]) (by omega)
  have hk1:Kpt [q] H H1:=(Kpt.push _ _ _).trans r3
  have hne:H.length ≠ q:=by have:=lt_of_get hq;omega
  have g0:H1[H.length]?=some (.cells (reC hd x)):=r3.get (get_push_len H (AObj.cells (reC hd x)) []) (by simp [hne])
  have hcs:(if op=0 ∨ hd.op=op then 1 else 0)≤1:=by split <;> omega
  obtain ⟨H2,s1,s2,s3⟩:=walk_loop hx hl ih hpq (by omega) H args.length 0 (n+(if op=0 ∨ hd.op=op then 1 else 0)) H1 rfl (by omega) (hk1.get hp (by simp [hpq])) r2 (by simp only [List.drop_zero];omega)
  rw [F_retree_walk_eq]
  unfold F_retree_walk
  simp only [Rt.hd,box_re,bnd_some,afield_ptr,ld_re (get_push_len H (AObj.cells (reC hd x)) []),V_retree_count_1,List.nil_append,List.cons_append,r1,ld_args g0,hx.len]
  rw [hl.1]
  refine ⟨H2,s1,?_,hk1.trans s3⟩
  rw [s2,List.drop_zero,cntM_eq,Nat.add_assoc]
theorem count_run (op:Int) {e:Rt} {a:AV} (ha:RtC e a) (hz:siz e≤1000000000) (H:Hp):∃ H',C_retree_count [a,.int .i64 op] H=some (.int .i64 (cntM op e:Int),H'):=by
 obtain ⟨x,l,rfl,hx,hl⟩:=ha.out
 have g0:(((H++[AObj.cells (reC e.hd x)])++[AObj.cells [.int .i64 op]])++[AObj.cells [.int .i64 0]])[H.length]?=some (.cells (reC e.hd x)):=by simp
 obtain ⟨H1,r1,r2,r3⟩:=walk_run op e _ (((H++[AObj.cells (reC e.hd x)])++[AObj.cells [.int .i64 op]])++[AObj.cells [.int .i64 0]]) (H.length+1) (H.length+2) 0 ha (by omega) (by simp) (by simp) (by omega)
 have e1:∀ w:Hp,abox (.int .i64 op) w=some (.ptr w.length 0,w++[.cells [.int .i64 op]]):=fun w=>rfl
 have e2:astoreU 1 (.ptr ((H++[AObj.cells (reC e.hd x)])++[AObj.cells [.int .i64 op]]).length 0) (.int .i64 0) (((H++[AObj.cells (reC e.hd x)])++[AObj.cells [.int .i64 op]])++[AObj.cells [.int .i64 0]])=some (.tuple [],((H++[AObj.cells (reC e.hd x)])++[AObj.cells [.int .i64 op]])++[AObj.cells [.int .i64 0]]):=by
  rw [astore_of (sz:=1) (v:=.int .i64 0) (l:=[.int .i64 0]) (by simp) rfl rfl (by simp)]
  simp [splice,AV.cells]
 have l1:(H++[AObj.cells (reC e.hd x)]).length=H.length+1:=by simp
 have l2:((H++[AObj.cells (reC e.hd x)])++[AObj.cells [.int .i64 op]]).length=H.length+2:=by simp
 rw [l2] at e2
 have e3:aload false 1 (.ptr (H.length+2) 0) H1=some (.int .i64 (cntM op e:Int)):=by rw [aload_of r2,Nat.zero_add];rfl
 rw [F_retree_count_eq]
 unfold F_retree_count
 simp only [box_re,bnd_some,e1,l1,l2,e2,ld_re g0,r1,e3]
 exact ⟨_,rfl⟩
theorem back_run {e:Rt} {a:AV} (ha:RtC e a) (hd:dep e≤190) (hz:siz e≤1000000000) (H:Hp):flatC C_retree_Back [a] H=some (.bool (decide (0 < (cntM 9 e:Int))),H):=by
 obtain ⟨x,l,rfl,hx,hl⟩:=ha.out
 obtain ⟨H1,r1⟩:=count_run 9 ha hz (([]:Hp)++[AObj.cells (reC e.hd x)])
 refine flatC_of (close1 ha hd) (H1:=H1) ?_ rfl
 rw [F_retree_Back_eq]
 unfold F_retree_Back
 simp only [box_re,bnd_some,ld_re (get_push_len ([]:Hp) (AObj.cells (reC e.hd x)) []),r1,ibin_gtr]
theorem groups_run {e:Rt} {a:AV} (ha:RtC e a) (hd:dep e≤190) (hz:siz e≤1000000000) (H:Hp):flatC C_retree_Groups [a] H=some (.int .i64 (cntM 6 e:Int),H):=by
 obtain ⟨x,l,rfl,hx,hl⟩:=ha.out
 obtain ⟨H1,r1⟩:=count_run 6 ha hz (([]:Hp)++[AObj.cells (reC e.hd x)])
 refine flatC_of (close1 ha hd) (H1:=H1) ?_ rfl
 rw [F_retree_Groups_eq]
 unfold F_retree_Groups
 simp only [box_re,bnd_some,ld_re (get_push_len ([]:Hp) (AObj.cells (reC e.hd x)) []),r1]
theorem set_cmp (a b c d : Int) : aeqBin Go.Proofs.Try.prog cfg.eqok .eql 25 (.agg [.int .u64 a, .int .u64 b, .int .u64 c, .int .u64 d]) (.agg [.int .u64 0, .int .u64 0, .int .u64 0, .int .u64 0]) =
    (match (match (match some (a == 0) with
     | some true=>(match some (b == 0) with
      | some true=>(match some (c == 0) with
       | some true=>(match some (d == 0) with
        | some true=>some true
        | r=>r)
       | r=>r)
      | r=>r)
     | r=>r:Option Bool) with
     | some true=>some true
     | r=>r:Option Bool) with
    | some b=>some (.bool b)
    | none=>none):=by kernel_rfl
theorem set_eq (h:Hd):aeqBin Go.Proofs.Try.prog cfg.eqok .eql 25 (.agg [.int .u64 h.b0,.int .u64 h.b1,.int .u64 h.b2,.int .u64 h.b3]) (.agg [.int .u64 0,.int .u64 0,.int .u64 0,.int .u64 0])=some (.bool (zS h)):=by
 rw [set_cmp]
 unfold zS
 cases h.b0 == 0 <;> cases h.b1 == 0 <;> cases h.b2 == 0 <;> cases h.b3 == 0 <;> rfl
theorem shaped_run {e:Rt} {a:AV} (ha:RtC e a) (hd:dep e≤190) (hb:e.args.length≤1000000) (H:Hp):flatC C_retree_shaped [a] H=some (.bool (shH e.hd e.args.length),H):=by
 have hcl:=close1 ha hd
 obtain ⟨x,l,rfl,hx,hl⟩:=ha.out
 have g0:((([]:Hp)++[AObj.cells (reC e.hd x)])++[AObj.cells [(.int .u64 0),(.int .u64 0),(.int .u64 0),(.int .u64 0)]])[([]:Hp).length]?=some (.cells (reC e.hd x)):=by simp
 have e1:aload true 4 (.ptr ([]:Hp).length (0+1)) ((([]:Hp)++[AObj.cells (reC e.hd x)])++[AObj.cells [(.int .u64 0),(.int .u64 0),(.int .u64 0),(.int .u64 0)]])=some (.agg [.int .u64 e.hd.b0,.int .u64 e.hd.b1,.int .u64 e.hd.b2,.int .u64 e.hd.b3]):=by rw [aload_of g0];rfl
 have e2:aload true 4 (.ptr (([]:Hp)++[AObj.cells (reC e.hd x)]).length 0) ((([]:Hp)++[AObj.cells (reC e.hd x)])++[AObj.cells [(.int .u64 0),(.int .u64 0),(.int .u64 0),(.int .u64 0)]])=some (.agg [.int .u64 0,.int .u64 0,.int .u64 0,.int .u64 0]):=by rw [aload_of (get_push_len _ _ [])];rfl
 have key:∃ H1,C_retree_shaped [reV e.hd x] []=some (.bool (shH e.hd e.args.length),H1):=by
  rw [F_retree_shaped_eq]
  unfold F_retree_shaped
  cases hlo:(e.hd.lo == 0) <;> simp only [hlo,box_re,go_sem,ld_args g0,hx.len,ld_lo g0,ld_hi g0,and_b,ld_g g0,e1,e2,set_eq,ld_op g0,hl.1,retree_shaped_J1_eq]
  all_goals
   revert hlo
   generalize e.hd=h
   intro hlo
   generalize e.args.length=n
   have n0:(((n:Int)) == 0)=(n == 0):=by rw [Bool.eq_iff_iff];simp
   have n1:(((n:Int)) == 1)=(n == 1):=by rw [Bool.eq_iff_iff];simp;omega
   have n2:decide ((2:Int)≤(n:Int))=decide (2≤n):=by rw [Bool.eq_iff_iff];simp;omega
   simp only [n0,n1,n2]
   unfold shH zB
   simp only [hlo]
   by_cases h1:h.op=1
   ·simp [h1,go_sem,and_b,Bool.and_assoc]
   by_cases h2:h.op=2
   ·cases hz:zS h <;> cases hn:(n == 0) <;> cases hh:(h.hi == 0) <;> cases hg:(h.g == 0) <;> simp [h2,hz,hn,hh,hg,go_sem]
   by_cases h3:h.op=3
   ·simp [h3,go_sem,and_b,Bool.and_assoc]
   by_cases h4:h.op=4
   ·simp [h4,go_sem,and_b,Bool.and_assoc]
   by_cases h5:h.op=5
   ·simp [h5,go_sem,and_b,Bool.and_assoc]
   by_cases h6:h.op=6
   ·simp [h6,go_sem,and_b,Bool.and_assoc]
   by_cases h7:h.op=7
   ·simp [h7,go_sem,and_b,Bool.and_assoc]
   by_cases h8:h.op=8
   ·simp [h8,go_sem,and_b,Bool.and_assoc]
   by_cases h9:h.op=9
   ·simp [h9,go_sem,and_b,Bool.and_assoc]
   ·have f1:(h.op == 1)=false:=by simp [h1]
    have f2:(h.op == 2)=false:=by simp [h2]
    have f3:(h.op == 3)=false:=by simp [h3]
    have f4:(h.op == 4)=false:=by simp [h4]
    have f5:(h.op == 5)=false:=by simp [h5]
    have f6:(h.op == 6)=false:=by simp [h6]
    have f7:(h.op == 7)=false:=by simp [h7]
    have f8:(h.op == 8)=false:=by simp [h8]
    have f9:(h.op == 9)=false:=by simp [h9]
    simp [h1,h2,h3,h4,h5,h6,h7,h8,h9,f1,f2,f3,f4,f5,f6,f7,f8,f9,go_sem]
 obtain ⟨H1,h1⟩:=key
 exact flatC_of hcl h1 rfl
end Go.Am
namespace Go.Am
set_option linter.unusedSimpArgs false
set_option linter.unusedVariables false
set_option maxRecDepth 100000

structure Ck where
 sh:Bool
 bd:Bool
 nm:Bool
 nodes:Nat
 groups:Nat
 cl:List Int
def badR (h:Hd):Bool:=decide (h.lo < 0) || decide (64 < h.lo) || ((h.hi != -1) && (decide (h.hi < h.lo) || decide (64 < h.hi)))
def ckOp (h:Hd) (c:Ck):Ck :=
 if h.op=5 then { c with bd:=c.bd || badR h }
 else if h.op=6 then { c with groups:=c.groups+1,bd:=c.bd || (h.g != ((c.groups+1:Nat):Int)) }
 else if h.op=9 then { c with nm:=c.nm || !(c.cl.contains h.g) }
 else c
def ckHead (h:Hd) (n:Nat) (c:Ck):Ck:=ckOp h { c with nodes:=c.nodes+1,sh:=c.sh || !shH h n }
def addC (g:Int) (cl:List Int):List Int:=if g ∈ cl then cl else cl++[g]
def ckEnd (h:Hd) (own:Nat) (c:Ck):Ck:=if h.op=6∧h.g=(own:Int) then { c with cl:=addC own c.cl } else c
mutual
def nodeM:Rt→Ck→Ck × Nat
 | .mk h args,c=>(ckEnd h (ckHead h args.length c).groups (nodesM args (ckHead h args.length c) 0).1,(nodesM args (ckHead h args.length c) 0).2+1)
def nodesM:List Rt→Ck→Nat→Ck × Nat
 | [],c,m=>(c,m)
 | e :: l,c,m=>nodesM l (nodeM e c).1 (max m (nodeM e c).2)
end
theorem nodeM_eq (h:Hd) (args:List Rt) (c:Ck):nodeM (.mk h args) c=(ckEnd h (ckHead h args.length c).groups (nodesM args (ckHead h args.length c) 0).1,(nodesM args (ckHead h args.length c) 0).2+1):=by rw [nodeM]
theorem nodesM_nil (c:Ck) (m:Nat):nodesM [] c m=(c,m):=by rw [nodesM]
theorem nodesM_cons (e:Rt) (l:List Rt) (c:Ck) (m:Nat):nodesM (e :: l) c m=nodesM l (nodeM e c).1 (max m (nodeM e c).2):=by rw [nodesM]
def ckC (c:Ck) (om:Nat):List AV:=[.bool c.sh,.bool c.bd,.bool c.nm,.int .i64 (c.nodes:Int),.int .i64 (c.groups:Int),.nils,.map om]
def ClAt (H:Hp) (om:Nat) (cl:List Int):Prop:=∃ es k,H[om]?=some (.map es k)∧es.map (fun e=>(e.1,e.2.1))=cl.map fun g=>(AV.int .i64 g,AV.bool true)
def CkAt (H:Hp) (o om:Nat) (c:Ck):Prop:=H[o]?=some (.cells (ckC c om))∧ClAt H om c.cl
theorem findK_cl (g : Int) : ∀ (es : List (AV × AV × Nat)) (cl : List Int) (i : Nat), es.map (fun e => (e.1, e.2.1)) = cl.map (fun g => (AV.int .i64 g, AV.bool true)) →
    (g ∈ cl∧∃ j,findK (.int .i64 g) es i=some (some (i+j,.bool true))∧(es.map fun e=>(e.1,e.2.1))[j]?=some (AV.int .i64 g,AV.bool true)) ∨ (g ∉ cl∧findK (.int .i64 g) es i=some none):=by
 intro es
 induction es with
 | nil =>
  intro cl i h
  cases cl with
  | nil=>exact .inr ⟨by simp,rfl⟩
  | cons a l=>simp at h
 | cons e es ih =>
  intro cl i h
  cases cl with
  | nil=>simp at h
  | cons a l =>
   simp only [List.map_cons,List.cons.injEq,Prod.mk.injEq] at h
   obtain ⟨⟨h1,h2⟩,h3⟩:=h
   unfold findK
   rw [h1]
   have hk:keySame (.int .i64 g) (.int .i64 a)=some (g == a):=by simp [keySame]
   rw [hk]
   by_cases hg:g=a
   ·subst hg
    refine .inl ⟨by simp,0,?_,?_⟩
    ·simp [h2]
    ·simp [h1,h2]
   ·have hb:(g == a)=false:=by simpa using hg
    rw [hb]
    rcases ih l (i+1) h3 with ⟨k1,j,k2,k3⟩ | ⟨k1,k2⟩
    ·refine .inl ⟨by simp [k1],j+1,?_,by simpa using k3⟩
     simp only [k2]
     rw [show i+1+j=i+(j+1) by omega]
    ·exact .inr ⟨by simp [hg,k1],by simp only [k2]⟩
theorem ClAt.look {H:Hp} {om:Nat} {cl:List Int} (h:ClAt H om cl) (g:Int):alookup (.int .i64) (.bool false) false (.map om) (.int .i64 g) H=some (.bool (cl.contains g)):=by
 obtain ⟨es,k,h1,h2⟩:=h
 unfold alookup
 have hk:keyOk (.int .i64) (.int .i64 g)=true:=by simp [keyOk]
 have he:entries (.map om) H=some es:=by simp [entries,h1]
 rw [if_pos hk,he]
 dsimp only
 rcases findK_cl g es cl 0 h2 with ⟨k1,j,k2,k3⟩ | ⟨k1,k2⟩
 ·rw [k2]
  have:cl.contains g=true:=by simpa using k1
  simp [this]
  exact k1
 ·rw [k2]
  simp [k1]
theorem map_set_same {α β:Type} {f:α→β}:∀ {l:List α} {j:Nat} {x:α},(l.map f)[j]?=some (f x)→(l.set j x).map f=l.map f
 | [],j,x,h=>by simp at h
 | a :: l,0,x,h=>by simp at h;simp [h]
 | a :: l,j+1,x,h=>by
  have:=map_set_same (f:=f) (l:=l) (j:=j) (x:=x) (by simpa using h)
  simp [this]
theorem ClAt.add {H:Hp} {om:Nat} {cl:List Int} (h:ClAt H om cl) (g:Int):∃ H',amapSet (.int .i64) (.map om) (.int .i64 g) (.bool true) H=some (.tuple [],H')∧ClAt H' om (addC g cl)∧Kpt [om] H H':=by
 obtain ⟨es,k,h1,h2⟩:=h
 unfold amapSet
 have hk:keyOk (.int .i64) (.int .i64 g)=true:=by simp [keyOk]
 simp only [h1,hk,if_true]
 rcases findK_cl g es cl 0 h2 with ⟨k1,j,k2,k3⟩ | ⟨k1,k2⟩
 ·rw [k2]
  refine ⟨_,rfl,⟨_,_,get_set_eq _ h1,?_⟩,Kpt.set _ _ (by simp)⟩
  rw [Nat.zero_add,map_set_same (by simpa using k3),h2]
  simp [addC,k1]
 ·rw [k2]
  refine ⟨_,rfl,⟨_,_,get_set_eq _ h1,?_⟩,Kpt.set _ _ (by simp)⟩
  simp [addC,k1,h2]
theorem ClAt.kept {H H':Hp} {om:Nat} {cl:List Int} {W:List Nat} (h:ClAt H om cl) (hk:Kpt W H H') (hn:om ∉ W):ClAt H' om cl:=by
 obtain ⟨es,k,h1,h2⟩:=h
 exact ⟨es,k,hk.get h1 hn,h2⟩
theorem CkAt.ne {H:Hp} {o om:Nat} {c:Ck} (h:CkAt H o om c):o ≠ om:=by
 obtain ⟨h1,es,k,h2,_⟩:=h
 intro e
 rw [e,h2] at h1
 cases h1
theorem CkAt.push {H:Hp} {o om:Nat} {c:Ck} (h:CkAt H o om c) (l:Hp):CkAt (H++l) o om c:=⟨get_push h.1 l,h.2.kept (Kpt.push [] H l) (by simp)⟩
section
variable {H:Hp} {o om:Nat} {c:Ck}
theorem ck0 (h:H[o]?=some (.cells (ckC c om))):aload false 1 (.ptr o (0+0)) H=some (.bool c.sh):=by rw [aload_of h];rfl
theorem ck1 (h:H[o]?=some (.cells (ckC c om))):aload false 1 (.ptr o (0+1)) H=some (.bool c.bd):=by rw [aload_of h];rfl
theorem ck2 (h:H[o]?=some (.cells (ckC c om))):aload false 1 (.ptr o (0+2)) H=some (.bool c.nm):=by rw [aload_of h];rfl
theorem ck3 (h:H[o]?=some (.cells (ckC c om))):aload false 1 (.ptr o (0+3)) H=some (.int .i64 (c.nodes:Int)):=by rw [aload_of h];rfl
theorem ck4 (h:H[o]?=some (.cells (ckC c om))):aload false 1 (.ptr o (0+4)) H=some (.int .i64 (c.groups:Int)):=by rw [aload_of h];rfl
theorem ck6 (h:H[o]?=some (.cells (ckC c om))):aload false 1 (.ptr o (0+6)) H=some (.map om):=by rw [aload_of h];rfl
theorem cs0 (h:H[o]?=some (.cells (ckC c om))) (b:Bool):astoreU 1 (.ptr o (0+0)) (.bool b) H=some (.tuple [],H.set o (.cells (ckC { c with sh:=b } om))):=by rw [astore_of (sz:=1) (v:=.bool b) h rfl rfl (by simp [ckC])];rfl
theorem cs1 (h:H[o]?=some (.cells (ckC c om))) (b:Bool):astoreU 1 (.ptr o (0+1)) (.bool b) H=some (.tuple [],H.set o (.cells (ckC { c with bd:=b } om))):=by rw [astore_of (sz:=1) (v:=.bool b) h rfl rfl (by simp [ckC])];rfl
theorem cs2 (h:H[o]?=some (.cells (ckC c om))) (b:Bool):astoreU 1 (.ptr o (0+2)) (.bool b) H=some (.tuple [],H.set o (.cells (ckC { c with nm:=b } om))):=by rw [astore_of (sz:=1) (v:=.bool b) h rfl rfl (by simp [ckC])];rfl
theorem cs3 (h:H[o]?=some (.cells (ckC c om))) (n:Nat):astoreU 1 (.ptr o (0+3)) (.int .i64 (n:Int)) H=some (.tuple [],H.set o (.cells (ckC { c with nodes:=n } om))):=by rw [astore_of (sz:=1) (v:=.int .i64 (n:Int)) h rfl rfl (by simp [ckC])];rfl
theorem cs4 (h:H[o]?=some (.cells (ckC c om))) (n:Nat):astoreU 1 (.ptr o (0+4)) (.int .i64 (n:Int)) H=some (.tuple [],H.set o (.cells (ckC { c with groups:=n } om))):=by rw [astore_of (sz:=1) (v:=.int .i64 (n:Int)) h rfl rfl (by simp [ckC])];rfl
end
theorem CkAt.set {H:Hp} {o om:Nat} {c c':Ck} (h:CkAt H o om c) (he:c'.cl=c.cl):CkAt (H.set o (.cells (ckC c' om))) o om c' :=
 ⟨get_set_eq _ h.1,by rw [he];exact h.2.kept (Kpt.set (W:=[o]) (o:=o) H _ (by simp)) (by simpa using h.ne.symm)⟩
theorem head_run {e : Rt} {x : AV} {l : List AV} (ha : RtC e (reV e.hd x)) (hd : dep e ≤ 190) (hb : e.args.length ≤ 1000000) {H : Hp} {o om : Nat} {c : Ck} (hc : CkAt H o om c) (hn : c.nodes ≤ 2000000000) (hg : c.groups ≤ 2000000000) :
    ∃ H',C_retree_checker_node [.ptr o 0,reV e.hd x] H=retree_checker_node_J1 (.ptr o 0) (.ptr H.length 0) H H'∧CkAt H' o om (ckHead e.hd e.args.length c)∧H'[H.length]?=some (.cells (reC e.hd x))∧Kpt [o] H H':=by
 have hlt:H.length ≠ o:=by have:=lt_of_get hc.1;omega
 have g0:=get_push_len H (AObj.cells (reC e.hd x)) []
 have c1:=hc.push [AObj.cells (reC e.hd x)]
 have c2:CkAt _ o om { c with nodes:=c.nodes+1 }:=c1.set rfl
 have k2:Kpt [o] H _:=(Kpt.push [o] H [AObj.cells (reC e.hd x)]).trans (Kpt.set (W:=[o]) (o:=o) (H++[AObj.cells (reC e.hd x)]) (.cells (ckC { c with nodes:=c.nodes+1 } om)) (by simp))
 have g2:=get_set_ne (.cells (ckC { c with nodes:=c.nodes+1 } om)) (Ne.symm hlt) g0
 generalize hH2:((H++[AObj.cells (reC e.hd x)]).set o (.cells (ckC { c with nodes:=c.nodes+1 } om)))=H2 at *
 have c3:CkAt _ o om { c with nodes:=c.nodes+1,sh:=c.sh || !shH e.hd e.args.length }:=c2.set (c':={ c with nodes:=c.nodes+1,sh:=c.sh || !shH e.hd e.args.length }) rfl
 have k3:Kpt [o] H _:=k2.trans (Kpt.set (W:=[o]) (o:=o) H2 (.cells (ckC { c with nodes:=c.nodes+1,sh:=c.sh || !shH e.hd e.args.length } om)) (by simp))
 have g3:=get_set_ne (.cells (ckC { c with nodes:=c.nodes+1,sh:=c.sh || !shH e.hd e.args.length } om)) (Ne.symm hlt) g2
 have hsh:∀ Hx,flatC C_retree_shaped [reV e.hd x] Hx=some (.bool (shH e.hd e.args.length),Hx):=fun Hx=>shaped_run ha hd hb Hx
 -- the first two steps
 have first:C_retree_checker_node [.ptr o 0,reV e.hd x] H=(F_retree_checker_node (.ptr o 0) (reV e.hd x) H):=F_retree_checker_node_eq _ _ _
 unfold F_retree_checker_node at first
 simp only [box_re,go_sem,ck3 c1.1,wsucc (n:=c.nodes) (by omega),cs3 c1.1,hH2,ck0 c2.1] at first
 have second : ∀ (k : AV × Hp → Res), (bnd (gdv (.bool c.sh) false (.tuple []) (aload true 9 (.ptr H.length 0) H2)) fun t23 => bnd (gdv (.bool c.sh) false ((.tuple []), H2) (flatC C_retree_shaped [t23] H2)) fun r24 =>
     bnd (gdv (.bool c.sh) false (.tuple []) (aun .not r24.1)) fun t25=>bnd (apick (.bool c.sh) (.bool true) t25) fun t26=>bnd (astoreU 1 (.ptr o (0+0)) t26 r24.2) k) =
     k (.tuple [],H2.set o (.cells (ckC { c with nodes:=c.nodes+1,sh:=c.sh || !shH e.hd e.args.length } om))):=by
  intro k
  cases hs:c.sh with
  | true=>simp only [go_sem,cs0 c2.1,Bool.true_or]
  | false=>simp only [go_sem,ld_re g2,hsh,cs0 c2.1,Bool.false_or]
 rw [second] at first
 generalize hH3:H2.set o (.cells (ckC { c with nodes:=c.nodes+1,sh:=c.sh || !shH e.hd e.args.length } om))=H3 at *
 simp only [go_sem,ld_op g3] at first
 rw [first]
 unfold ckHead
 generalize hc3':({ c with nodes:=c.nodes+1,sh:=c.sh || !shH e.hd e.args.length }:Ck)=c' at *
 have hcg:c'.groups=c.groups:=by rw [← hc3']
 generalize e.hd=h at *
 unfold ckOp
 by_cases h5:h.op=5
 ·have e5:(h.op == 5)=true:=by simp [h5]
  rw [if_pos h5]
  obtain ⟨b1,q1⟩:∃ b,decide (h.lo < 0)=b:=⟨_,rfl⟩
  obtain ⟨b2,q2⟩:∃ b,decide (64 < h.lo)=b:=⟨_,rfl⟩
  obtain ⟨b3,q3⟩:∃ b,(h.hi != -1)=b:=⟨_,rfl⟩
  obtain ⟨b4,q4⟩:∃ b,decide (h.hi < h.lo)=b:=⟨_,rfl⟩
  obtain ⟨b5,q5⟩:∃ b,decide (64 < h.hi)=b:=⟨_,rfl⟩
  have hbad:badR h=(b1 || b2 || (b3 && (b4 || b5))):=by unfold badR;rw [q1,q2,q3,q4,q5]
  rw [hbad]
  refine ⟨_,?_,c3.set (c':={ c' with bd:=c'.bd || (b1 || b2 || (b3 && (b4 || b5))) }) rfl,get_set_ne _ (Ne.symm hlt) g3,k3.trans (Kpt.set (W:=[o]) (o:=o) H3 _ (by simp))⟩
  cases b1 <;> cases b2 <;> cases b3 <;> cases b4 <;> cases b5 <;> simp only [e5,go_sem,ld_lo g3,ld_hi g3,q1,q2,q3,q4,q5,ck1 c3.1,or_b,cs1 c3.1,Bool.or_true,Bool.true_or,Bool.or_false,Bool.false_or,Bool.and_true,Bool.true_and,Bool.and_false,Bool.false_and]
 ·have e5:(h.op == 5)=false:=by simp [h5]
  rw [if_neg h5]
  by_cases h6:h.op=6
  ·have e6:(h.op == 6)=true:=by simp [h6]
   rw [if_pos h6]
   have e0:({ c' with groups:=c'.groups+1,bd:=c'.bd || (h.g != ((c'.groups+1:Nat):Int)) }:Ck)={ ({ c' with groups:=c'.groups+1 }:Ck) with bd:=({ c' with groups:=c'.groups+1 }:Ck).bd || (h.g != ((({ c' with groups:=c'.groups+1 }:Ck).groups:Nat):Int)) }:=rfl
   rw [e0]
   have s4:=cs4 c3.1 (c'.groups+1)
   have hcl5:({ c' with groups:=c'.groups+1 }:Ck).cl=c'.cl:=rfl
   generalize ({ c' with groups:=c'.groups+1 }:Ck)=c5 at *
   have c4:CkAt (H3.set o (.cells (ckC c5 om))) o om c5:=c3.set hcl5
   have g4:=get_set_ne (.cells (ckC c5 om)) (Ne.symm hlt) g3
   have k4:=k3.trans (Kpt.set (W:=[o]) (o:=o) H3 (.cells (ckC c5 om)) (by simp))
   refine ⟨_,?_,c4.set (c':={ c5 with bd:=c5.bd || (h.g != (c5.groups:Int)) }) rfl,get_set_ne _ (Ne.symm hlt) g4,k4.trans (Kpt.set (W:=[o]) (o:=o) _ _ (by simp))⟩
   simp only [e5,e6,go_sem,ck4 c3.1,wsucc (n:=c'.groups) (by omega),s4,ck1 c4.1]
   have f1:=cs1 c4.1
   have f2:=ck4 c4.1
   generalize H3.set o (.cells (ckC c5 om))=H4 at *
   cases hb:c5.bd with
   | true=>simp only [go_sem,f1,Bool.true_or]
   | false=>simp only [go_sem,ld_g g4,f2,f1,Bool.false_or]
  ·have e6:(h.op == 6)=false:=by simp [h6]
   rw [if_neg h6]
   by_cases h9:h.op=9
   ·have e9:(h.op == 9)=true:=by simp [h9]
    rw [if_pos h9]
    refine ⟨_,?_,c3.set (c':={ c' with nm:=c'.nm || !(c'.cl.contains h.g) }) rfl,get_set_ne _ (Ne.symm hlt) g3,k3.trans (Kpt.set (W:=[o]) (o:=o) H3 _ (by simp))⟩
    simp only [e5,e6,e9,go_sem,ck2 c3.1]
    cases hb:c'.nm with
    | true=>simp only [go_sem,cs2 c3.1,Bool.true_or]
    | false=>simp only [go_sem,ck6 c3.1,ld_g g3,c3.2.look,cs2 c3.1,Bool.false_or]
   ·have e9:(h.op == 9)=false:=by simp [h9]
    rw [if_neg h9]
    simp only [e5,e6,e9,go_sem]
    exact ⟨H3,rfl,c3,g3,k3⟩
end Go.Am
namespace Go.Am
set_option linter.unusedSimpArgs false
set_option linter.unusedVariables false
set_option maxRecDepth 100000

theorem ckHead_nodes (h:Hd) (n:Nat) (c:Ck):(ckHead h n c).nodes=c.nodes+1∧c.groups≤(ckHead h n c).groups∧(ckHead h n c).groups≤c.groups+1:=by
 unfold ckHead ckOp
 split
 ·exact ⟨rfl,Nat.le_refl _,Nat.le_succ _⟩
 ·split
  ·exact ⟨rfl,Nat.le_succ _,Nat.le_refl _⟩
  ·split <;> exact ⟨rfl,Nat.le_refl _,Nat.le_succ _⟩
theorem ckEnd_nodes (h:Hd) (own:Nat) (c:Ck):(ckEnd h own c).nodes=c.nodes∧(ckEnd h own c).groups=c.groups:=by
 unfold ckEnd
 split <;> exact ⟨rfl,rfl⟩
theorem depL_cons (e:Rt) (l:List Rt):depL (e :: l)=max (dep e) (depL l):=by rw [depL]
theorem nodes_list {l : List Rt} (ih : ∀ e ∈ l, ∀ c, (nodeM e c).1.nodes = c.nodes + siz e ∧ (nodeM e c).1.groups ≤ c.groups + siz e ∧ (nodeM e c).2 = dep e) : ∀ (c : Ck) (m : Nat),
    (nodesM l c m).1.nodes=c.nodes+sizL l∧(nodesM l c m).1.groups≤c.groups+sizL l∧(nodesM l c m).2=max m (depL l):=by
 induction l with
 | nil=>intro c m;rw [nodesM_nil];simp [sizL,depL]
 | cons e l ihl =>
  intro c m
  obtain ⟨a1,a2,a3⟩:=ih e (by simp) c
  obtain ⟨b1,b2,b3⟩:=ihl (fun x hx=>ih x (by simp [hx])) (nodeM e c).1 (max m (nodeM e c).2)
  rw [nodesM_cons,sizL_cons,depL_cons]
  refine ⟨by omega,by omega,?_⟩
  rw [b3,a3,Nat.max_assoc]
theorem node_facts (e:Rt):∀ c,(nodeM e c).1.nodes=c.nodes+siz e∧(nodeM e c).1.groups≤c.groups+siz e∧(nodeM e c).2=dep e:=by
 induction e using Rt.ind with
 | h hd args ih =>
  intro c
  obtain ⟨a1,a2,a3⟩:=ckHead_nodes hd args.length c
  obtain ⟨b1,b2,b3⟩:=nodes_list ih (ckHead hd args.length c) 0
  obtain ⟨d1,d2⟩:=ckEnd_nodes hd (ckHead hd args.length c).groups (nodesM args (ckHead hd args.length c) 0).1
  rw [nodeM_eq]
  simp only [siz,dep]
  refine ⟨by omega,by omega,by rw [b3];omega⟩
def NodeRun (e:Rt):Prop:=∀ (a:AV) (H:Hp) (o om:Nat) (c:Ck),RtC e a→CkAt H o om c→c.nodes+siz e≤2000000000→c.groups+siz e≤2000000000→dep e≤190→siz e≤1000000 →
 ∃ H',C_retree_checker_node [.ptr o 0,a] H=some (.int .i64 ((nodeM e c).2:Int),H')∧CkAt H' o om (nodeM e c).1∧Kpt [o,om] H H'
theorem ckEnd_run {h : Hd} {x : AV} {H : Hp} {o om p : Nat} {c : Ck} (own m : Nat) (hc : CkAt H o om c) (hp : H[p]? = some (.cells (reC h x))) (hm : m ≤ 2000000000) (H0 : Hp) :
    ∃ H',retree_checker_node_J2 (.ptr o 0) (.ptr p 0) (.int .i64 (own:Int)) (.int .i64 (m:Int)) H0 H=some (.int .i64 ((m+1:Nat):Int),H')∧CkAt H' o om (ckEnd h own c)∧Kpt [o,om] H H':=by
 rw [retree_checker_node_J2_eq]
 unfold ckEnd
 by_cases h6:h.op=6
 ·have e6:(h.op == 6)=true:=by simp [h6]
  by_cases hg:h.g=(own:Int)
  ·have eg:(h.g == (own:Int))=true:=by simp [hg]
   obtain ⟨H1,r1,r2,r3⟩:=hc.2.add (own:Int)
   simp only [go_sem,ld_op hp,e6,ld_g hp,eg,ck6 hc.1,r1,retree_checker_node_J3_eq,wsucc (n:=m) (by omega)]
   rw [if_pos ⟨h6,hg⟩]
   exact ⟨H1,rfl,⟨r3.get hc.1 (by simpa using hc.ne),r2⟩,r3.weak fun i hi _=>by simp at hi;simp [hi]⟩
  ·have eg:(h.g == (own:Int))=false:=by simp [hg]
   simp only [go_sem,ld_op hp,e6,ld_g hp,eg,retree_checker_node_J3_eq,wsucc (n:=m) (by omega)]
   rw [if_neg (fun hh=>hg hh.2)]
   exact ⟨H,rfl,hc,Kpt.refl _ _⟩
 ·have e6:(h.op == 6)=false:=by simp [h6]
  simp only [go_sem,ld_op hp,e6,retree_checker_node_J3_eq,wsucc (n:=m) (by omega)]
  rw [if_neg (fun hh=>h6 hh.1)]
  exact ⟨H,rfl,hc,Kpt.refl _ _⟩
theorem node_loop {h : Hd} {A : List Rt} {x : AV} {l : List AV} (hx : SlC 9 x l) (hl : RtL A l) (ih : ∀ e ∈ A, NodeRun e) (own : Nat) {o om p : Nat} (hpo : p ≠ o) (hpm : p ≠ om) (hb : sizL A ≤ 1000000) (hd : depL A ≤ 189) (H0 : Hp) :
    ∀ (k i m:Nat) (c:Ck) (Hc:Hp),A.length - i=k→i≤A.length→CkAt Hc o om c→Hc[p]?=some (.cells (reC h x))→c.nodes+sizL (A.drop i)≤2000000000→c.groups+sizL (A.drop i)≤2000000000→m≤1000 →
    ∃ H',retree_checker_node_L1 (.ptr o 0) (.ptr p 0) (.int .i64 (own:Int)) (.int .i64 (m:Int)) x (.int .i64 (A.length:Int)) (.int .i64 (i:Int)) H0 Hc=some (.int .i64 (((nodesM (A.drop i) c m).2+1:Nat):Int),H') ∧
     CkAt H' o om (ckEnd h own (nodesM (A.drop i) c m).1)∧Kpt [o,om] Hc H':=by
 have hlen:=len_siz A
 intro k
 induction k with
 | zero =>
  intro i m c Hc hk hi hc hp hn hg hm
  have hlt:decide ((i:Int) < (A.length:Int))=false:=decide_eq_false (by omega)
  have hdr:A.drop i=[]:=List.drop_eq_nil_iff.2 (by omega)
  obtain ⟨H',r1,r2,r3⟩:=ckEnd_run own m hc hp (by omega) H0
  rw [retree_checker_node_L1_eq,hdr,nodesM_nil]
  simp only [go_sem,hlt,r1]
  exact ⟨H',rfl,r2,r3⟩
 | succ k ihk =>
  intro i m c Hc hk hi hc hp hn hg hm
  have hL:i < A.length:=by omega
  have hlt:decide ((i:Int) < (A.length:Int))=true:=decide_eq_true (by omega)
  have hdr:=List.drop_eq_getElem_cons hL
  rw [hdr,sizL_cons] at hn hg
  rw [hdr,nodesM_cons]
  have hAi:=List.getElem?_eq_getElem hL
  have d1:=dep_arg hAi
  have d2:=siz_arg hAi
  obtain ⟨a,hla,hra⟩:=hl.get hAi
  obtain ⟨xa,la,rfl,_,_⟩:=hra.out
  obtain ⟨H1,r1,r2,r3⟩:=ih _ (List.getElem_mem hL) _ (Hc++[AObj.cells (reC A[i].hd xa)]) o om c hra (hc.push _) (by omega) (by omega) (by omega) (by omega)
  obtain ⟨f1,f2,f3⟩:=node_facts A[i] c
  have hk1:Kpt [o,om] Hc H1:=(Kpt.push _ _ _).trans r3
  have hmax:(max (m:Int) ((nodeM A[i] c).2:Int))=((max m (nodeM A[i] c).2:Nat):Int):=by omega
  obtain ⟨H2,s1,s2,s3⟩:=ihk (i+1) (max m (nodeM A[i] c).2) _ H1 (by omega) (by omega) r2 (hk1.get hp (by simp [hpo,hpm])) (by omega) (by omega) (by omega)
  rw [retree_checker_node_L1_eq]
  simp only [go_sem,hlt,retree_checker_node_J4_eq,hx.idx hla,re_cells,aload_vp_re,alloc_re,ld_re (get_push_len Hc (AObj.cells (reC A[i].hd xa)) []),r1,hmax,retree_checker_node_J5_eq,wsucc (n:=i) (by omega),s1]
  exact ⟨H2,rfl,s2,hk1.trans s3⟩
theorem node_run (e:Rt):NodeRun e:=by
 induction e using Rt.ind with
 | h hd args ih =>
  intro a H o om c ha hc hn hg hd' hz
  obtain ⟨x,l,rfl,hx,hl⟩:=ha.out
  have hl:RtL args l:=hl
  have hlen:=len_siz args
  obtain ⟨H1,r1,r2,r3,r4⟩:=head_run (e:=.mk hd args) (l:=l) ha hd' (by show args.length≤_;simp only [siz] at hz;omega) hc (by omega) (by omega)
  simp only [siz] at hn hg hz
  simp only [dep] at hd'
  simp only [Rt.hd,Rt.args] at r1 r2 r3
  have hlo:H.length ≠ o:=by have:=lt_of_get hc.1;omega
  have hlm:H.length ≠ om:=by
   obtain ⟨es,k,h2,_⟩:=hc.2
   have:=lt_of_get h2;omega
  obtain ⟨a1,a2,a3⟩:=ckHead_nodes hd args.length c
  obtain ⟨H2,s1,s2,s3⟩:=node_loop hx hl ih (ckHead hd args.length c).groups hlo hlm (by omega) (by omega) H args.length 0 0 _ H1 rfl (by omega) r2 r3 (by simp only [List.drop_zero];omega) (by simp only [List.drop_zero];omega) (by omega)
  rw [nodeM_eq]
  simp only [List.drop_zero] at s1 s2
  refine ⟨H2,?_,s2,(r4.weak fun i hi _=>by simp at hi;simp [hi]).trans s3⟩
  simp only [Rt.hd]
  rw [r1,retree_checker_node_J1_eq]
  simp only [go_sem,ck4 r2.1,ld_args r3,hx.len,hl.1]
  exact s1
def ck0S:Ck:=⟨false,false,false,0,0,[]⟩
def checkM (e:Rt):Int :=
 if (nodeM e ck0S).1.sh then 7 else if (nodeM e ck0S).1.bd then 2 else if (nodeM e ck0S).1.nm then 4 else if 600 < siz e ∨ 9 < (nodeM e ck0S).1.groups ∨ 32 < dep e then 3 else 0
theorem check_run {e:Rt} {a:AV} (ha:RtC e a) (hd:dep e≤190) (hz:siz e≤1000000) (H:Hp):flatC C_retree_Check [a] H=some (.int .i64 (checkM e),H):=by
 have hcl:=close1 ha hd
 obtain ⟨x,l,rfl,hx,hl⟩:=ha.out
 have hc:CkAt [AObj.cells (reC e.hd x),AObj.map [] 0,AObj.cells (ckC ck0S 1)] 2 1 ck0S:=⟨rfl,[],0,rfl,rfl⟩
 obtain ⟨H1,r1,r2,r3⟩:=node_run e _ _ 2 1 ck0S ha hc (by show 0+siz e≤_;omega) (by show 0+siz e≤_;omega) hd hz
 obtain ⟨f1,f2,f3⟩:=node_facts e ck0S
 have f1:(nodeM e ck0S).1.nodes=siz e:=by rw [f1];simp [ck0S]
 refine flatC_of hcl (H1:=H1) ?_ rfl
 rw [F_retree_Check_eq]
 unfold F_retree_Check
 have e1:((afill [(6,1,(.map (([]:Hp)++[AObj.cells (reC e.hd x)]).length))] [(.bool false),(.bool false),(.bool false),(.int .i64 0),(.int .i64 0),.nils,.nilm]).map AV.agg)=some (.agg (ckC ck0S 1)):=rfl
 have e2:astoreU 7 (.ptr ((([]:Hp)++[AObj.cells (reC e.hd x)])++[AObj.map [] 0]).length 0) (.agg (ckC ck0S 1)) (((([]:Hp)++[AObj.cells (reC e.hd x)])++[AObj.map [] 0])++[AObj.cells [(.bool false),(.bool false),(.bool false),(.int .i64 0),(.int .i64 0),.nils,.nilm]])=some (.tuple [],[AObj.cells (reC e.hd x),AObj.map [] 0,AObj.cells (ckC ck0S 1)]):=rfl
 have e3:aload true 9 (.ptr ([]:Hp).length 0) [AObj.cells (reC e.hd x),AObj.map [] 0,AObj.cells (ckC ck0S 1)]=some (reV e.hd x):=rfl
 have e4:((([]:Hp)++[AObj.cells (reC e.hd x)])++[AObj.map [] 0]).length=2:=rfl
 rw [e4] at e2
 simp only [box_re,bnd_some,e1,e4,e2,e3,r1,afield_ptr,ck0 r2.1,ck1 r2.1,ck2 r2.1,ck3 r2.1,f1,f3,ibin_gtr,retree_Check_J1_eq]
 unfold checkM
 have q1:decide ((600:Int) < (siz e:Int))=decide (600 < siz e):=by rw [Bool.eq_iff_iff];simp;omega
 have q2:decide ((9:Int) < ((nodeM e ck0S).1.groups:Int))=decide (9 < (nodeM e ck0S).1.groups):=by rw [Bool.eq_iff_iff];simp;omega
 have q3:decide ((32:Int) < (dep e:Int))=decide (32 < dep e):=by rw [Bool.eq_iff_iff];simp;omega
 obtain ⟨c',hc'⟩:∃ c',(nodeM e ck0S).1=c':=⟨_,rfl⟩
 rw [hc'] at r2 q2 ⊢
 have l1:=ck1 r2.1
 have l2:=ck2 r2.1
 have l3:=ck3 r2.1
 have l4:=ck4 r2.1
 have f1':c'.nodes=siz e:=by rw [← hc'];exact f1
 rw [f1'] at l3
 cases h1:c'.sh with
 | true=>simp only [cnd_t,if_true]
 | false =>
  simp only [cnd_f,e4,afield_ptr,l1,bnd_some,Bool.false_eq_true,if_false]
  cases h2:c'.bd with
  | true=>simp only [cnd_t,if_true]
  | false =>
   simp only [cnd_f,e4,afield_ptr,l2,bnd_some,Bool.false_eq_true,if_false]
   cases h3:c'.nm with
   | true=>simp only [cnd_t,if_true]
   | false =>
    simp only [cnd_f,e4,afield_ptr,l3,bnd_some,ibin_gtr,q1,Bool.false_eq_true,if_false]
    by_cases b1:600 < siz e
    ·rw [if_pos (.inl b1)]
     simp only [decide_eq_true b1,go_sem]
    ·simp only [decide_eq_false b1,go_sem,e4,l4,q2]
     by_cases b2:9 < c'.groups
     ·rw [if_pos (.inr (.inl b2))]
      simp only [decide_eq_true b2,go_sem]
     ·simp only [decide_eq_false b2,go_sem,q3]
      by_cases b3:32 < dep e
      ·rw [if_pos (.inr (.inr b3))]
       simp only [decide_eq_true b3,go_sem]
      ·rw [if_neg (fun hh=>hh.elim b1 fun hh=>hh.elim b2 b3)]
       simp only [decide_eq_false b3,go_sem]
end Go.Am
namespace Go.Am
set_option linter.unusedSimpArgs false
set_option linter.unusedVariables false
set_option maxRecDepth 100000

def rpH (h:Hd):Bool:=!(h.op == 5) || !badR h
mutual
def rpM:Rt→Bool
 | .mk h args=>rpH h && rpL args
def rpL:List Rt→Bool
 | []=>true
 | e :: l=>rpM e && rpL l
end
theorem rpM_eq (h:Hd) (args:List Rt):rpM (.mk h args)=(rpH h && rpL args):=by rw [rpM]
theorem rpL_cons (e:Rt) (l:List Rt):rpL (e :: l)=(rpM e && rpL l):=by rw [rpL]
theorem rpL_nil:rpL []=true:=by rw [rpL]
theorem rpL_mem:∀ {l:List Rt},rpL l=true→∀ e ∈ l,rpM e=true
 | [],_,e,he=>by cases he
 | a :: l,h,e,he=>by
  rw [rpL_cons,Bool.and_eq_true] at h
  rcases List.mem_cons.1 he with r | r
  ·rw [r];exact h.1
  ·exact rpL_mem h.2 e r
theorem shM_eq (h:Hd) (args:List Rt):shM (.mk h args)=(shH h args.length && shL args):=by rw [shM]
theorem shL_cons (e:Rt) (l:List Rt):shL (e :: l)=(shM e && shL l):=by rw [shL]
theorem shL_nil:shL []=true:=by rw [shL]
theorem ckHead_flags (h:Hd) (n:Nat) (c:Ck):(ckHead h n c).sh=(c.sh || !shH h n)∧((ckHead h n c).bd=false→c.bd=false∧rpH h=true):=by
 unfold ckHead ckOp rpH
 by_cases h5:h.op=5
 ·rw [if_pos h5]
  refine ⟨rfl,fun hb=>?_⟩
  simp only [Bool.or_eq_false_iff] at hb
  exact ⟨hb.1,by simp [hb.2]⟩
 ·rw [if_neg h5]
  have e5:(h.op == 5)=false:=by simp [h5]
  split
  ·refine ⟨rfl,fun hb=>?_⟩
   simp only [Bool.or_eq_false_iff] at hb
   exact ⟨hb.1,by simp [e5]⟩
  ·split <;> exact ⟨rfl,fun hb=>⟨hb,by simp [e5]⟩⟩
theorem ckEnd_flags (h:Hd) (own:Nat) (c:Ck):(ckEnd h own c).sh=c.sh∧(ckEnd h own c).bd=c.bd:=by
 unfold ckEnd
 split <;> exact ⟨rfl,rfl⟩
theorem node_flags (e:Rt):∀ c,(nodeM e c).1.sh=(c.sh || !shM e)∧((nodeM e c).1.bd=false→c.bd=false∧rpM e=true):=by
 induction e using Rt.ind with
 | h hd args ih =>
  intro c
  have key : ∀ (l : List Rt), (∀ e ∈ l, ∀ c, (nodeM e c).1.sh = (c.sh || !shM e) ∧ ((nodeM e c).1.bd = false → c.bd = false ∧ rpM e = true)) → ∀ (c : Ck) (m : Nat),
      (nodesM l c m).1.sh=(c.sh || !shL l)∧((nodesM l c m).1.bd=false→c.bd=false∧rpL l=true):=by
   intro l
   induction l with
   | nil=>intro _ c m;rw [nodesM_nil,shL_nil,rpL_nil];exact ⟨by simp,fun h=>⟨h,rfl⟩⟩
   | cons e l ihl =>
    intro h c m
    obtain ⟨a1,a2⟩:=h e (by simp) c
    obtain ⟨b1,b2⟩:=ihl (fun x hx=>h x (by simp [hx])) (nodeM e c).1 (max m (nodeM e c).2)
    rw [nodesM_cons,shL_cons,rpL_cons]
    refine ⟨?_,fun hb=>?_⟩
    ·rw [b1,a1]
     cases c.sh <;> cases shM e <;> cases shL l <;> rfl
    ·obtain ⟨q1,q2⟩:=b2 hb
     obtain ⟨q3,q4⟩:=a2 q1
     exact ⟨q3,by rw [q4,q2];rfl⟩
  obtain ⟨a1,a2⟩:=ckHead_flags hd args.length c
  obtain ⟨b1,b2⟩:=key args ih (ckHead hd args.length c) 0
  obtain ⟨d1,d2⟩:=ckEnd_flags hd (ckHead hd args.length c).groups (nodesM args (ckHead hd args.length c) 0).1
  rw [nodeM_eq,shM_eq,rpM_eq]
  refine ⟨?_,fun hb=>?_⟩
  ·show (ckEnd hd _ _).sh=_
   rw [d1,b1,a1]
   cases c.sh <;> cases shH hd args.length <;> cases shL args <;> rfl
  ·have hb:(ckEnd hd (ckHead hd args.length c).groups (nodesM args (ckHead hd args.length c) 0).1).bd=false:=hb
   rw [d2] at hb
   obtain ⟨q1,q2⟩:=b2 hb
   obtain ⟨q3,q4⟩:=a2 q1
   exact ⟨q3,by rw [q4,q2];rfl⟩
theorem check_ok {e:Rt} (h:checkM e=0):shM e=true∧rpM e=true∧siz e≤600∧dep e≤32∧(nodeM e ck0S).1.bd=false∧(nodeM e ck0S).1.groups≤9:=by
 unfold checkM at h
 obtain ⟨f1,f2⟩:=node_flags e ck0S
 split at h
 ·cases h
 ·rename_i h1
  split at h
  ·cases h
  ·rename_i h2
   split at h
   ·cases h
   ·split at h
    ·cases h
    ·rename_i h4
     have h1:(nodeM e ck0S).1.sh=false:=by simpa using h1
     have h2:(nodeM e ck0S).1.bd=false:=by simpa using h2
     rw [f1] at h1
     have h3:shM e=true:=by simpa [ck0S] using h1
     exact ⟨h3,(f2 h2).2,by omega,by omega,h2,by omega⟩
theorem rep_bounds {h:Hd} (hb:badR h=false):0≤h.lo∧h.lo≤64∧(h.hi=-1 ∨ h.lo≤h.hi∧h.hi≤64):=by
 unfold badR at hb
 simp only [Bool.or_eq_false_iff,decide_eq_false_iff_not,Bool.and_eq_false_iff,bne_eq_false_iff_eq] at hb
 obtain ⟨⟨h1,h2⟩,h3⟩:=hb
 exact ⟨by omega,by omega,h3.imp id fun h=>by omega⟩
theorem rp_bounds {h:Hd} (hr:rpH h=true) (h5:h.op=5):0≤h.lo∧h.lo≤64∧(h.hi=-1 ∨ h.lo≤h.hi∧h.hi≤64):=by
 refine rep_bounds ?_
 unfold rpH at hr
 simpa [h5] using hr
def hugeN:Int:=1073741824
def simpleR (lo hi:Int):Prop:=(lo=0∧(hi=1 ∨ hi=-1)) ∨ (lo=1∧hi=-1)
instance (lo hi:Int):Decidable (simpleR lo hi):=by unfold simpleR;infer_instance
def weightM (n lo hi:Int):Int :=
 if simpleR lo hi then n+1 else if hi=0 then 1 else if lo=1∧hi=1 then n else if hi=lo then 1+lo * n else if hi=-1 then 2+lo * n else 1+lo * n+(hi - lo) * (n+1)
theorem mul_bd {a b:Int} (h0:0≤a) (h1:a≤64) (h2:0≤b) (h3:b≤4000000000):0≤a * b∧a * b≤256000000000:=by
 refine ⟨Int.mul_nonneg h0 h2,?_⟩
 have:=Int.mul_le_mul h1 h3 h2 (by omega)
 omega
theorem weightM_bd {n lo hi:Int} (h0:0≤n) (h1:n≤3000000000) (hl:0≤lo∧lo≤64∧(hi=-1 ∨ lo≤hi∧hi≤64)):0≤weightM n lo hi∧weightM n lo hi≤1000000000000:=by
 obtain ⟨l1,l2,l3⟩:=hl
 have m1:=mul_bd l1 l2 h0 (by omega)
 unfold weightM
 split
 ·omega
 split
 ·omega
 split
 ·omega
 split
 ·omega
 split
 ·omega
 ·have m2:=mul_bd (a:=hi - lo) (b:=n+1) (by omega) (by omega) (by omega) (by omega)
  omega
theorem weight_run {n lo hi:Int} (h0:0≤n) (h1:n≤3000000000) (hl:0≤lo∧lo≤64∧(hi=-1 ∨ lo≤hi∧hi≤64)) (H:Hp):flatC C_retree_weight [.int .i64 n,.int .i64 lo,.int .i64 hi] H=some (.int .i64 (weightM n lo hi),H):=by
 obtain ⟨l1,l2,l3⟩:=hl
 have m1:=mul_bd l1 l2 h0 (by omega)
 refine flatC_of (args':=[.int .i64 n,.int .i64 lo,.int .i64 hi]) (H1:=[]) rfl ?_ rfl
 rw [F_retree_weight_eq]
 unfold F_retree_weight weightM
 have w1:IntKind.i64.wrap (n+1)=n+1:=wrap64 (by omega) (by omega)
 have w2:IntKind.i64.wrap (lo * n)=lo * n:=wrap64 (by omega) (by omega)
 have w3:IntKind.i64.wrap (1+lo * n)=1+lo * n:=wrap64 (by omega) (by omega)
 have w4:IntKind.i64.wrap (2+lo * n)=2+lo * n:=wrap64 (by omega) (by omega)
 have w567:lo≤hi→IntKind.i64.wrap (hi - lo)=hi - lo∧IntKind.i64.wrap ((hi - lo) * (n+1))=(hi - lo) * (n+1)∧IntKind.i64.wrap (1+lo * n+(hi - lo) * (n+1))=1+lo * n+(hi - lo) * (n+1):=fun h=>by
  have m2:=mul_bd (a:=hi - lo) (b:=n+1) (by omega) (by omega) (by omega) (by omega)
  exact ⟨wrap64 (by omega) (by omega),wrap64 (by omega) (by omega),wrap64 (by omega) (by omega)⟩
 have hb:∀ a b:Int,(a == b)=true ↔ a=b:=fun a b=>by simp
 have hf:∀ a b:Int,(a == b)=false ↔ ¬ a=b:=fun a b=>by simp
 by_cases hs:simpleR lo hi
 ·have hs':=hs
  unfold simpleR at hs'
  rw [if_pos hs]
  rcases hs' with ⟨c0,c2⟩ | ⟨c1,c3⟩
  ·have q0:=(hb lo 0).2 c0
   rcases c2 with c2 | c3
   ·have q2:=(hb hi 1).2 c2
    simp only [go_sem,q0,q2,w1]
   ·have q2:=(hf hi 1).2 (by omega)
    have q3:=(hb hi (-1)).2 c3
    simp only [go_sem,q0,q2,q3,w1]
  ·have q0:=(hf lo 0).2 (by omega)
   have q1:=(hb lo 1).2 c1
   have q3:=(hb hi (-1)).2 c3
   simp only [go_sem,q0,q1,q3,w1]
 ·have hs':=hs
  unfold simpleR at hs'
  rw [if_neg hs]
  -- the first condition is false
  by_cases c4:hi=0
  ·rw [if_pos c4]
   have q0:=(hb lo 0).2 (by omega)
   have q1:=(hf lo 1).2 (by omega)
   have q2:=(hf hi 1).2 (by omega)
   have q3:=(hf hi (-1)).2 (by omega)
   have q4:=(hb hi 0).2 c4
   simp only [go_sem,q0,q1,q2,q3,q4]
  ·rw [if_neg c4]
   have q4:=(hf hi 0).2 c4
   by_cases c11:lo=1∧hi=1
   ·rw [if_pos c11]
    have q0:=(hf lo 0).2 (by omega)
    have q1:=(hb lo 1).2 c11.1
    have q2:=(hb hi 1).2 c11.2
    have q3:=(hf hi (-1)).2 (by omega)
    simp only [go_sem,q0,q1,q2,q3,q4]
   ·rw [if_neg c11]
    by_cases c5:hi=lo
    ·rw [if_pos c5]
     have q5:=(hb hi lo).2 c5
     have q3:=(hf hi (-1)).2 (by omega)
     have q0:=(hf lo 0).2 (by omega)
     have q1:=(hf lo 1).2 (by omega)
     simp only [go_sem,q0,q1,q3,q4,q5,w2,w3]
    ·rw [if_neg c5]
     have q5:=(hf hi lo).2 c5
     by_cases c3:hi=-1
     ·rw [if_pos c3]
      have q3:=(hb hi (-1)).2 c3
      have q0:=(hf lo 0).2 (by omega)
      have q1:=(hf lo 1).2 (by omega)
      simp only [go_sem,q0,q1,q3,q4,q5,w2,w4]
     ·rw [if_neg c3]
      have q3:=(hf hi (-1)).2 c3
      obtain ⟨w5,w6,w7⟩:=w567 (by omega)
      by_cases c0:lo=0
      ·have q0:=(hb lo 0).2 c0
       have q1:=(hf lo 1).2 (by omega)
       have q2:=(hf hi 1).2 (by omega)
       simp only [go_sem,q0,q1,q2,q3,q4,q5,retree_weight_J1_eq,w1,w2,w3,w5,w6,w7]
      ·have q0:=(hf lo 0).2 c0
       by_cases c1:lo=1
       ·have q1:=(hb lo 1).2 c1
        have q2:=(hf hi 1).2 (by omega)
        simp only [go_sem,q0,q1,q2,q3,q4,q5,retree_weight_J1_eq,w1,w2,w3,w5,w6,w7]
       ·have q1:=(hf lo 1).2 c1
        simp only [go_sem,q0,q1,q3,q4,q5,retree_weight_J1_eq,w1,w2,w3,w5,w6,w7]
mutual
def weighM:Rt→Int
 | .mk h args=>if h.op=5 then min hugeN (weightM (weighL args 0) h.lo h.hi) else min hugeN (weighL args 0+1)
def weighL:List Rt→Int→Int
 | [],n=>n
 | e :: l,n=>weighL l (min hugeN (n+weighM e))
end
theorem weighM_eq (h:Hd) (args:List Rt):weighM (.mk h args)=if h.op=5 then min hugeN (weightM (weighL args 0) h.lo h.hi) else min hugeN (weighL args 0+1):=by rw [weighM]
theorem weighL_cons (e:Rt) (l:List Rt) (n:Int):weighL (e :: l) n=weighL l (min hugeN (n+weighM e)):=by rw [weighL]
theorem weighL_nil (n:Int):weighL [] n=n:=by rw [weighL]
theorem weigh_bd (e:Rt) (hr:rpM e=true):0≤weighM e∧weighM e≤hugeN:=by
 induction e using Rt.ind with
 | h hd args ih =>
  rw [rpM_eq,Bool.and_eq_true] at hr
  have key:∀ (l:List Rt),(∀ e ∈ l,0≤weighM e∧weighM e≤hugeN)→∀ n,0≤n→n≤hugeN→0≤weighL l n∧weighL l n≤hugeN:=by
   intro l
   induction l with
   | nil=>intro _ n h0 h1;rw [weighL_nil];exact ⟨h0,h1⟩
   | cons e l ihl =>
    intro h n h0 h1
    obtain ⟨a1,a2⟩:=h e (by simp)
    rw [weighL_cons]
    exact ihl (fun x hx=>h x (by simp [hx])) _ (by unfold hugeN at *;omega) (by unfold hugeN at *;omega)
  obtain ⟨k1,k2⟩:=key args (fun e he=>ih e he (rpL_mem hr.2 e he)) 0 (by omega) (by unfold hugeN;omega)
  rw [weighM_eq]
  split
  ·rename_i h5
   have:=weightM_bd k1 (by unfold hugeN at k2;omega) (rp_bounds hr.1 h5)
   unfold hugeN at *;omega
  ·unfold hugeN at *;omega
theorem weighL_bd:∀ (l:List Rt),(∀ e ∈ l,0≤weighM e∧weighM e≤hugeN)→∀ n,0≤n→n≤hugeN→0≤weighL l n∧weighL l n≤hugeN:=by
 intro l
 induction l with
 | nil=>intro _ n h0 h1;rw [weighL_nil];exact ⟨h0,h1⟩
 | cons e l ihl =>
  intro h n h0 h1
  obtain ⟨a1,a2⟩:=h e (by simp)
  rw [weighL_cons]
  exact ihl (fun x hx=>h x (by simp [hx])) _ (by unfold hugeN at *;omega) (by unfold hugeN at *;omega)
def Weighs (e:Rt):Prop:=∀ a,RtC e a→∀ H,flatC C_retree_weigh [a] H=some (.int .i64 (weighM e),H)
theorem weigh_loop {h : Hd} {A : List Rt} {x : AV} {l : List AV} (hx : SlC 9 x l) (hl : RtL A l) (ih : ∀ e ∈ A, Weighs e) (hr : ∀ e ∈ A, rpM e = true) (hh : rpH h = true) {p : Nat} (hb : A.length ≤ 1000000) (H0 : Hp) :
    ∀ (k i:Nat) (n:Int) (Hc:Hp),A.length - i=k→i≤A.length→Hc[p]?=some (.cells (reC h x))→0≤n→n≤hugeN →
    ∃ H',retree_weigh_L1 (.ptr p 0) (.int .i64 n) x (.int .i64 (A.length:Int)) (.int .i64 (i:Int)) H0 Hc=some (.int .i64 (if h.op=5 then min hugeN (weightM (weighL (A.drop i) n) h.lo h.hi) else min hugeN (weighL (A.drop i) n+1)),H'):=by
 intro k
 induction k with
 | zero =>
  intro i n Hc hk hi hp h0 h1
  have hlt:decide ((i:Int) < (A.length:Int))=false:=decide_eq_false (by omega)
  have hdr:A.drop i=[]:=List.drop_eq_nil_iff.2 (by omega)
  rw [retree_weigh_L1_eq,hdr,weighL_nil]
  by_cases h5:h.op=5
  ·have e5:(h.op == 5)=true:=by simp [h5]
   simp only [go_sem,hlt,retree_weigh_J1_eq,ld_op hp,e5,ld_lo hp,ld_hi hp,weight_run h0 (show n≤3000000000 by unfold hugeN at h1;omega) (rp_bounds hh h5)]
   rw [if_pos h5]
   exact ⟨_,rfl⟩
  ·have e5:(h.op == 5)=false:=by simp [h5]
   simp only [go_sem,hlt,retree_weigh_J1_eq,ld_op hp,e5,retree_weigh_J2_eq]
   rw [if_neg h5,wrap64 (n:=n+1) (by omega) (by unfold hugeN at h1;omega)]
   exact ⟨_,rfl⟩
 | succ k ihk =>
  intro i n Hc hk hi hp h0 h1
  have hL:i < A.length:=by omega
  have hlt:decide ((i:Int) < (A.length:Int))=true:=decide_eq_true (by omega)
  have hdr:=List.drop_eq_getElem_cons hL
  have hAi:=List.getElem?_eq_getElem hL
  have hm:=List.getElem_mem hL
  obtain ⟨a,hla,hra⟩:=hl.get hAi
  have hcall:=ih _ hm a hra
  obtain ⟨xa,la,rfl,_,_⟩:=hra.out
  obtain ⟨b1,b2⟩:=weigh_bd _ (hr _ hm)
  obtain ⟨H2,s1⟩:=ihk (i+1) (min hugeN (n+weighM A[i])) (Hc++[AObj.cells (reC A[i].hd xa)]) (by omega) (by omega) (get_push hp _) (by unfold hugeN at *;omega) (by unfold hugeN at *;omega)
  rw [retree_weigh_L1_eq,hdr,weighL_cons]
  have hmin:min (1073741824:Int) (n+weighM A[i])=min hugeN (n+weighM A[i]):=rfl
  simp only [go_sem,hlt,retree_weigh_J3_eq,hx.idx hla,re_cells,aload_vp_re,alloc_re,ld_re (get_push_len Hc (AObj.cells (reC A[i].hd xa)) []),hcall,wrap64 (n:=n+weighM A[i]) (by omega) (by unfold hugeN at *;omega),hmin,
   retree_weigh_J4_eq,wsucc (n:=i) (by omega),s1]
  exact ⟨H2,rfl⟩
theorem weigh_run (e:Rt) (hr:rpM e=true) (hd:dep e≤190) (hz:siz e≤1000000):Weighs e:=by
 induction e using Rt.ind with
 | h hd' args ih =>
  intro a ha H
  have hcl:=close1 ha hd
  obtain ⟨x,l,rfl,hx,hl⟩:=ha.out
  have hl:RtL args l:=hl
  have hlen:=len_siz args
  rw [rpM_eq,Bool.and_eq_true] at hr
  simp only [siz] at hz
  simp only [dep] at hd
  have hk:∀ e ∈ args,Weighs e:=fun e he=>by
   obtain ⟨i,hi⟩:=List.getElem?_of_mem he
   have h1:=dep_arg hi
   have h2:=siz_arg hi
   exact ih e he (rpL_mem hr.2 e he) (by omega) (by omega)
  obtain ⟨H',q⟩:=weigh_loop hx hl hk (rpL_mem hr.2) hr.1 (p:=0) (by omega) [] args.length 0 0 [.cells (reC hd' x)] rfl (by omega) rfl (by omega) (by unfold hugeN;omega)
  refine flatC_of hcl (H1:=H') ?_ rfl
  rw [F_retree_weigh_eq,weighM_eq]
  unfold F_retree_weigh
  simp only [Rt.hd,box_re,bnd_some,afield_ptr,ld_args (get_push_len ([]:Hp) (AObj.cells (reC hd' x)) []),hx.len,hl.1]
  exact q
end Go.Am
