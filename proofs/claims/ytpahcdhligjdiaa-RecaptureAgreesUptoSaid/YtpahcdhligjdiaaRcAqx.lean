/-
  The law's own example.
-/
import Derived.Test.YtpahcdhligjdiaaRcAnx
import Derived.Test.YtpahcdhligjdiaaRcAmx
namespace Go.Am
set_option linter.unusedSimpArgs false
set_option linter.unusedVariables false
set_option maxRecDepth 100000

def hA:Hd:=⟨2,0,8589934592,0,0,0,0,0⟩
def hB:Hd:=⟨2,0,17179869184,0,0,0,0,0⟩
def eAw:Rt:=.mk ⟨4,0,0,0,0,0,0,0⟩ [.mk ⟨6,0,0,0,0,0,0,1⟩ [.mk hA []],.mk ⟨6,0,0,0,0,0,0,2⟩ [.mk ⟨3,0,0,0,0,0,0,0⟩ [.mk hA [],.mk hB []]]]
theorem comp_aw:(compM eAw).2=0:=by kernel_rfl
theorem caps_aw:capS [97,98] false eAw 0 2=[(0,2),(-1,-1),(0,2)]:=by kernel_rfl
theorem ends_aw:(endsM [97,98] false eAw 0 2).getD (2 - 0) false=true:=by kernel_rfl
theorem bnd_ev {α β:Type} {x:Option α} {v:α} {k:α→Option β} {r:Option β} (hx:x=some v) (h:k v=r):bnd x k=r:=by rw [hx];exact h
theorem cnd_evt {x y r:Res} (h:x=r):cnd (.bool true) x y=r:=h
theorem cnd_evf {x y r:Res} (h:y=r):cnd (.bool false) x y=r:=h
def w4 (a b c d:Int):AV:=.agg [.int .u64 a,.int .u64 b,.int .u64 c,.int .u64 d]
theorem has_aw (H:Hp):flatC C_R04_Has [w4 0 0 0 0,.int .u8 97] H=some (.bool false,H)∧flatC C_R04_Has [w4 0 0 0 0,.int .u8 98] H=some (.bool false,H):=by
 refine ⟨flatC_of (args':=[w4 0 0 0 0,.int .u8 97]) (by kernel_rfl) (H1:=[.cells [.int .u64 0,.int .u64 0,.int .u64 0,.int .u64 0]]) ?_ rfl,flatC_of (args':=[w4 0 0 0 0,.int .u8 98]) (by kernel_rfl) (H1:=[.cells [.int .u64 0,.int .u64 0,.int .u64 0,.int .u64 0]]) ?_ rfl⟩ <;>
 ·rw [F_R04_Has_eq]
  kernel_rfl
theorem with_aw (H:Hp):flatC C_R04_with [w4 0 0 0 0,.int .u8 97] H=some (w4 0 8589934592 0 0,H)∧flatC C_R04_with [w4 0 0 0 0,.int .u8 98] H=some (w4 0 17179869184 0 0,H):=by
 refine ⟨flatC_of (args':=[w4 0 0 0 0,.int .u8 97]) (by kernel_rfl) (H1:=[.cells [.int .u64 0,.int .u64 8589934592,.int .u64 0,.int .u64 0],.cells [.int .u64 0,.int .u64 8589934592,.int .u64 0,.int .u64 0]]) ?_ rfl,flatC_of (args':=[w4 0 0 0 0,.int .u8 98]) (by kernel_rfl) (H1:=[.cells [.int .u64 0,.int .u64 17179869184,.int .u64 0,.int .u64 0],.cells [.int .u64 0,.int .u64 17179869184,.int .u64 0,.int .u64 0]]) ?_ rfl⟩
 ·rw [F_R04_with_eq]
  unfold F_R04_with
  refine bnd_ev rfl (bnd_ev rfl (bnd_ev rfl (bnd_ev (has_aw _).1 (bnd_ev rfl (cnd_evt ?_)))))
  refine bnd_ev rfl (bnd_ev rfl (bnd_ev rfl (bnd_ev rfl (bnd_ev rfl (bnd_ev rfl (bnd_ev rfl (bnd_ev rfl (bnd_ev rfl (bnd_ev rfl (bnd_ev rfl ?_))))))))))
  rw [R04_with_J1_eq]
  kernel_rfl
 ·rw [F_R04_with_eq]
  unfold F_R04_with
  refine bnd_ev rfl (bnd_ev rfl (bnd_ev rfl (bnd_ev (has_aw _).2 (bnd_ev rfl (cnd_evt ?_)))))
  refine bnd_ev rfl (bnd_ev rfl (bnd_ev rfl (bnd_ev rfl (bnd_ev rfl (bnd_ev rfl (bnd_ev rfl (bnd_ev rfl (bnd_ev rfl (bnd_ev rfl (bnd_ev rfl ?_))))))))))
  rw [R04_with_J1_eq]
  kernel_rfl
theorem of_aw (b:UInt8) (v:Int) (hb:(b=97∧v=8589934592) ∨ (b=98∧v=17179869184)) (H:Hp):flatC C_R04_Of [.str [b]] H=some (w4 0 v 0 0,H):=by
 refine flatC_of (args':=[.str [b]]) (by rcases hb with ⟨rfl,rfl⟩ | ⟨rfl,rfl⟩ <;> kernel_rfl) (H1:=[.cells [.int .u64 0,.int .u64 v,.int .u64 0,.int .u64 0],.cells [.int .u64 0,.int .u64 v,.int .u64 0,.int .u64 0]]) ?_ rfl
 rw [F_R04_Of_eq]
 unfold F_R04_Of
 refine bnd_ev rfl (bnd_ev rfl ?_)
 rw [R04_Of_L1_eq]
 refine bnd_ev rfl (bnd_ev rfl (cnd_evt ?_))
 rw [R04_Of_J2_eq]
 rcases hb with ⟨rfl,rfl⟩ | ⟨rfl,rfl⟩
 ·refine bnd_ev rfl (bnd_ev rfl (bnd_ev (with_aw _).1 (bnd_ev rfl ?_)))
  rw [R04_Of_J3_eq]
  refine bnd_ev rfl ?_
  rw [R04_Of_L1_eq]
  refine bnd_ev rfl (bnd_ev rfl (cnd_evf ?_))
  rw [R04_Of_J1_eq]
  kernel_rfl
 ·refine bnd_ev rfl (bnd_ev rfl (bnd_ev (with_aw _).2 (bnd_ev rfl ?_)))
  rw [R04_Of_J3_eq]
  refine bnd_ev rfl ?_
  rw [R04_Of_L1_eq]
  refine bnd_ev rfl (bnd_ev rfl (cnd_evf ?_))
  rw [R04_Of_J1_eq]
  kernel_rfl
theorem byte_aw (H:Hp):flatC C_L09_Byte [.int .u8 97] H=some (reV hA .nils,H)∧flatC C_L09_Byte [.int .u8 98] H=some (reV hB .nils,H):=by
 have key:∀ (b:UInt8) (v:Int),((b=97∧v=8589934592) ∨ (b=98∧v=17179869184))→flatC C_L09_Byte [.int .u8 (b.toNat:Int)] H=some (reV ⟨2,0,v,0,0,0,0,0⟩ .nils,H):=fun b v hb=>by
  refine flatC_of (args':=[.int .u8 (b.toNat:Int)]) rfl (H1:=[.cells (reC ⟨2,0,v,0,0,0,0,0⟩ .nils)]) ?_ rfl
  rw [F_L09_Byte_eq]
  unfold F_L09_Byte
  have hcv:∀ w:Hp,cvRd (.vs 1 .clip [.int .u8 (b.toNat:Int)]) w=some (.str [b]):=fun w=>by rcases hb with ⟨rfl,rfl⟩ | ⟨rfl,rfl⟩ <;> rfl
  refine bnd_ev rfl (bnd_ev rfl (bnd_ev (hcv _) (bnd_ev (of_aw b v hb _) ?_)))
  rfl
 exact ⟨key 97 _ (.inl ⟨rfl,rfl⟩),key 98 _ (.inr ⟨rfl,rfl⟩)⟩
def nA:AV:=reV hA .nils
def nB:AV:=reV hB .nils
def h3:Hd:=⟨3,0,0,0,0,0,0,0⟩
def h4:Hd:=⟨4,0,0,0,0,0,0,0⟩
def h6 (g:Int):Hd:=⟨6,0,0,0,0,0,0,g⟩
def nC:AV:=reV h3 (.vs 9 .clip [nA,nB])
def n1:AV:=reV (h6 1) (.vs 9 .clip [nA])
def n2:AV:=reV (h6 2) (.vs 9 .clip [nC])
def nW:AV:=reV h4 (.vs 9 .clip [n1,n2])
theorem leaf_aw (h:Hd):RtC (.mk h []) (reV h .nils):=RtC.of (.inl ⟨rfl,rfl⟩) RtL.nil
theorem one_aw {e:Rt} {a:AV} (h:RtC e a):RtL [e] [a]:=RtL.nil.snoc h
theorem tree_aw:RtC eAw nW :=
 RtC.of (.inr (.inr rfl)) ((one_aw (RtC.of (.inr (.inr rfl)) (one_aw (leaf_aw hA)))).snoc (RtC.of (.inr (.inr rfl)) (one_aw (RtC.of (.inr (.inr rfl)) ((one_aw (leaf_aw hA)).snoc (leaf_aw hB))))))
theorem node_aw (H:Hp):flatC C_L09_Node [.int .i64 3,.vs 9 .clip [nA,nB]] H=some (nC,H)∧flatC C_L09_Node [.int .i64 4,.vs 9 .clip [n1,n2]] H=some (nW,H):=by
 refine ⟨flatC_cl (args':=[.int .i64 3,.vs 9 .clip [nA,nB]]) (H1:=[.cells (reC h3 (.vs 9 .clip [nA,nB]))]) (v:=nC) (by kernel_rfl) ?_ (by kernel_rfl),flatC_cl (args':=[.int .i64 4,.vs 9 .clip [n1,n2]]) (H1:=[.cells (reC h4 (.vs 9 .clip [n1,n2]))]) (v:=nW) (by kernel_rfl) ?_ (by kernel_rfl)⟩ <;>
 ·rw [F_L09_Node_eq]
  kernel_rfl
theorem awake_run:∃ H1,C_L13_awake [] []=some (.bool true,H1):=by
 obtain ⟨v,H1,c1,c2,c3⟩:=Captures_run tree_aw (of_decide_eq_true (by kernel_rfl)) (of_decide_eq_true (by kernel_rfl)) (s:=[97,98]) (by decide) 0 2 false [.cells (reC (h6 1) (.vs 9 .clip [nA])),.cells (reC (h6 2) (.vs 9 .clip [nC]))]
 have c3':∃ so,v=.tuple [.agg [spV so 3],.bool true,.int .i64 0]∧SpAt H1 so [(0,2),(-1,-1),(0,2)]:=by
  cases c3 with
  | err h=>exact absurd comp_aw h
  | range h h'=>simp at h'
  | no i j h h1 h2 h3 h4 h5 =>
   have hi:i=0:=by omega
   have hj:j=2:=by omega
   subst hi hj
   rw [ends_aw] at h5
   cases h5
  | yes i j so h h1 h2 h3 h4 h5 h6 hS =>
   have hi:i=0:=by omega
   have hj:j=2:=by omega
   subst hi hj
   rw [caps_aw] at hS
   exact ⟨so,rfl,hS⟩
 obtain ⟨so,rfl,hS⟩:=c3'
 have g5:=get_push_len H1 (AObj.cells [.nils]) []
 obtain ⟨y1,y2⟩:=st8 g5 (x:=spV so 3) rfl rfl
 obtain ⟨V,hV⟩:∃ V:Hp,V=(H1++[AObj.cells [.nils]]).set H1.length (.cells [spV so 3]):=⟨_,rfl⟩
 rw [← hV] at y1
 have hk:Kpt [] H1 V:=by rw [hV];exact (Kpt.push [] H1 _).base (Kpt.set (W:=[H1.length]) _ _ (by simp)) (by simp)
 have hSV:SpAt V so [(0,2),(-1,-1),(0,2)]:=hk.get hS (by simp)
 have ln:aload false 1 (.ptr H1.length (0+0)) V=some (spV so 3):=by rw [hV,aload_of (get_set_eq _ g5)];rfl
 have l0:alenD (.slice 30) (spV so 3)=some (.int .i64 3):=rfl
 have i0:aindexS 2 (spV so 3) (.int .i64 0)=some (.ptr so 0):=rfl
 have i1:aindexS 2 (spV so 3) (.int .i64 1)=some (.ptr so 2):=rfl
 have i2:aindexS 2 (spV so 3) (.int .i64 2)=some (.ptr so 4):=rfl
 have q0:aload true 2 (.ptr so 0) V=some (.agg [.int .i64 0,.int .i64 2]):=hSV.ld (g:=0) (by decide)
 have q1:aload true 2 (.ptr so 2) V=some (.agg [.int .i64 (-1),.int .i64 (-1)]):=hSV.ld (g:=1) (by decide)
 have q2:aload true 2 (.ptr so 4) V=some (.agg [.int .i64 0,.int .i64 2]):=hSV.ld (g:=2) (by decide)
 have x0:∀ u w z:AV,aext (.tuple [u,w,z]) 0=some u:=fun _ _ _=>rfl
 have x1:∀ u w z:AV,aext (.tuple [u,w,z]) 1=some w:=fun _ _ _=>rfl
 have x2:∀ u w z:AV,aext (.tuple [u,w,z]) 2=some z:=fun _ _ _=>rfl
 have f1:((afill [(0,1,(.int .i64 0)),(1,1,(.int .i64 2))] [(.int .i64 0),(.int .i64 0)]).map AV.agg)=some (.agg [.int .i64 0,.int .i64 2]):=rfl
 have f2:((afill [(0,1,(.int .i64 (-1))),(1,1,(.int .i64 (-1)))] [(.int .i64 0),(.int .i64 0)]).map AV.agg)=some (.agg [.int .i64 (-1),.int .i64 (-1)]):=rfl
 have e0:((0:Int) != 0)=false:=rfl
 have e3:((3:Int) != 3)=false:=rfl
 have ce:=sp_cmp' 0 2 0 2
 have cf:=sp_cmp' (-1) (-1) (-1) (-1)
 rw [show ((0:Int) == 0 && (2:Int) == 2)=true from rfl] at ce
 rw [show ((-1:Int) == -1 && (-1:Int) == -1)=true from rfl] at cf
 rw [F_L13_awake_eq]
 unfold F_L13_awake
 refine ⟨V,bnd_ev (byte_aw _).1 (bnd_ev rfl (bnd_ev rfl (bnd_ev rfl (bnd_ev rfl (bnd_ev (byte_aw _).1 (bnd_ev (byte_aw _).2 (bnd_ev rfl (bnd_ev (node_aw _).1 (bnd_ev rfl (bnd_ev rfl (bnd_ev rfl (bnd_ev rfl (bnd_ev rfl (bnd_ev rfl (bnd_ev rfl (bnd_ev (node_aw _).2 (bnd_ev rfl (bnd_ev c1 ?_))))))))))))))))))⟩
 simp only [go_sem,x0,x1,x2,y1,e0,ln,l0,e3,Bool.not_true,L13_awake_J1_eq,i0,i1,i2,q0,q1,q2,f1,f2,ce,cf]
theorem awake_ok (H:Hp):flatC C_L13_awake [] H=some (.bool true,H):=by
 obtain ⟨H1,h⟩:=awake_run
 exact flatC_of (args':=[]) rfl h rfl
end Go.Am
namespace Go.Am
set_option linter.unusedSimpArgs false
set_option linter.unusedVariables false

def Ep (p:List In) (s:List UInt8) (lines:Bool) (i k m:Nat):Prop :=
 (inAt p k).op=2∧(m=(inAt p k).x.toNat ∨ m=(inAt p k).y.toNat) ∨ (inAt p k).op=3∧m=(inAt p k).x.toNat ∨ ((inAt p k).op=4 ∨ (inAt p k).op=5)∧holdsM s lines (inAt p k).op i=true∧m=k+1
inductive Rc (p:List In) (s:List UInt8) (lines:Bool) (i:Nat) (T:Nat→Prop):Nat→Prop
 | base {k:Nat}:T k→Rc p s lines i T k
 | step {k m:Nat}:Rc p s lines i T k→Ep p s lines i k m→m < p.length→Rc p s lines i T m
def Nx (p:List In) (c:UInt8) (R:Nat→Prop) (q:Nat):Prop:=∃ k,R k∧(inAt p k).op=1∧hasM (inAt p k) c=true∧q=k+1∧q < p.length
def TS (p:List In) (s:List UInt8) (lines:Bool):Nat→Nat→(Nat→Prop)→Nat→Prop
 | 0,i,T=>Rc p s lines i T
 | n+1,i,T=>TS p s lines n (i+1) (Nx p (s.getD i 0) (Rc p s lines i T))
theorem Rc.mono {p:List In} {s:List UInt8} {lines:Bool} {i:Nat} {T T':Nat→Prop} (h:∀ k,T k→T' k) {q:Nat} (hq:Rc p s lines i T q):Rc p s lines i T' q:=by
 induction hq with
 | base h1=>exact .base (h _ h1)
 | step _ h2 h3 ih=>exact .step ih h2 h3
theorem TS.congr {p:List In} {s:List UInt8} {lines:Bool}:∀ (n i:Nat) {T T':Nat→Prop},(∀ k,T k ↔ T' k)→∀ q,TS p s lines n i T q ↔ TS p s lines n i T' q
 | 0,i,T,T',h,q=>⟨fun hq=>Rc.mono (fun k=>(h k).1) hq,fun hq=>Rc.mono (fun k=>(h k).2) hq⟩
 | n+1,i,T,T',h,q=>TS.congr n (i+1) (fun k=>⟨fun ⟨m,a,b⟩=>⟨m,Rc.mono (fun k=>(h k).1) a,b⟩,fun ⟨m,a,b⟩=>⟨m,Rc.mono (fun k=>(h k).2) a,b⟩⟩) q
structure Mk (p:List In) (st:List Nat × List Bool):Prop where
 len:st.2.length=p.length
 mem:∀ k,st.2.getD k false=true ↔ k ∈ st.1
 nd:st.1.Nodup
section
variable {p:List In} {s:List UInt8} {lines:Bool} {i:Nat}
theorem Mk.lt {st:List Nat × List Bool} (h:Mk p st) {k:Nat} (hk:k ∈ st.1):k < p.length:=by
 have:=(h.mem k).2 hk
 rw [← h.len]
 apply Decidable.byContradiction
 intro hn
 rw [List.getD_eq_getElem?_getD,List.getElem?_eq_none (by omega)] at this
 cases this
theorem visit_set {st:List Nat × List Bool} (h:Mk p st) (k:Nat):Mk p (visitM p k st)∧(∃ l,(visitM p k st).1=st.1++l)∧∀ q,q ∈ (visitM p k st).1 ↔ q ∈ st.1 ∨ q=k∧k < p.length:=by
 unfold visitM
 by_cases hc:k < p.length∧st.2.getD k false=false
 ·rw [if_pos hc]
  have hk:k ∉ st.1:=fun hm=>by rw [(h.mem k).2 hm] at hc;cases hc.2
  refine ⟨⟨by simp [h.len],fun q=>?_,?_⟩,⟨[k],rfl⟩,fun q=>?_⟩
  ·show (st.2.set k true).getD q false=true ↔ q ∈ st.1++[k]
   rw [List.getD_eq_getElem?_getD,List.getElem?_set,List.mem_append,List.mem_singleton]
   by_cases hq:k=q
   ·subst hq
    rw [if_pos rfl,if_pos (by rw [h.len];exact hc.1)]
    simp
   ·rw [if_neg hq,← List.getD_eq_getElem?_getD,h.mem q]
    constructor
    ·exact .inl
    ·rintro (h1 | h1)
     ·exact h1
     ·exact absurd h1.symm hq
  ·show (st.1++[k]).Nodup
   rw [List.nodup_append]
   exact ⟨h.nd,by simp,fun a ha b hb he=>hk (by rw [List.mem_singleton.1 hb] at he;rw [← he];exact ha)⟩
  ·show q ∈ st.1++[k] ↔ _
   rw [List.mem_append,List.mem_singleton]
   constructor
   ·rintro (h1 | h1)
    ·exact .inl h1
    ·exact .inr ⟨h1,hc.1⟩
   ·rintro (h1 | ⟨h1,_⟩)
    ·exact .inl h1
    ·exact .inr h1
 ·rw [if_neg hc]
  refine ⟨h,⟨[],by simp⟩,fun q=>⟨.inl,?_⟩⟩
  rintro (h1 | ⟨rfl,h2⟩)
  ·exact h1
  ·refine (h.mem q).1 ?_
   cases hg:st.2.getD q false with
   | true=>rfl
   | false=>exact absurd ⟨h2,hg⟩ hc
theorem step_set {st:List Nat × List Bool} (h:Mk p st) (k:Nat):Mk p (stepM p s lines i k st)∧(∃ l,(stepM p s lines i k st).1=st.1++l)∧∀ q,q ∈ (stepM p s lines i k st).1 ↔ q ∈ st.1 ∨ Ep p s lines i k q∧q < p.length:=by
 unfold stepM Ep
 by_cases h2:(inAt p k).op=2
 ·rw [if_pos h2]
  obtain ⟨a1,⟨l1,a2⟩,a3⟩:=visit_set h (inAt p k).x.toNat
  obtain ⟨b1,⟨l2,b2⟩,b3⟩:=visit_set a1 (inAt p k).y.toNat
  refine ⟨b1,⟨l1++l2,by rw [b2,a2,List.append_assoc]⟩,fun q=>?_⟩
  rw [b3,a3]
  constructor
  ·rintro ((h1 | ⟨rfl,h1⟩) | ⟨rfl,h1⟩)
   ·exact .inl h1
   ·exact .inr ⟨.inl ⟨h2,.inl rfl⟩,h1⟩
   ·exact .inr ⟨.inl ⟨h2,.inr rfl⟩,h1⟩
  ·rintro (h1 | ⟨(⟨_,rfl | rfl⟩ | ⟨h3,_⟩ | ⟨h3,_⟩),h1⟩)
   ·exact .inl (.inl h1)
   ·exact .inl (.inr ⟨rfl,h1⟩)
   ·exact .inr ⟨rfl,h1⟩
   ·omega
   ·omega
 rw [if_neg h2]
 by_cases h3:(inAt p k).op=3
 ·rw [if_pos h3]
  obtain ⟨a1,a2,a3⟩:=visit_set h (inAt p k).x.toNat
  refine ⟨a1,a2,fun q=>?_⟩
  rw [a3]
  constructor
  ·rintro (h1 | ⟨rfl,h1⟩)
   ·exact .inl h1
   ·exact .inr ⟨.inr (.inl ⟨h3,rfl⟩),h1⟩
  ·rintro (h1 | ⟨(⟨h4,_⟩ | ⟨_,rfl⟩ | ⟨h4,_⟩),h1⟩)
   ·exact .inl h1
   ·omega
   ·exact .inr ⟨rfl,h1⟩
   ·omega
 rw [if_neg h3]
 by_cases h4:(inAt p k).op=4 ∨ (inAt p k).op=5
 ·rw [if_pos h4]
  by_cases hh:holdsM s lines (inAt p k).op i=true
  ·rw [if_pos hh]
   obtain ⟨a1,a2,a3⟩:=visit_set h (k+1)
   refine ⟨a1,a2,fun q=>?_⟩
   rw [a3]
   constructor
   ·rintro (h1 | ⟨rfl,h1⟩)
    ·exact .inl h1
    ·exact .inr ⟨.inr (.inr ⟨h4,hh,rfl⟩),h1⟩
   ·rintro (h1 | ⟨(⟨h5,_⟩ | ⟨h5,_⟩ | ⟨_,_,rfl⟩),h1⟩)
    ·exact .inl h1
    ·omega
    ·omega
    ·exact .inr ⟨rfl,h1⟩
  ·rw [if_neg hh]
   refine ⟨h,⟨[],by simp⟩,fun q=>⟨.inl,?_⟩⟩
   rintro (h1 | ⟨(⟨h5,_⟩ | ⟨h5,_⟩ | ⟨_,h5,_⟩),h1⟩)
   ·exact h1
   ·omega
   ·omega
   ·exact absurd h5 hh
 ·rw [if_neg h4]
  refine ⟨h,⟨[],by simp⟩,fun q=>⟨.inl,?_⟩⟩
  rintro (h1 | ⟨(⟨h5,_⟩ | ⟨h5,_⟩ | ⟨h5,_⟩),h1⟩)
  ·exact h1
  ·omega
  ·omega
  ·exact absurd h5 h4
theorem nd_len {l:List Nat} {n:Nat} (hn:l.Nodup) (hl:∀ k ∈ l,k < n):l.length≤n:=by
 have:=List.Nodup.length_le_of_subset hn (l₂:=List.range n) (fun k hk=>List.mem_range.2 (hl k hk))
 simpa using this
theorem close_set : ∀ (f n : Nat) (st : List Nat × List Bool) (m : Bool), Mk p st → n ≤ st.1.length → p.length ≤ n + f → (∀ j, j < n → ∀ q, Ep p s lines i (st.1.getD j 0) q → q < p.length → q ∈ st.1) → (m = true ↔ ∃ j, j < n ∧ (inAt p (st.1.getD j 0)).op = 6) →
    (∀ q,q ∈ (closeF p s lines i f n st m).1 ↔ Rc p s lines i (fun k=>k ∈ st.1) q)∧(closeF p s lines i f n st m).1.Nodup∧((closeF p s lines i f n st m).2=true ↔ ∃ q,q ∈ (closeF p s lines i f n st m).1∧(inAt p q).op=6):=by
 -- all of the list is done
 have done : ∀ (n : Nat) (st : List Nat × List Bool) (m : Bool), Mk p st → st.1.length ≤ n → (∀ j, j < n → ∀ q, Ep p s lines i (st.1.getD j 0) q → q < p.length → q ∈ st.1) → (m = true ↔ ∃ j, j < n ∧ (inAt p (st.1.getD j 0)).op = 6) → n ≤ st.1.length →
     (∀ q,q ∈ st.1 ↔ Rc p s lines i (fun k=>k ∈ st.1) q)∧st.1.Nodup∧(m=true ↔ ∃ q,q ∈ st.1∧(inAt p q).op=6):=by
  intro n st m hM hn hc hm hn2
  have hget:∀ q,q ∈ st.1→∃ j,j < n∧st.1.getD j 0=q:=fun q hq=>by
   obtain ⟨j,hj⟩:=List.getElem?_of_mem hq
   have:=(List.getElem?_eq_some_iff.1 hj).1
   exact ⟨j,by omega,by rw [List.getD_eq_getElem?_getD,hj];rfl⟩
  refine ⟨fun q=>⟨.base,fun hq=>?_⟩,hM.nd,?_⟩
  ·induction hq with
   | base h1=>exact h1
   | step _ h2 h3 ih =>
    obtain ⟨j,j1,j2⟩:=hget _ ih
    exact hc j j1 _ (by rw [j2];exact h2) h3
  ·rw [hm]
   constructor
   ·rintro ⟨j,j1,j2⟩
    refine ⟨_,?_,j2⟩
    rw [List.getD_eq_getElem?_getD,List.getElem?_eq_getElem (by omega)]
    exact List.getElem_mem _
   ·rintro ⟨q,q1,q2⟩
    obtain ⟨j,j1,j2⟩:=hget q q1
    exact ⟨j,j1,by rw [j2];exact q2⟩
 intro f
 induction f with
 | zero =>
  intro n st m hM hn hf hc hm
  rw [closeF]
  exact done n st m hM (by have:=nd_len hM.nd (fun k hk=>hM.lt hk);omega) hc hm hn
 | succ f ih =>
  intro n st m hM hn hf hc hm
  rw [closeF]
  by_cases hlt:n < st.1.length
  ·rw [if_pos hlt]
   obtain ⟨a1,⟨l,a2⟩,a3⟩:=step_set (s:=s) (lines:=lines) (i:=i) hM (st.1.getD n 0)
   have hg:∀ j,j < st.1.length→(stepM p s lines i (st.1.getD n 0) st).1.getD j 0=st.1.getD j 0:=fun j hj=>by
    rw [a2,List.getD_eq_getElem?_getD,List.getD_eq_getElem?_getD,List.getElem?_append_left hj]
   obtain ⟨b1,b2,b3⟩:=ih (n+1) (stepM p s lines i (st.1.getD n 0) st) (m || (inAt p (st.1.getD n 0)).op == 6) a1 (by rw [a2,List.length_append];omega) (by omega) (fun j hj q hq hql=>by
    rw [hg j (by omega)] at hq
    rw [a3]
    by_cases hjn:j < n
    ·exact .inl (hc j hjn q hq hql)
    ·have:j=n:=by omega
     subst this
     exact .inr ⟨hq,hql⟩) (by
    rw [Bool.or_eq_true,hm]
    constructor
    ·rintro (⟨j,j1,j2⟩ | h1)
     ·exact ⟨j,by omega,by rw [hg j (by omega)];exact j2⟩
     ·exact ⟨n,by omega,by rw [hg n hlt];simpa using h1⟩
    ·rintro ⟨j,j1,j2⟩
     rw [hg j (by omega)] at j2
     by_cases hjn:j < n
     ·exact .inl ⟨j,hjn,j2⟩
     ·have:j=n:=by omega
      subst this
      exact .inr (by simpa using j2))
   refine ⟨fun q=>?_,b2,b3⟩
   rw [b1 q]
   constructor
   ·intro hq
    induction hq with
    | base h1 =>
     rcases (a3 _).1 h1 with h1 | ⟨h1,h2⟩
     ·exact .base h1
     ·refine .step (.base ?_) h1 h2
      rw [List.getD_eq_getElem?_getD,List.getElem?_eq_getElem hlt]
      exact List.getElem_mem _
    | step _ h2 h3 ih2=>exact .step ih2 h2 h3
   ·exact Rc.mono fun k hk=>(a3 k).2 (.inl hk)
  ·rw [if_neg hlt]
   exact done n st m hM (by omega) hc hm hn
end
end Go.Am
namespace Go.Am
set_option linter.unusedSimpArgs false
set_option linter.unusedVariables false

section
variable {p:List In} {s:List UInt8} {lines:Bool}
theorem sub_one {a b:Nat} (h:a < b):b - a=b - (a+1)+1:=by omega
theorem Rc.empty {i:Nat} {T:Nat→Prop} (h:∀ k,¬ T k) {q:Nat} (hq:Rc p s lines i T q):False:=by
 induction hq with
 | base h1=>exact h _ h1
 | step _ _ _ ih=>exact ih
theorem TS.empty:∀ (n i:Nat) {T:Nat→Prop},(∀ k,¬ T k)→∀ q,¬ TS p s lines n i T q
 | 0,i,T,h,q=>fun hq=>Rc.empty h hq
 | n+1,i,T,h,q=>TS.empty n (i+1) (fun k ⟨m,hm,_⟩=>Rc.empty h hm) q
theorem mark_set {t:List Nat} (hn:t.Nodup) (hl:∀ k ∈ t,k < p.length):Mk p (t,markM p.length t):=by
 have key:∀ (l:List Nat) (sn:List Bool),(∀ k ∈ l,k < sn.length)→∀ q,(l.foldl (fun sn k=>sn.set k true) sn).getD q false=true ↔ sn.getD q false=true ∨ q ∈ l:=by
  intro l
  induction l with
  | nil=>intro sn _ q;simp
  | cons k l ih =>
   intro sn h q
   rw [List.foldl_cons,ih (sn.set k true) (fun x hx=>by rw [List.length_set];exact h x (by simp [hx])) q,List.getD_eq_getElem?_getD,List.getElem?_set]
   by_cases hq:k=q
   ·subst hq
    rw [if_pos rfl,if_pos (h k (by simp))]
    simp
   ·rw [if_neg hq,← List.getD_eq_getElem?_getD,List.mem_cons]
    constructor
    ·rintro (h1 | h1)
     ·exact .inl h1
     ·exact .inr (.inr h1)
    ·rintro (h1 | h1 | h1)
     ·exact .inl h1
     ·exact absurd h1.symm hq
     ·exact .inr h1
 refine ⟨by show (markM p.length t).length=_;unfold markM;rw [markF_len];simp,fun q=>?_,hn⟩
 show (markM p.length t).getD q false=true ↔ q ∈ t
 unfold markM
 rw [key t _ (fun k hk=>by simpa using hl k hk) q]
 have h0:¬ (List.replicate p.length false).getD q false=true:=by
  rw [List.getD_eq_getElem?_getD,List.getElem?_replicate]
  split <;> simp
 constructor
 ·rintro (h1 | h1)
  ·exact absurd h1 h0
  ·exact h1
 ·exact .inr
theorem next_set (c:UInt8) (all:List Nat) (q:Nat):q ∈ nextM p c all ↔ Nx p c (fun k=>k ∈ all) q:=by
 have key:∀ (l:List Nat) (st:List Nat × List Bool),Mk p st→Mk p (l.foldl (nextS p c) st)∧∀ q,q ∈ (l.foldl (nextS p c) st).1 ↔ q ∈ st.1 ∨ Nx p c (fun k=>k ∈ l) q:=by
  intro l
  induction l with
  | nil=>intro st h;exact ⟨h,fun q=>⟨.inl,fun h=>h.elim id fun ⟨k,hk,_⟩=>by cases hk⟩⟩
  | cons k l ih =>
   intro st h
   have hs:Mk p (nextS p c st k)∧∀ q,q ∈ (nextS p c st k).1 ↔ q ∈ st.1 ∨ (inAt p k).op=1∧hasM (inAt p k) c=true∧q=k+1∧q < p.length:=by
    unfold nextS
    by_cases hc:(inAt p k).op=1∧hasM (inAt p k) c=true
    ·rw [if_pos hc]
     obtain ⟨a1,_,a3⟩:=visit_set h (k+1)
     refine ⟨a1,fun q=>?_⟩
     rw [a3]
     constructor
     ·rintro (h1 | ⟨rfl,h1⟩)
      ·exact .inl h1
      ·exact .inr ⟨hc.1,hc.2,rfl,h1⟩
     ·rintro (h1 | ⟨_,_,rfl,h1⟩)
      ·exact .inl h1
      ·exact .inr ⟨rfl,h1⟩
    ·rw [if_neg hc]
     refine ⟨h,fun q=>⟨.inl,?_⟩⟩
     rintro (h1 | ⟨h1,h2,_⟩)
     ·exact h1
     ·exact absurd ⟨h1,h2⟩ hc
   obtain ⟨b1,b2⟩:=ih (nextS p c st k) hs.1
   rw [List.foldl_cons]
   refine ⟨b1,fun q=>?_⟩
   rw [b2,hs.2]
   constructor
   ·rintro ((h1 | ⟨h1,h2,h3,h4⟩) | ⟨m,h1,h2⟩)
    ·exact .inl h1
    ·exact .inr ⟨k,by simp,h1,h2,h3,h4⟩
    ·exact .inr ⟨m,by simp [h1],h2⟩
   ·rintro (h1 | ⟨m,h1,h2,h3,h4⟩)
    ·exact .inl (.inl h1)
    ·rcases List.mem_cons.1 h1 with rfl | h1
     ·exact .inl (.inr ⟨h2,h3,h4⟩)
     ·exact .inr ⟨m,h1,h2,h3,h4⟩
 have:=(key all ([],List.replicate p.length false) ⟨by simp,fun k=>by
  show (List.replicate p.length false).getD k false=true ↔ k ∈ []
  rw [List.getD_eq_getElem?_getD,List.getElem?_replicate]
  split <;> simp,by simp⟩).2 q
 unfold nextM
 rw [this]
 simp
theorem reach_set {lo to : Nat} : ∀ (f i : Nat) (t : List Nat) (out : List Bool), t.Nodup → (∀ k ∈ t, k < p.length) → i ≤ to → lo ≤ i → to - i < f → to - lo < out.length → out.getD (to - lo) false = false →
    ((reachF p s lines false lo to f i t out).getD (to - lo) false=true ↔ ∃ q,TS p s lines (to - i) i (fun k=>k ∈ t) q∧(inAt p q).op=6):=by
 intro f
 induction f with
 | zero=>intro i t out _ _ _ _ h;omega
 | succ f ih =>
  intro i t out hn hl hi hlo hf ho hz
  rw [reachF]
  by_cases ht:t=[]
  ·rw [if_pos ht,hz]
   constructor
   ·intro h;cases h
   ·rintro ⟨q,h1,_⟩
    exact absurd h1 (TS.empty _ _ (fun k hk=>by rw [ht] at hk;cases hk) q)
  rw [if_neg ht]
  obtain ⟨c1,c2,c3⟩:=close_set (p:=p) (s:=s) (lines:=lines) (i:=i) p.length 0 (t,markM p.length t) false (mark_set hn hl) (Nat.zero_le _) (by omega) (fun j hj=>by omega) ⟨(fun h=>by cases h),fun ⟨j,hj,_⟩=>absurd hj (Nat.not_lt_zero j)⟩
  generalize closeF p s lines i p.length 0 (t,markM p.length t) false=r at c1 c2 c3
  by_cases hit:i=to
  ·rw [if_pos hit,List.getD_eq_getElem?_getD]
   subst hit
   rw [List.getElem?_set_self (by omega),Nat.sub_self]
   show r.2=true ↔ _
   rw [c3]
   constructor
   ·rintro ⟨q,q1,q2⟩
    exact ⟨q,(c1 q).1 q1,q2⟩
   ·rintro ⟨q,q1,q2⟩
    exact ⟨q,(c1 q).2 q1,q2⟩
  ·rw [if_neg hit,if_neg (by decide)]
   have hnx:nxt false i=i+1:=by simp [nxt]
   obtain ⟨n1,n2⟩:=next_th (p:=p) (s.getD i 0) r.1
   rw [hnx,ih (i+1) _ _ n1 n2 (by omega) (by omega) (by omega) (by rw [List.length_set];exact ho) (by
    rw [List.getD_eq_getElem?_getD,List.getElem?_set_ne (by omega),← List.getD_eq_getElem?_getD]
    exact hz)]
   have e1:to - i=(to - (i+1))+1:=sub_one (Nat.lt_of_le_of_ne hi hit)
   rw [e1]
   have hc:∀ q,TS p s lines (to - (i+1)) (i+1) (fun k=>k ∈ nextM p (s.getD i 0) r.1) q ↔ TS p s lines ((to - (i+1))+1) i (fun k=>k ∈ t) q:=fun q =>
    TS.congr _ _ (fun k=>by
     rw [next_set]
     exact ⟨fun ⟨m,a,b⟩=>⟨m,(c1 m).1 a,b⟩,fun ⟨m,a,b⟩=>⟨m,(c1 m).2 a,b⟩⟩) q
   constructor
   ·rintro ⟨q,q1,q2⟩
    exact ⟨q,(hc q).1 q1,q2⟩
   ·rintro ⟨q,q1,q2⟩
    exact ⟨q,(hc q).2 q1,q2⟩
end
theorem ends_set (s:List UInt8) (lines:Bool) (e:Rt) {i j:Nat} (hij:i≤j) (hp:0 < (progF e).length):(endsM s lines e i j).getD (j - i) false=true ↔ ∃ q,TS (progF e) s lines (j - i) i (fun k=>k=0) q∧(inAt (progF e) q).op=6:=by
 have e1:min i j=i:=by omega
 have e2:max i j=j:=by omega
 have e3:decide (j < i)=false:=decide_eq_false (by omega)
 unfold endsM reachM
 rw [if_neg (by omega),e1,e2,e3,reach_set (j - i+1) i [0] _ (by simp) (by simpa using hp) hij (Nat.le_refl _) (by omega) (by simp) (by
  rw [List.getD_eq_getElem?_getD,List.getElem?_replicate,if_pos (by omega)];rfl)]
 have hc:∀ q,TS (progF e) s lines (j - i) i (fun k=>k ∈ [0]) q ↔ TS (progF e) s lines (j - i) i (fun k=>k=0) q:=TS.congr _ _ (fun k=>by simp)
 constructor
 ·rintro ⟨q,q1,q2⟩
  exact ⟨q,(hc q).1 q1,q2⟩
 ·rintro ⟨q,q1,q2⟩
  exact ⟨q,(hc q).2 q1,q2⟩
end Go.Am
namespace Go.Am
set_option linter.unusedSimpArgs false
set_option linter.unusedVariables false

def TE (a b:Rt):Prop:=∀ s,treeB a s=treeB b s
inductive TEL:List Rt→List Rt→Prop
 | nil:TEL [] []
 | cons {a b:Rt} {l m:List Rt}:TE a b→TEL l m→TEL (a :: l) (b :: m)
theorem TE.refl (a:Rt):TE a a:=fun _=>rfl
theorem TEL.map {f g:Rt→Rt}:∀ {l:List Rt},(∀ x ∈ l,TE (f x) (g x))→TEL (l.map f) (l.map g)
 | [],_=>.nil
 | a :: l,h=>.cons (h a (by simp)) (TEL.map fun x hx=>h x (by simp [hx]))
theorem TEL.rep {a b:Rt} (h:TE a b):∀ n,TEL (List.replicate n a) (List.replicate n b)
 | 0=>.nil
 | n+1=>.cons h (TEL.rep h n)
theorem TEL.app {l m l' m':List Rt} (h:TEL l m) (h':TEL l' m'):TEL (l++l') (m++m'):=by
 induction h with
 | nil=>exact h'
 | cons h1 _ ih=>exact .cons h1 ih
theorem seq_congr {l m:List Rt} (h:TEL l m):∀ s,seqB l s=seqB m s:=by
 induction h with
 | nil=>intro s;rfl
 | cons h1 _ ih=>intro s;rw [seqB,seqB,h1 s,ih]
theorem head_congr {l m:List Rt} (h:TEL l m):∀ s,headB l s=headB m s:=by
 cases h with
 | nil=>intro s;rfl
 | cons h1 _=>intro s;rw [headB,headB,h1 s]
theorem alt_congr {l m:List Rt} (h:TEL l m):∀ js s,altB l js s=altB m js s:=by
 induction h with
 | nil=>intro js s;rfl
 | cons h1 h2 ih =>
  intro js s
  cases h2 with
  | nil=>rw [altB,altB];simp only [h1 s]
  | cons h3 h4=>rw [altB,altB];simp only [h1 (splitB s),ih]
theorem tree_congr (h:Hd) {l m:List Rt} (hl:TEL l m):TE (.mk h l) (.mk h m):=fun s=>by
 rw [treeB,treeB]
 simp only [alt_congr hl,head_congr hl,seq_congr hl]
theorem counted_congr {x y:Rt} (h:TE x y) (lo hi:Int):TE (countedM x lo hi) (countedM y lo hi):=by
 have h1:∀ lo hi,TE (repM x lo hi) (repM y lo hi):=fun lo hi=>tree_congr _ (.cons h .nil)
 unfold countedM
 split
 ·exact h1 _ _
 split
 ·exact TE.refl _
 split
 ·exact h
 split
 ·exact tree_congr _ (TEL.rep h _)
 split
 ·exact tree_congr _ ((TEL.rep h _).app (.cons (h1 _ _) .nil))
 ·exact tree_congr _ ((TEL.rep h _).app (TEL.rep (h1 _ _) _))
theorem tree_full (e:Rt) {s:Bs} (h:s.2=true):treeB e s=s:=by
 cases e
 rw [treeB,if_pos h]
theorem bare_eq (h:Hd) (args:List Rt):bareM (.mk h args)=if h.op=6 then (args.map bareM).headD (.mk h []) else .mk h (args.map bareM):=by rw [bareM,bareL_eq]
theorem bare_code (e:Rt):shM e=true→TE (expM (bareM e)) (expM e):=by
 induction e using Rt.ind with
 | h hd args ih =>
  intro hsh
  have hargs:=(shM_args hsh).2
  rw [bare_eq]
  by_cases h6:hd.op=6
  ·obtain ⟨x,rfl⟩:=List.length_eq_one_iff.1 (sh_one (shM_args hsh).1 (.inr h6))
   rw [if_pos h6,expM_eq,if_neg (by omega)]
   intro s
   have hx:=ih x (by simp) (hargs x (by simp)) s
   show treeB (expM (bareM x)) s=treeB (.mk hd [expM x]) s
   rw [hx,treeB]
   by_cases hs:s.2=true
   ·rw [if_pos hs,tree_full _ hs]
   ·rw [if_neg hs,if_neg (by omega),if_neg (by omega),if_neg (by omega),if_neg (by omega),if_neg (by omega),seqB,seqB]
  ·rw [if_neg h6,expM_eq,expM_eq]
   by_cases h5:hd.op=5
   ·obtain ⟨x,rfl⟩:=List.length_eq_one_iff.1 (sh_one (shM_args hsh).1 (.inl h5))
    rw [if_pos h5,if_pos h5]
    split
    ·exact TE.refl _
    ·exact counted_congr (ih x (by simp) (hargs x (by simp))) _ _
   ·rw [if_neg h5,if_neg h5,List.map_map]
    exact tree_congr _ (TEL.map fun x hx=>ih x hx (hargs x hx))
theorem sh_bare (e:Rt):shM e=true→shM (bareM e)=true:=by
 induction e using Rt.ind with
 | h hd args ih =>
  intro hsh
  have hargs:=(shM_args hsh).2
  rw [bare_eq]
  by_cases h6:hd.op=6
  ·obtain ⟨x,rfl⟩:=List.length_eq_one_iff.1 (sh_one (shM_args hsh).1 (.inr h6))
   rw [if_pos h6]
   exact ih x (by simp) (hargs x (by simp))
  ·rw [if_neg h6]
   have h1:shL (args.map bareM)=true:=by
    have:∀ l:List Rt,(∀ x ∈ l,shM (bareM x)=true)→shL (l.map bareM)=true:=by
     intro l
     induction l with
     | nil=>intro _;rfl
     | cons a l ihl=>intro h;rw [List.map_cons,shL,h a (by simp),ihl fun x hx=>h x (by simp [hx])];rfl
    exact this args fun x hx=>ih x hx (hargs x hx)
   rw [shM,Bool.and_eq_true] at hsh
   rw [shM,List.length_map,hsh.1,h1]
   rfl
theorem rp_bare (e:Rt):shM e=true→rpM e=true→rpM (bareM e)=true:=by
 induction e using Rt.ind with
 | h hd args ih =>
  intro hsh hrp
  have hargs:=(shM_args hsh).2
  rw [rpM_eq,Bool.and_eq_true] at hrp
  rw [bare_eq]
  by_cases h6:hd.op=6
  ·obtain ⟨x,rfl⟩:=List.length_eq_one_iff.1 (sh_one (shM_args hsh).1 (.inr h6))
   rw [if_pos h6]
   exact ih x (by simp) (hargs x (by simp)) (rpL_mem hrp.2 x (by simp))
  ·rw [if_neg h6]
   have:∀ l:List Rt,(∀ x ∈ l,rpM (bareM x)=true)→rpL (l.map bareM)=true:=by
    intro l
    induction l with
    | nil=>intro _;rfl
    | cons a l ihl=>intro h;rw [List.map_cons,rpL_cons,h a (by simp),ihl fun x hx=>h x (by simp [hx])];rfl
   rw [rpM_eq,hrp.1,this args fun x hx=>ih x hx (hargs x hx) (rpL_mem hrp.2 x hx)]
   rfl
theorem cnt_bare (e:Rt):shM e=true→cntM 6 (bareM e)=0∧cntM 9 (bareM e)≤cntM 9 e:=by
 induction e using Rt.ind with
 | h hd args ih =>
  intro hsh
  have hargs:=(shM_args hsh).2
  rw [bare_eq]
  by_cases h6:hd.op=6
  ·obtain ⟨x,rfl⟩:=List.length_eq_one_iff.1 (sh_one (shM_args hsh).1 (.inr h6))
   rw [if_pos h6]
   have h1:=ih x (by simp) (hargs x (by simp))
   refine ⟨h1.1,?_⟩
   rw [cntM_eq,cntL_cons,cntL_nil]
   show cntM 9 (bareM x)≤_
   have:=h1.2
   omega
  ·rw [if_neg h6]
   have:∀ l:List Rt,(∀ x ∈ l,cntM 6 (bareM x)=0∧cntM 9 (bareM x)≤cntM 9 x)→cntL 6 (l.map bareM)=0∧cntL 9 (l.map bareM)≤cntL 9 l:=by
    intro l
    induction l with
    | nil=>intro _;rw [List.map_nil,cntL_nil,cntL_nil];exact ⟨rfl,Nat.le_refl _⟩
    | cons a l ihl =>
     intro h
     have h1:=h a (by simp)
     have h2:=ihl fun x hx=>h x (by simp [hx])
     rw [List.map_cons,cntL_cons,cntL_cons,cntL_cons]
     omega
   have h1:=this args fun x hx=>ih x hx (hargs x hx)
   rw [cntM_eq,cntM_eq,cntM_eq,if_neg (by omega)]
   omega
theorem node_plain (e:Rt):cntM 6 e=0→cntM 9 e=0→rpM e=true→∀ c,(nodeM e c).1.bd=c.bd∧(nodeM e c).1.nm=c.nm:=by
 induction e using Rt.ind with
 | h hd args ih =>
  intro c6 c9 hrp c
  have key:∀ (l:List Rt),(∀ e ∈ l,cntM 6 e=0→cntM 9 e=0→rpM e=true→∀ c,(nodeM e c).1.bd=c.bd∧(nodeM e c).1.nm=c.nm)→cntL 6 l=0→cntL 9 l=0→rpL l=true→∀ c m,(nodesM l c m).1.bd=c.bd∧(nodesM l c m).1.nm=c.nm:=by
   intro l
   induction l with
   | nil=>intro _ _ _ _ c m;rw [nodesM_nil];exact ⟨rfl,rfl⟩
   | cons e l ihl =>
    intro h a6 a9 ar c m
    rw [cntL_cons] at a6 a9
    rw [rpL_cons,Bool.and_eq_true] at ar
    obtain ⟨h1,h2⟩:=h e (by simp) (by omega) (by omega) ar.1 c
    obtain ⟨h3,h4⟩:=ihl (fun x hx=>h x (by simp [hx])) (by omega) (by omega) ar.2 (nodeM e c).1 (max m (nodeM e c).2)
    rw [nodesM_cons,h3,h4,h1,h2]
    exact ⟨rfl,rfl⟩
  rw [cntM_eq] at c6 c9
  rw [rpM_eq,Bool.and_eq_true] at hrp
  have n6:hd.op ≠ 6:=fun h=>by rw [if_pos (.inr h)] at c6;omega
  have n9:hd.op ≠ 9:=fun h=>by rw [if_pos (.inr h)] at c9;omega
  obtain ⟨k1,k2⟩:=key args ih (by omega) (by omega) hrp.2 (ckHead hd args.length c) 0
  have hh:(ckHead hd args.length c).bd=c.bd∧(ckHead hd args.length c).nm=c.nm:=by
   unfold ckHead ckOp
   by_cases h5:hd.op=5
   ·rw [if_pos h5]
    have hb:badR hd=false:=by
     have:=hrp.1
     unfold rpH at this
     simpa [h5] using this
    exact ⟨by simp [hb],rfl⟩
   ·rw [if_neg h5,if_neg n6,if_neg n9]
    exact ⟨rfl,rfl⟩
  rw [nodeM_eq]
  unfold ckEnd
  rw [if_neg (fun h=>n6 h.1)]
  exact ⟨k1.trans hh.1,k2.trans hh.2⟩
end Go.Am
namespace Go.Am
set_option linter.unusedSimpArgs false
set_option linter.unusedVariables false

theorem weightM_mono {n m lo hi:Int} (h0:0≤n) (h:n≤m) (hl:0≤lo∧lo≤64∧(hi=-1 ∨ lo≤hi∧hi≤64)):weightM n lo hi≤weightM m lo hi:=by
 obtain ⟨l1,l2,l3⟩:=hl
 have m1:lo * n≤lo * m:=Int.mul_le_mul_of_nonneg_left h l1
 unfold weightM
 by_cases c1:simpleR lo hi
 ·rw [if_pos c1,if_pos c1];omega
 rw [if_neg c1,if_neg c1]
 by_cases c2:hi=0
 ·rw [if_pos c2,if_pos c2];exact Int.le_refl _
 rw [if_neg c2,if_neg c2]
 by_cases c3:lo=1∧hi=1
 ·rw [if_pos c3,if_pos c3];exact h
 rw [if_neg c3,if_neg c3]
 by_cases c4:hi=lo
 ·rw [if_pos c4,if_pos c4];omega
 rw [if_neg c4,if_neg c4]
 by_cases c5:hi=-1
 ·rw [if_pos c5,if_pos c5];omega
 rw [if_neg c5,if_neg c5]
 have m2:(hi - lo) * (n+1)≤(hi - lo) * (m+1):=Int.mul_le_mul_of_nonneg_left (by omega) (by omega)
 omega
theorem weighL_mono:∀ (l m:List Rt),l.length=m.length→(∀ (i:Nat) (a b:Rt),l[i]?=some a→m[i]?=some b→weighM a≤weighM b)→∀ n k,n≤k→weighL l n≤weighL m k
 | [],[],_,_,n,k,h=>by rw [weighL_nil,weighL_nil];exact h
 | [],_ :: _,h,_,_,_,_=>by simp at h
 | _ :: _,[],h,_,_,_,_=>by simp at h
 | a :: l,b :: m,hl,h,n,k,hnk=>by
  rw [weighL_cons,weighL_cons]
  have:=h 0 a b rfl rfl
  exact weighL_mono l m (by simpa using hl) (fun i x y hx hy=>h (i+1) x y hx hy) _ _ (by omega)
theorem weigh_bare (e:Rt):shM e=true→rpM e=true→weighM (bareM e)≤weighM e:=by
 induction e using Rt.ind with
 | h hd args ih =>
  intro hsh hrp0
  have hargs:=(shM_args hsh).2
  have hrp:=hrp0
  rw [rpM_eq,Bool.and_eq_true] at hrp
  have hbd:=weigh_bd _ hrp0
  have hb2:=weigh_bd _ (rp_bare _ hsh hrp0)
  rw [bare_eq] at hb2 ⊢
  by_cases h6:hd.op=6
  ·obtain ⟨x,rfl⟩:=List.length_eq_one_iff.1 (sh_one (shM_args hsh).1 (.inr h6))
   rw [if_pos h6] at hb2 ⊢
   have h1:=ih x (by simp) (hargs x (by simp)) (rpL_mem hrp.2 x (by simp))
   have h2:=weigh_bd x (rpL_mem hrp.2 x (by simp))
   rw [weighM_eq,if_neg (by omega),weighL_cons,weighL_nil]
   show weighM (bareM x)≤_
   have:weighM (bareM x)≤hugeN:=hb2.2
   omega
  ·rw [if_neg h6] at hb2 ⊢
   have hL:weighL (args.map bareM) 0≤weighL args 0:=weighL_mono _ _ (by simp) (fun i a b ha hb=>by
    rw [List.getElem?_map,Option.map_eq_some_iff] at ha
    obtain ⟨c,hc,rfl⟩:=ha
    rw [hc] at hb
    injection hb with hb
    subst hb
    have hm:=List.mem_of_getElem? hc
    exact ih c hm (hargs c hm) (rpL_mem hrp.2 c hm)) 0 0 (Int.le_refl _)
   have h0:0≤weighL (args.map bareM) 0:=(weighL_bd _ (fun y hy=>by
    obtain ⟨c,hc,rfl⟩:=List.mem_map.1 hy
    exact weigh_bd _ (rp_bare _ (hargs c hc) (rpL_mem hrp.2 c hc))) 0 (Int.le_refl _) (by unfold hugeN;omega)).1
   rw [weighM_eq,weighM_eq]
   by_cases h5:hd.op=5
   ·rw [if_pos h5,if_pos h5]
    have:=weightM_mono h0 hL (rp_bounds hrp.1 h5)
    omega
   ·rw [if_neg h5,if_neg h5]
    omega
theorem check_zero {e:Rt} (h1:shM e=true) (h2:rpM e=true) (h3:siz e≤600) (h4:dep e≤32) (h6:cntM 6 e=0) (h9:cntM 9 e=0):checkM e=0:=by
 have a1:=(node_flags e ck0S).1
 obtain ⟨a2,a3⟩:=node_plain e h6 h9 h2 ck0S
 have a4:=(node_num e ck0S).1
 have c1:ck0S.sh=false:=rfl
 have c2:ck0S.bd=false:=rfl
 have c3:ck0S.nm=false:=rfl
 have c4:ck0S.groups=0:=rfl
 rw [c1,h1] at a1
 rw [c2] at a2
 rw [c3] at a3
 rw [c4,h6] at a4
 unfold checkM
 rw [a1,a2,a3,a4]
 simp only [Bool.not_true,Bool.or_self,Bool.false_eq_true,if_false]
 rw [if_neg (by omega)]
theorem prog_bare {e:Rt} (h:(compM e).2=0):progF e=(compM e).1:=by
 have hz:=comp_zero h
 obtain ⟨h1,h2,h3,h4,_,_⟩:=check_ok hz
 unfold compM at h
 rw [if_neg (by simpa using hz)] at h
 by_cases c9:0 < cntM 9 e
 ·rw [if_pos c9] at h;simp at h
 rw [if_neg c9] at h
 by_cases cw:4096 < weighM e
 ·rw [if_pos cw] at h;simp at h
 rw [if_neg cw] at h
 by_cases cp:(progR e).2=true
 ·rw [if_pos cp] at h;simp at h
 have hb:=cnt_bare e h1
 have hck:checkM (bareM e)=0:=check_zero (sh_bare e h1) (rp_bare e h1 h2) (Nat.le_trans (siz_bare e) h3) (Nat.le_trans (dep_bare e) h4) hb.1 (by omega)
 have hwb:=weigh_bare e h1 h2
 have hpr:progR (bareM e)=progR e:=by
  unfold progR
  rw [bare_code e h1]
 unfold progF compM
 rw [if_neg (by simpa using hck),if_neg (by omega),if_neg (by omega),hpr,if_neg cp,if_neg (by simpa using hz),if_neg c9,if_neg cw]
end Go.Am
namespace Go.Am
set_option linter.unusedSimpArgs false
set_option linter.unusedVariables false

def Bj (c:List In):Prop:=∀ i ∈ c,i.x≤(c.length:Int)∧i.y≤(c.length:Int)
theorem Bj.add {i:In} {s:Bs} (h:Bj s.1) (hx:i.x≤((addB i s).1.length:Int)) (hy:i.y≤((addB i s).1.length:Int)):Bj (addB i s).1:=by
 have hl:=addB_len i s
 intro j hj
 have hj2:j ∈ s.1 ∨ j=i:=by
  unfold addB at hj
  split at hj
  ·exact .inl hj
  ·simpa using hj
 rcases hj2 with hj2 | rfl
 ·have:=h j hj2
  omega
 ·exact ⟨hx,hy⟩
theorem Bj.setX {c:List In} (h:Bj c) (k n:Nat) (hn:n≤c.length):Bj (Go.Am.setX c k (n:Int)):=by
 intro i hi
 rw [setX_len]
 rcases modify_mem hi with hi | ⟨b,h1,rfl⟩
 ·exact h i hi
 ·have:=h b h1
  exact ⟨by show (n:Int)≤_;omega,this.2⟩
theorem Bj.setY {c:List In} (h:Bj c) (k n:Nat) (hn:n≤c.length):Bj (Go.Am.setY c k (n:Int)):=by
 intro i hi
 rw [setY_len]
 rcases modify_mem hi with hi | ⟨b,h1,rfl⟩
 ·exact h i hi
 ·have:=h b h1
  exact ⟨this.1,by show (n:Int)≤_;omega⟩
theorem opI_z (n:Int):(opI n).x=0∧(opI n).y=0:=⟨rfl,rfl⟩
theorem Bj.op {s:Bs} (h:Bj s.1) (n:Int):Bj (addB (opI n) s).1:=h.add (by rw [(opI_z n).1];omega) (by rw [(opI_z n).2];omega)
theorem Bj.split {s:Bs} (h:Bj s.1):Bj (splitB s).1:=(h.op 2).setX _ _ (addK_lt (opI 2) s)
theorem Bj.patch:∀ (l:List Nat) {c:List In},Bj c→Bj (patchB l c)
 | [],_,h=>h
 | k :: l,c,h=>Bj.patch l (h.setX k c.length (Nat.le_refl _))
theorem addK_le (s:Bs):addK s≤s.1.length:=by unfold addK;split <;> omega
theorem tree_bj (e:Rt):∀ s:Bs,Bj s.1→Bj (treeB e s).1:=by
 induction e using Rt.ind with
 | h hd args ih =>
  have hhead:∀ s:Bs,Bj s.1→Bj (headB args s).1∧s.1.length≤(headB args s).1.length:=by
   intro s h
   cases args with
   | nil=>rw [headB];exact ⟨h,Nat.le_refl _⟩
   | cons e l=>rw [headB_cons];exact ⟨ih e (by simp) s h,treeB_len e s⟩
  have hseq:∀ (l:List Rt),(∀ e ∈ l,∀ s:Bs,Bj s.1→Bj (treeB e s).1)→∀ s:Bs,Bj s.1→Bj (seqB l s).1:=by
   intro l
   induction l with
   | nil=>intro _ s h;rw [seqB_nil];exact h
   | cons e l ihl=>intro h s hs;rw [seqB_cons];exact ihl (fun x hx=>h x (by simp [hx])) _ (h e (by simp) s hs)
  have halt:∀ (l:List Rt),(∀ e ∈ l,∀ s:Bs,Bj s.1→Bj (treeB e s).1)→∀ (js:List Nat) (s:Bs),Bj s.1→Bj (altB l js s).1:=by
   intro l
   induction l with
   | nil=>intro _ js s h;rw [altB_nil];exact h.patch js
   | cons e l ihl =>
    intro h js s hs
    cases l with
    | nil=>rw [altB_one];exact (h e (by simp) s hs).patch js
    | cons f m =>
     rw [altB_cons]
     exact ihl (fun x hx=>h x (by simp [hx])) _ _ (((h e (by simp) _ hs.split).op 3).setY _ _ (Nat.le_refl _))
  intro s hs
  rw [treeB_eq]
  split
  ·exact hs
  split
  ·exact hs.add (by show (0:Int)≤_;omega) (by show (0:Int)≤_;omega)
  split
  ·exact hs.op 4
  split
  ·exact hs.op 5
  split
  ·exact halt args ih _ _ hs
  split
  ·split
   ·obtain ⟨h1,h2⟩:=hhead s hs
    have hl:=addB_len { opI 2 with x:=(s.1.length:Int) } (headB args s)
    have hk:=addK_lt { opI 2 with x:=(s.1.length:Int) } (headB args s)
    exact (h1.add (i:={ opI 2 with x:=(s.1.length:Int) }) (by show (s.1.length:Int)≤_;omega) (by show (0:Int)≤_;omega)).setY _ (addK (headB args s)+1) (by omega)
   ·obtain ⟨h1,h2⟩:=hhead _ hs.split
    have hsp:=splitB_len s
    have hkl:=addK_le s
    refine Bj.setY ?_ _ _ (Nat.le_refl _)
    split
    ·have hl:=addB_len { opI 3 with x:=(addK s:Int) } (headB args (splitB s))
     exact h1.add (i:={ opI 3 with x:=(addK s:Int) }) (by show (addK s:Int)≤_;omega) (by show (0:Int)≤_;omega)
    ·exact h1
  ·exact hseq args ih s hs
structure OkP (p:List In):Prop where
 pos:0 < p.length
 le:p.length≤4096
 last:(inAt p (p.length - 1)).op=6
 only:∀ k,(inAt p k).op=6→k=p.length - 1
 ops:∀ k,k+1 < p.length→(inAt p k).op=1 ∨ (inAt p k).op=2 ∨ (inAt p k).op=3 ∨ (inAt p k).op=4 ∨ (inAt p k).op=5
 x:∀ k,k < p.length→0≤(inAt p k).x∧(inAt p k).x < (p.length:Int)
 y:∀ k,k < p.length→0≤(inAt p k).y∧(inAt p k).y < (p.length:Int)
theorem comp_okP {e:Rt} (h:(compM e).2=0):OkP (compM e).1:=by
 have hne:(compM e).1=(progR e).1∧¬ (progR e).2=true:=by
  unfold compM at h ⊢
  split at h
  ·rename_i h1
   exact absurd h h1
  ·rename_i h1
   split at h
   ·simp at h
   ·rename_i h2
    split at h
    ·simp at h
    ·rename_i h3
     split at h
     ·simp at h
     ·rename_i h4
      rw [if_neg h1,if_neg h2,if_neg h3,if_neg h4]
      exact ⟨rfl,h4⟩
 rw [hne.1]
 have hg:=tree_gl (anch:=true) (expM e) (.inl rfl) ([],false) (by intro i hi;simp at hi)
 have hb:=tree_bj (expM e) ([],false) (by intro i hi;simp at hi)
 have hov:=hne.2
 obtain ⟨c,hc⟩:∃ c,c=(treeB (expM e) ([],false)).1:=⟨_,rfl⟩
 have hp:(progR e).1=c++[opI 6]∧c.length+1≤4096:=by
  unfold progR addB at hov ⊢
  rw [← hc] at hov ⊢
  by_cases h4:4096≤c.length
  ·rw [if_pos h4] at hov
   exact absurd rfl hov
  ·rw [if_neg h4]
   exact ⟨rfl,by omega⟩
 rw [← hc] at hg hb
 rw [hp.1]
 have hlen:(c++[opI 6]).length=c.length+1:=by simp
 have hlt:∀ k,k < c.length→∃ i,i ∈ c∧inAt (c++[opI 6]) k=i:=fun k hk=>⟨c[k],List.getElem_mem hk,by
  unfold inAt
  rw [List.getD_eq_getElem?_getD,List.getElem?_append_left hk,List.getElem?_eq_getElem hk];rfl⟩
 have hla:inAt (c++[opI 6]) c.length=opI 6:=by
  unfold inAt
  rw [List.getD_eq_getElem?_getD,List.getElem?_append_right (Nat.le_refl _),Nat.sub_self];rfl
 have hou:∀ k,c.length < k→inAt (c++[opI 6]) k=opI 0:=fun k hk=>by
  unfold inAt
  rw [List.getD_eq_getElem?_getD,List.getElem?_eq_none (by rw [hlen];omega)];rfl
 have hge:∀ k,k < c.length+1→(0≤(inAt (c++[opI 6]) k).x∧(inAt (c++[opI 6]) k).x < ((c.length+1:Nat):Int))∧0≤(inAt (c++[opI 6]) k).y∧(inAt (c++[opI 6]) k).y < ((c.length+1:Nat):Int):=fun k hk=>by
  by_cases hkc:k < c.length
  ·obtain ⟨i,hi,he⟩:=hlt k hkc
   rw [he]
   obtain ⟨a1,a2,_⟩:=hg i hi
   obtain ⟨b1,b2⟩:=hb i hi
   omega
  ·have:k=c.length:=by omega
   rw [this,hla]
   exact ⟨⟨Int.le_refl 0,by show (0:Int) < _;omega⟩,Int.le_refl 0,by show (0:Int) < _;omega⟩
 refine ⟨by rw [hlen];omega,by rw [hlen];exact hp.2,by rw [hlen];show (inAt _ c.length).op=6;rw [hla];rfl,fun k hk=>?_,fun k hk=>?_,fun k hk=>?_,fun k hk=>?_⟩
 ·rw [hlen]
  show k=c.length
  rcases Nat.lt_trichotomy k c.length with hkc | hkc | hkc
  ·obtain ⟨i,hi,he⟩:=hlt k hkc
   rw [he] at hk
   have:=(hg i hi).2.2
   omega
  ·exact hkc
  ·rw [hou k hkc] at hk
   exact absurd hk (by decide)
 ·rw [hlen] at hk
  obtain ⟨i,hi,he⟩:=hlt k (by omega)
  rw [he]
  have:=(hg i hi).2.2
  omega
 ·rw [hlen] at hk ⊢
  exact (hge k hk).1
 ·rw [hlen] at hk ⊢
  exact (hge k hk).2
end Go.Am
namespace Go.Am
set_option linter.unusedSimpArgs false
set_option linter.unusedVariables false

def pushL (p:List In) (s:List UInt8) (lines:Bool) (i k:Nat):List Nat :=
 if (inAt p k).op=3 then [(inAt p k).x.toNat] else if (inAt p k).op=2 then [(inAt p k).x.toNat,(inAt p k).y.toNat]
 else if (inAt p k).op=4 ∨ (inAt p k).op=5 then (if holdsM s lines (inAt p k).op i=true then [k+1] else []) else []
def leafB (p:List In) (k:Nat):Bool:=!((inAt p k).op == 3 || (inAt p k).op == 2 || (inAt p k).op == 4 || (inAt p k).op == 5)
def dfs (p:List In) (s:List UInt8) (lines:Bool) (i:Nat):Nat→List Nat→List Bool→List Nat→List Bool × List Nat
 | 0,_,mk,acc=>(mk,acc)
 | _+1,[],mk,acc=>(mk,acc)
 | f+1,k :: t,mk,acc=>if mk.getD k false=true then dfs p s lines i f t mk acc else dfs p s lines i f (pushL p s lines i k++t) (mk.set k true) (if leafB p k=true then acc++[k] else acc)
section
variable {p:List In} {s:List UInt8} {lines:Bool} {i:Nat}
theorem push_ep (hp:OkP p) {k:Nat} (hk:k < p.length) (m:Nat):m ∈ pushL p s lines i k ↔ Ep p s lines i k m:=by
 unfold pushL Ep
 by_cases h3:(inAt p k).op=3
 ·rw [if_pos h3,List.mem_singleton]
  constructor
  ·intro h;exact .inr (.inl ⟨h3,h⟩)
  ·rintro (⟨h,_⟩ | ⟨_,h⟩ | ⟨h,_⟩)
   ·omega
   ·exact h
   ·omega
 rw [if_neg h3]
 by_cases h2:(inAt p k).op=2
 ·rw [if_pos h2]
  constructor
  ·intro h
   simp at h
   exact .inl ⟨h2,h⟩
  ·rintro (⟨_,h⟩ | ⟨h,_⟩ | ⟨h,_⟩)
   ·simpa using h
   ·omega
   ·omega
 rw [if_neg h2]
 by_cases h4:(inAt p k).op=4 ∨ (inAt p k).op=5
 ·rw [if_pos h4]
  by_cases hh:holdsM s lines (inAt p k).op i=true
  ·rw [if_pos hh,List.mem_singleton]
   constructor
   ·intro h;exact .inr (.inr ⟨h4,hh,h⟩)
   ·rintro (⟨h,_⟩ | ⟨h,_⟩ | ⟨_,_,h⟩)
    ·omega
    ·omega
    ·exact h
  ·rw [if_neg hh]
   constructor
   ·intro h;cases h
   ·rintro (⟨h,_⟩ | ⟨h,_⟩ | ⟨_,h,_⟩)
    ·omega
    ·omega
    ·exact absurd h hh
 ·rw [if_neg h4]
  constructor
  ·intro h;cases h
  ·rintro (⟨h,_⟩ | ⟨h,_⟩ | ⟨h,_⟩)
   ·omega
   ·omega
   ·exact absurd h h4
theorem ep_lt (hp:OkP p) {k m:Nat} (hk:k < p.length) (h:Ep p s lines i k m):m < p.length:=by
 have hx:=hp.x k hk
 have hy:=hp.y k hk
 rcases h with ⟨_,rfl | rfl⟩ | ⟨_,rfl⟩ | ⟨h4,_,rfl⟩
 ·omega
 ·omega
 ·omega
 ·have hl:=hp.last
  apply Decidable.byContradiction
  intro hn
  have:k=p.length - 1:=by omega
  rw [this] at h4
  omega
theorem push_len (k:Nat):(pushL p s lines i k).length≤2:=by
 unfold pushL
 split
 ·simp
 split
 ·simp
 split
 ·split <;> simp
 ·simp
structure DI (p:List In) (s:List UInt8) (lines:Bool) (i:Nat) (t:List Nat) (mk:List Bool) (acc:List Nat):Prop where
 st:∀ k ∈ t,k < p.length
 mlt:∀ k,mk.getD k false=true→k < p.length
 len:p.length≤mk.length
 nd:acc.Nodup
 acc:∀ k,k ∈ acc ↔ mk.getD k false=true∧leafB p k=true
 ep:∀ k m,mk.getD k false=true→Ep p s lines i k m→mk.getD m false=true ∨ m ∈ t
theorem dfs_set (hp : OkP p) : ∀ (f : Nat) (t : List Nat) (mk : List Bool) (acc : List Nat), DI p s lines i t mk acc → 2 * mk.count false + t.length ≤ f →
    (∀ q,(dfs p s lines i f t mk acc).1.getD q false=true ↔ Rc p s lines i (fun k=>mk.getD k false=true ∨ k ∈ t) q)∧DI p s lines i [] (dfs p s lines i f t mk acc).1 (dfs p s lines i f t mk acc).2∧(dfs p s lines i f t mk acc).1.length=mk.length:=by
 have nil:∀ (mk:List Bool) (acc:List Nat),DI p s lines i [] mk acc→(∀ q,mk.getD q false=true ↔ Rc p s lines i (fun k=>mk.getD k false=true ∨ k ∈ []) q)∧DI p s lines i [] mk acc∧mk.length=mk.length:=fun mk acc h=>by
  refine ⟨fun q=>⟨fun hq=>.base (.inl hq),fun hq=>?_⟩,h,rfl⟩
  induction hq with
  | base h1=>exact h1.elim id (fun h=>by cases h)
  | step _ h2 _ ih=>exact (h.ep _ _ ih h2).elim id (fun h=>by cases h)
 intro f
 induction f with
 | zero =>
  intro t mk acc h hf
  have ht:t=[]:=List.length_eq_zero_iff.1 (by omega)
  subst ht
  rw [dfs]
  exact nil mk acc h
 | succ f ih =>
  intro t mk acc h hf
  cases t with
  | nil=>rw [dfs];exact nil mk acc h
  | cons k t =>
   rw [List.length_cons] at hf
   have hkp:=h.st k (by simp)
   rw [dfs]
   by_cases hk:mk.getD k false=true
   ·rw [if_pos hk]
    obtain ⟨a1,a2⟩:=ih t mk acc ⟨fun x hx=>h.st x (by simp [hx]),h.mlt,h.len,h.nd,h.acc,fun a m ha hm=>by
     rcases h.ep a m ha hm with h1 | h1
     ·exact .inl h1
     ·rcases List.mem_cons.1 h1 with rfl | h1
      ·exact .inl hk
      ·exact .inr h1⟩ (by omega)
    refine ⟨fun q=>(a1 q).trans ⟨Rc.mono fun x hx=>hx.imp id (fun hx=>by simp [hx]),Rc.mono fun x hx=>?_⟩,a2⟩
    rcases hx with hx | hx
    ·exact .inl hx
    ·rcases List.mem_cons.1 hx with rfl | hx
     ·exact .inl hk
     ·exact .inr hx
   ·rw [if_neg hk]
    have hkl:k < mk.length:=Nat.lt_of_lt_of_le hkp h.len
    have hkf:mk.getD k false=false:=by
     cases hg:mk.getD k false with
     | false=>rfl
     | true=>exact absurd hg hk
    have hcnt:=count_set hkl hkf
    have hset:∀ q,(mk.set k true).getD q false=true ↔ mk.getD q false=true ∨ q=k:=fun q=>by
     rw [List.getD_eq_getElem?_getD,List.getElem?_set]
     by_cases hq:k=q
     ·subst hq
      rw [if_pos rfl,if_pos hkl]
      simp
     ·rw [if_neg hq,← List.getD_eq_getElem?_getD]
      exact ⟨.inl,fun h=>h.elim id fun h=>absurd h.symm hq⟩
    have hpl:=push_len (p:=p) (s:=s) (lines:=lines) (i:=i) k
    have hDI:DI p s lines i (pushL p s lines i k++t) (mk.set k true) (if leafB p k=true then acc++[k] else acc):=by
     refine ⟨fun x hx=>?_,fun x hx=>?_,by rw [List.length_set];exact h.len,?_,fun x=>?_,fun a m ha hm=>?_⟩
     ·rcases List.mem_append.1 hx with hx | hx
      ·exact ep_lt hp hkp ((push_ep hp hkp x).1 hx)
      ·exact h.st x (by simp [hx])
     ·rcases (hset x).1 hx with hx | rfl
      ·exact h.mlt x hx
      ·exact hkp
     ·split
      ·rw [List.nodup_append]
       refine ⟨h.nd,by simp,fun a ha b hb he=>?_⟩
       rw [List.mem_singleton.1 hb] at he
       rw [he] at ha
       exact hk ((h.acc k).1 ha).1
      ·exact h.nd
     ·rw [hset]
      by_cases hl:leafB p k=true
      ·rw [if_pos hl,List.mem_append,List.mem_singleton,h.acc x]
       constructor
       ·rintro (⟨h1,h2⟩ | rfl)
        ·exact ⟨.inl h1,h2⟩
        ·exact ⟨.inr rfl,hl⟩
       ·rintro ⟨h1 | rfl,h2⟩
        ·exact .inl ⟨h1,h2⟩
        ·exact .inr rfl
      ·rw [if_neg hl,h.acc x]
       constructor
       ·rintro ⟨h1,h2⟩
        exact ⟨.inl h1,h2⟩
       ·rintro ⟨h1 | rfl,h2⟩
        ·exact ⟨h1,h2⟩
        ·exact absurd h2 hl
     ·rw [hset]
      rcases (hset a).1 ha with ha | rfl
      ·rcases h.ep a m ha hm with h1 | h1
       ·exact .inl (.inl h1)
       ·rcases List.mem_cons.1 h1 with rfl | h1
        ·exact .inl (.inr rfl)
        ·exact .inr (by simp [h1])
      ·exact .inr (List.mem_append.2 (.inl ((push_ep hp hkp m).2 hm)))
    obtain ⟨a1,a2,a3⟩:=ih _ _ _ hDI (by rw [List.length_append];omega)
    refine ⟨fun q=>(a1 q).trans ⟨fun hq=>?_,Rc.mono fun x hx=>?_⟩,a2,by rw [a3,List.length_set]⟩
    ·induction hq with
     | @base x hx =>
      rcases hx with hx | hx
      ·rcases (hset x).1 hx with hx | rfl
       ·exact .base (.inl hx)
       ·exact .base (.inr (by simp))
      ·rcases List.mem_append.1 hx with hx | hx
       ·have he:=(push_ep hp hkp x).1 hx
        exact .step (.base (.inr (by simp))) he (ep_lt hp hkp he)
       ·exact .base (.inr (by simp [hx]))
     | step _ h2 h3 ih2=>exact .step ih2 h2 h3
    ·rcases hx with hx | hx
     ·exact .inl ((hset x).2 (.inl hx))
     ·rcases List.mem_cons.1 hx with rfl | hx
      ·exact .inl ((hset x).2 (.inr rfl))
      ·exact .inr (by simp [hx])
end
end Go.Am
namespace Go.Am
set_option linter.unusedSimpArgs false
set_option linter.unusedVariables false

def stepD (p:List In) (s:List UInt8) (lines:Bool) (i:Nat) (st:List Bool × List Nat) (k:Nat):List Bool × List Nat :=
 if (inAt p k).op=1∧hasM (inAt p k) (s.getD i 0)=true then dfs p s lines (i+1) 8193 [k+1] st.1 st.2 else st
def nextD (p:List In) (s:List UInt8) (lines:Bool) (i:Nat) (ts:List Nat):List Nat:=(ts.foldl (stepD p s lines i) (List.replicate 4096 false,[])).2
def thrD (p:List In) (s:List UInt8) (lines:Bool):Nat→Nat→List Nat→List Nat
 | 0,_,ts=>ts
 | n+1,i,ts=>thrD p s lines n (i+1) (nextD p s lines i ts)
def threadsD (p:List In) (s:List UInt8) (lines:Bool) (i j:Nat):List Nat:=thrD p s lines (j - i) i (dfs p s lines i 8193 [0] (List.replicate 4096 false) []).2
def Lv (p:List In) (R:Nat→Prop) (ts:List Nat):Prop:=ts.Nodup∧(∀ k ∈ ts,k < p.length)∧∀ k,k ∈ ts ↔ R k∧leafB p k=true
section
variable {p:List In} {s:List UInt8} {lines:Bool} {i:Nat}
theorem no_marks (q:Nat):¬ (List.replicate 4096 false).getD q false=true:=by
 rw [List.getD_eq_getElem?_getD,List.getElem?_replicate]
 split <;> simp
theorem leaf_1 {k:Nat} (h:(inAt p k).op=1):leafB p k=true:=by unfold leafB;rw [h];decide
theorem leaf_6 {k:Nat} (h:(inAt p k).op=6):leafB p k=true:=by unfold leafB;rw [h];decide
theorem one_lt (hp:OkP p) {k:Nat} (hk:k < p.length) (h:(inAt p k).op=1):k+1 < p.length:=by
 have hl:=hp.last
 apply Decidable.byContradiction
 intro hn
 have:k=p.length - 1:=by omega
 rw [this] at h
 omega
theorem DI.start (hp:OkP p):DI p s lines i [] (List.replicate 4096 false) [] :=
 ⟨(fun k h=>by cases h),fun k h=>absurd h (no_marks k),by rw [List.length_replicate];exact hp.le,List.nodup_nil,fun k=>⟨(fun h=>by cases h),fun h=>absurd h.1 (no_marks k)⟩,fun k m h=>absurd h (no_marks k)⟩
theorem DI.push {mk:List Bool} {acc:List Nat} (h:DI p s lines i [] mk acc) {k:Nat} (hk:k < p.length):DI p s lines i [k] mk acc :=
 ⟨by simpa using hk,h.mlt,h.len,h.nd,h.acc,fun a m ha hm=>(h.ep a m ha hm).imp id fun h=>by cases h⟩
theorem fold_set (hp : OkP p) : ∀ (ts : List Nat) (mk : List Bool) (acc : List Nat) (B : Nat → Prop), (∀ k ∈ ts, k < p.length) → DI p s lines (i + 1) [] mk acc → mk.length = 4096 → (∀ q, mk.getD q false = true ↔ Rc p s lines (i + 1) B q) →
    DI p s lines (i+1) [] (ts.foldl (stepD p s lines i) (mk,acc)).1 (ts.foldl (stepD p s lines i) (mk,acc)).2∧(∀ q,(ts.foldl (stepD p s lines i) (mk,acc)).1.getD q false=true ↔ Rc p s lines (i+1) (fun x=>B x ∨ Nx p (s.getD i 0) (fun k=>k ∈ ts) x) q):=by
 intro ts
 induction ts with
 | nil =>
  intro mk acc B _ hD _ hB
  refine ⟨hD,fun q=>(hB q).trans ⟨Rc.mono fun k h=>.inl h,Rc.mono fun k h=>h.elim id fun ⟨m,hm,_⟩=>by cases hm⟩⟩
 | cons k ts ih =>
  intro mk acc B hl hD hml hB
  rw [List.foldl_cons]
  have hkl:=hl k (by simp)
  by_cases hc:(inAt p k).op=1∧hasM (inAt p k) (s.getD i 0)=true
  ·have he:stepD p s lines i (mk,acc) k=dfs p s lines (i+1) 8193 [k+1] mk acc:=by unfold stepD;rw [if_pos hc]
   have hk1:=one_lt hp hkl hc.1
   have hcount:mk.count false≤4096:=by rw [← hml];exact List.count_le_length
   obtain ⟨d1,d2,d3⟩:=dfs_set hp 8193 [k+1] mk acc (hD.push hk1) (by rw [List.length_singleton];omega)
   rw [he]
   generalize dfs p s lines (i+1) 8193 [k+1] mk acc=r at d1 d2 d3
   obtain ⟨mk',acc'⟩:=r
   have hset:∀ q,mk'.getD q false=true ↔ Rc p s lines (i+1) (fun x=>B x ∨ x=k+1) q:=fun q=>by
    rw [d1 q]
    constructor
    ·intro hq
     induction hq with
     | base h =>
      rcases h with h | h
      ·exact Rc.mono (fun x hx=>.inl hx) ((hB _).1 h)
      ·exact .base (.inr (List.mem_singleton.1 h))
     | step _ h2 h3 ih2=>exact .step ih2 h2 h3
    ·intro hq
     induction hq with
     | base h =>
      rcases h with h | h
      ·exact .base (.inl ((hB _).2 (.base h)))
      ·exact .base (.inr (List.mem_singleton.2 h))
     | step _ h2 h3 ih2=>exact .step ih2 h2 h3
   obtain ⟨e1,e2⟩:=ih mk' acc' _ (fun x hx=>hl x (by simp [hx])) d2 (d3.trans hml) hset
   refine ⟨e1,fun q=>(e2 q).trans ⟨Rc.mono fun x hx=>?_,Rc.mono fun x hx=>?_⟩⟩
   ·rcases hx with (hx | rfl) | ⟨m,h1,h2⟩
    ·exact .inl hx
    ·exact .inr ⟨k,by simp,hc.1,hc.2,rfl,hk1⟩
    ·exact .inr ⟨m,by simp [h1],h2⟩
   ·rcases hx with hx | ⟨m,h1,h2,h3,h4,h5⟩
    ·exact .inl (.inl hx)
    ·rcases List.mem_cons.1 h1 with rfl | h1
     ·exact .inl (.inr h4)
     ·exact .inr ⟨m,h1,h2,h3,h4,h5⟩
  ·have he:stepD p s lines i (mk,acc) k=(mk,acc):=by unfold stepD;rw [if_neg hc]
   rw [he]
   obtain ⟨e1,e2⟩:=ih mk acc B (fun x hx=>hl x (by simp [hx])) hD hml hB
   refine ⟨e1,fun q=>(e2 q).trans ⟨Rc.mono fun x hx=>hx.imp id fun ⟨m,h1,h2⟩=>⟨m,by simp [h1],h2⟩,Rc.mono fun x hx=>?_⟩⟩
   rcases hx with hx | ⟨m,h1,h2,h3,h4⟩
   ·exact .inl hx
   ·rcases List.mem_cons.1 h1 with rfl | h1
    ·exact absurd ⟨h2,h3⟩ hc
    ·exact .inr ⟨m,h1,h2,h3,h4⟩
theorem next_lv (hp:OkP p) {ts:List Nat} {R:Nat→Prop} (hR:∀ k,R k→k < p.length) (h:Lv p R ts):Lv p (Rc p s lines (i+1) (Nx p (s.getD i 0) R)) (nextD p s lines i ts):=by
 obtain ⟨e1,e2⟩:=fold_set (s:=s) (lines:=lines) (i:=i) hp ts (List.replicate 4096 false) [] (fun _=>False) h.2.1 (DI.start hp) (List.length_replicate ..) (fun q=>⟨fun h=>absurd h (no_marks q),fun h=>(Rc.empty (fun _ h=>h) h).elim⟩)
 unfold nextD
 generalize ts.foldl (stepD p s lines i) (List.replicate 4096 false,[])=r at e1 e2
 have hset:∀ q,r.1.getD q false=true ↔ Rc p s lines (i+1) (Nx p (s.getD i 0) R) q:=fun q=>(e2 q).trans ⟨Rc.mono fun x hx=>?_,Rc.mono fun x hx=>?_⟩
 ·refine ⟨e1.nd,fun k hk=>e1.mlt k ((e1.acc k).1 hk).1,fun k=>?_⟩
  rw [e1.acc k,hset k]
 ·rcases hx with hx | ⟨m,h1,h2⟩
  ·exact hx.elim
  ·exact ⟨m,((h.2.2 m).1 h1).1,h2⟩
 ·obtain ⟨m,h1,h2,h3⟩:=hx
  exact .inr ⟨m,(h.2.2 m).2 ⟨h1,leaf_1 h2⟩,h2,h3⟩
theorem rc_lt {T:Nat→Prop} (hT:∀ k,T k→k < p.length) {q:Nat} (h:Rc p s lines i T q):q < p.length:=by
 cases h with
 | base h=>exact hT _ h
 | step _ _ h=>exact h
theorem thr_lv (hp:OkP p):∀ (n i:Nat) (ts:List Nat) (T:Nat→Prop),(∀ k,T k→k < p.length)→Lv p (Rc p s lines i T) ts→Lv p (TS p s lines n i T) (thrD p s lines n i ts)
 | 0,i,ts,T,_,h=>h
 | n+1,i,ts,T,hT,h=>thr_lv hp n (i+1) _ _ (fun k ⟨_,_,_,_,_,h⟩=>h) (next_lv hp (fun k hk=>rc_lt hT hk) h)
theorem threads_lv (hp:OkP p) (i j:Nat):Lv p (TS p s lines (j - i) i (fun k=>k=0)) (threadsD p s lines i j):=by
 have h0:=DI.start (s:=s) (lines:=lines) (i:=i) hp
 obtain ⟨d1,d2,d3⟩:=dfs_set hp 8193 [0] (List.replicate 4096 false) [] (h0.push hp.pos) (by rw [List.count_replicate_self,List.length_singleton];omega)
 refine thr_lv hp _ _ _ _ (fun k h=>by rw [h];exact hp.pos) ⟨d2.nd,fun k hk=>d2.mlt k ((d2.acc k).1 hk).1,fun k=>?_⟩
 rw [d2.acc k,d1 k]
 have:Rc p s lines i (fun k=>(List.replicate 4096 false).getD k false=true ∨ k ∈ [0]) k ↔ Rc p s lines i (fun k=>k=0) k :=
  ⟨Rc.mono fun x hx=>hx.elim (fun h=>absurd h (no_marks x)) fun h=>List.mem_singleton.1 h,Rc.mono fun x hx=>.inr (List.mem_singleton.2 hx)⟩
 rw [this]
theorem threads_end (hp:OkP p) (i j:Nat):p.length - 1 ∈ threadsD p s lines i j ↔ ∃ q,TS p s lines (j - i) i (fun k=>k=0) q∧(inAt p q).op=6:=by
 rw [(threads_lv hp i j).2.2]
 constructor
 ·rintro ⟨h,_⟩
  exact ⟨_,h,hp.last⟩
 ·rintro ⟨q,h1,h2⟩
  have:=hp.only q h2
  subst this
  exact ⟨h1,leaf_6 h2⟩
end
theorem agree {e:Rt} (h:(compM e).2=0) (s:List UInt8) (lines:Bool) {i j:Nat} (hij:i≤j):(endsM s lines e i j).getD (j - i) false=true ↔ (compM e).1.length - 1 ∈ threadsD (compM e).1 s lines i j:=by
 have hp:=comp_okP h
 have hb:=prog_bare h
 have:=ends_set s lines e hij (by rw [hb];exact hp.pos)
 rw [hb] at this
 rw [this,threads_end hp]
end Go.Am
