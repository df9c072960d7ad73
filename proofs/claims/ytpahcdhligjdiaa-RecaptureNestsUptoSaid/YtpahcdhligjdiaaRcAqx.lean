/-
  The law's own example.
-/
import Derived.Test.YtpahcdhligjdiaaRcAnx
namespace Go.Am
set_option linter.unusedSimpArgs false
set_option linter.unusedVariables false
set_option maxRecDepth 100000

def hA:Hd:=⟨2,0,8589934592,0,0,0,0,0⟩
def hB:Hd:=⟨2,0,17179869184,0,0,0,0,0⟩
def eAw:Rt:=.mk ⟨4,0,0,0,0,0,0,0⟩ [.mk ⟨6,0,0,0,0,0,0,1⟩ [.mk hA []],.mk ⟨6,0,0,0,0,0,0,2⟩ [.mk ⟨3,0,0,0,0,0,0,0⟩ [.mk hA [],.mk hB []]]]
theorem comp_aw:(compM eAw).2=0:=by kernel_rfl
theorem caps_aw:capS [97,98] false eAw 0 2=[(0,2),(-1,-1),(0,2)]:=by kernel_rfl
theorem ends_aw:(endsM [97,98] false eAw 0 2).getD (2 - 0) false=true:=by kernel_rfl
theorem bnd_ev {α β:Type} {x:Option α} {v:α} {k:α→Option β} {r:Option β} (hx:x=some v) (h:k v=r):bnd x k=r:=by rw [hx];exact h
theorem cnd_evt {x y r:Res} (h:x=r):cnd (.bool true) x y=r:=h
theorem cnd_evf {x y r:Res} (h:y=r):cnd (.bool false) x y=r:=h
def w4 (a b c d:Int):AV:=.agg [.int .u64 a,.int .u64 b,.int .u64 c,.int .u64 d]
theorem has_aw (H:Hp):flatC C_R04_Has [w4 0 0 0 0,.int .u8 97] H=some (.bool false,H)∧flatC C_R04_Has [w4 0 0 0 0,.int .u8 98] H=some (.bool false,H):=by
 refine ⟨flatC_of (args':=[w4 0 0 0 0,.int .u8 97]) (by kernel_rfl) (H1:=[.cells [.int .u64 0,.int .u64 0,.int .u64 0,.int .u64 0]]) ?_ rfl,flatC_of (args':=[w4 0 0 0 0,.int .u8 98]) (by kernel_rfl) (H1:=[.cells [.int .u64 0,.int .u64 0,.int .u64 0,.int .u64 0]]) ?_ rfl⟩ <;>
 ·rw [F_R04_Has_eq]
  kernel_rfl
theorem with_aw (H:Hp):flatC C_R04_with [w4 0 0 0 0,.int .u8 97] H=some (w4 0 8589934592 0 0,H)∧flatC C_R04_with [w4 0 0 0 0,.int .u8 98] H=some (w4 0 17179869184 0 0,H):=by
 refine ⟨flatC_of (args':=[w4 0 0 0 0,.int .u8 97]) (by kernel_rfl) (H1:=[.cells [.int .u64 0,.int .u64 8589934592,.int .u64 0,.int .u64 0],.cells [.int .u64 0,.int .u64 8589934592,.int .u64 0,.int .u64 0]]) ?_ rfl,flatC_of (args':=[w4 0 0 0 0,.int .u8 98]) (by kernel_rfl) (H1:=[.cells [.int .u64 0,.int .u64 17179869184,.int .u64 0,.int .u64 0],.cells [.int .u64 0,.int .u64 17179869184,.int .u64 0,.int .u64 0]]) ?_ rfl⟩
 ·rw [F_R04_with_eq]
  unfold F_R04_with
  refine bnd_ev rfl (bnd_ev rfl (bnd_ev rfl (bnd_ev (has_aw _).1 (bnd_ev rfl (cnd_evt ?_)))))
  refine bnd_ev rfl (bnd_ev rfl (bnd_ev rfl (bnd_ev rfl (bnd_ev rfl (bnd_ev rfl (bnd_ev rfl (bnd_ev rfl (bnd_ev rfl (bnd_ev rfl (bnd_ev rfl ?_))))))))))
  rw [R04_with_J1_eq]
  kernel_rfl
 ·rw [F_R04_with_eq]
  unfold F_R04_with
  refine bnd_ev rfl (bnd_ev rfl (bnd_ev rfl (bnd_ev (has_aw _).2 (bnd_ev rfl (cnd_evt ?_)))))
  refine bnd_ev rfl (bnd_ev rfl (bnd_ev rfl (bnd_ev rfl (bnd_ev rfl (bnd_ev rfl (bnd_ev rfl (bnd_ev rfl (bnd_ev rfl (bnd_ev rfl (bnd_ev rfl ?_))))))))))
  rw [R04_with_J1_eq]
  kernel_rfl
theorem of_aw (b:UInt8) (v:Int) (hb:(b=97∧v=8589934592) ∨ (b=98∧v=17179869184)) (H:Hp):flatC C_R04_Of [.str [b]] H=some (w4 0 v 0 0,H):=by
 refine flatC_of (args':=[.str [b]]) (by rcases hb with ⟨rfl,rfl⟩ | ⟨rfl,rfl⟩ <;> kernel_rfl) (H1:=[.cells [.int .u64 0,.int .u64 v,.int .u64 0,.int .u64 0],.cells [.int .u64 0,.int .u64 v,.int .u64 0,.int .u64 0]]) ?_ rfl
 rw [F_R04_Of_eq]
 unfold F_R04_Of
 refine bnd_ev rfl (bnd_ev rfl ?_)
 rw [R04_Of_L1_eq]
 refine bnd_ev rfl (bnd_ev rfl (cnd_evt ?_))
 rw [R04_Of_J2_eq]
 rcases hb with ⟨rfl,rfl⟩ | ⟨rfl,rfl⟩
 ·refine bnd_ev rfl (bnd_ev rfl (bnd_ev (with_aw _).1 (bnd_ev rfl ?_)))
  rw [R04_Of_J3_eq]
  refine bnd_ev rfl ?_
  rw [R04_Of_L1_eq]
  refine bnd_ev rfl (bnd_ev rfl (cnd_evf ?_))
  rw [R04_Of_J1_eq]
  kernel_rfl
 ·refine bnd_ev rfl (bnd_ev rfl (bnd_ev (with_aw _).2 (bnd_ev rfl ?_)))
  rw [R04_Of_J3_eq]
  refine bnd_ev rfl ?_
  rw [R04_Of_L1_eq]
  refine bnd_ev rfl (bnd_ev rfl (cnd_evf ?_))
  rw [R04_Of_J1_eq]
  kernel_rfl
theorem byte_aw (H:Hp):flatC C_L09_Byte [.int .u8 97] H=some (reV hA .nils,H)∧flatC C_L09_Byte [.int .u8 98] H=some (reV hB .nils,H):=by
 have key:∀ (b:UInt8) (v:Int),((b=97∧v=8589934592) ∨ (b=98∧v=17179869184))→flatC C_L09_Byte [.int .u8 (b.toNat:Int)] H=some (reV ⟨2,0,v,0,0,0,0,0⟩ .nils,H):=fun b v hb=>by
  refine flatC_of (args':=[.int .u8 (b.toNat:Int)]) rfl (H1:=[.cells (reC ⟨2,0,v,0,0,0,0,0⟩ .nils)]) ?_ rfl
  rw [F_L09_Byte_eq]
  unfold F_L09_Byte
  have hcv:∀ w:Hp,cvRd (.vs 1 .clip [.int .u8 (b.toNat:Int)]) w=some (.str [b]):=fun w=>by rcases hb with ⟨rfl,rfl⟩ | ⟨rfl,rfl⟩ <;> rfl
  refine bnd_ev rfl (bnd_ev rfl (bnd_ev (hcv _) (bnd_ev (of_aw b v hb _) ?_)))
  rfl
 exact ⟨key 97 _ (.inl ⟨rfl,rfl⟩),key 98 _ (.inr ⟨rfl,rfl⟩)⟩
def nA:AV:=reV hA .nils
def nB:AV:=reV hB .nils
def h3:Hd:=⟨3,0,0,0,0,0,0,0⟩
def h4:Hd:=⟨4,0,0,0,0,0,0,0⟩
def h6 (g:Int):Hd:=⟨6,0,0,0,0,0,0,g⟩
def nC:AV:=reV h3 (.vs 9 .clip [nA,nB])
def n1:AV:=reV (h6 1) (.vs 9 .clip [nA])
def n2:AV:=reV (h6 2) (.vs 9 .clip [nC])
def nW:AV:=reV h4 (.vs 9 .clip [n1,n2])
theorem leaf_aw (h:Hd):RtC (.mk h []) (reV h .nils):=RtC.of (.inl ⟨rfl,rfl⟩) RtL.nil
theorem one_aw {e:Rt} {a:AV} (h:RtC e a):RtL [e] [a]:=RtL.nil.snoc h
theorem tree_aw:RtC eAw nW :=
 RtC.of (.inr (.inr rfl)) ((one_aw (RtC.of (.inr (.inr rfl)) (one_aw (leaf_aw hA)))).snoc (RtC.of (.inr (.inr rfl)) (one_aw (RtC.of (.inr (.inr rfl)) ((one_aw (leaf_aw hA)).snoc (leaf_aw hB))))))
theorem node_aw (H:Hp):flatC C_L09_Node [.int .i64 3,.vs 9 .clip [nA,nB]] H=some (nC,H)∧flatC C_L09_Node [.int .i64 4,.vs 9 .clip [n1,n2]] H=some (nW,H):=by
 refine ⟨flatC_cl (args':=[.int .i64 3,.vs 9 .clip [nA,nB]]) (H1:=[.cells (reC h3 (.vs 9 .clip [nA,nB]))]) (v:=nC) (by kernel_rfl) ?_ (by kernel_rfl),flatC_cl (args':=[.int .i64 4,.vs 9 .clip [n1,n2]]) (H1:=[.cells (reC h4 (.vs 9 .clip [n1,n2]))]) (v:=nW) (by kernel_rfl) ?_ (by kernel_rfl)⟩ <;>
 ·rw [F_L09_Node_eq]
  kernel_rfl
theorem awake_run:∃ H1,C_L13_awake [] []=some (.bool true,H1):=by
 obtain ⟨v,H1,c1,c2,c3⟩:=Captures_run tree_aw (of_decide_eq_true (by kernel_rfl)) (of_decide_eq_true (by kernel_rfl)) (s:=[97,98]) (by decide) 0 2 false [.cells (reC (h6 1) (.vs 9 .clip [nA])),.cells (reC (h6 2) (.vs 9 .clip [nC]))]
 have c3':∃ so,v=.tuple [.agg [spV so 3],.bool true,.int .i64 0]∧SpAt H1 so [(0,2),(-1,-1),(0,2)]:=by
  cases c3 with
  | err h=>exact absurd comp_aw h
  | range h h'=>simp at h'
  | no i j h h1 h2 h3 h4 h5 =>
   have hi:i=0:=by omega
   have hj:j=2:=by omega
   subst hi hj
   rw [ends_aw] at h5
   cases h5
  | yes i j so h h1 h2 h3 h4 h5 h6 hS =>
   have hi:i=0:=by omega
   have hj:j=2:=by omega
   subst hi hj
   rw [caps_aw] at hS
   exact ⟨so,rfl,hS⟩
 obtain ⟨so,rfl,hS⟩:=c3'
 have g5:=get_push_len H1 (AObj.cells [.nils]) []
 obtain ⟨y1,y2⟩:=st8 g5 (x:=spV so 3) rfl rfl
 obtain ⟨V,hV⟩:∃ V:Hp,V=(H1++[AObj.cells [.nils]]).set H1.length (.cells [spV so 3]):=⟨_,rfl⟩
 rw [← hV] at y1
 have hk:Kpt [] H1 V:=by rw [hV];exact (Kpt.push [] H1 _).base (Kpt.set (W:=[H1.length]) _ _ (by simp)) (by simp)
 have hSV:SpAt V so [(0,2),(-1,-1),(0,2)]:=hk.get hS (by simp)
 have ln:aload false 1 (.ptr H1.length (0+0)) V=some (spV so 3):=by rw [hV,aload_of (get_set_eq _ g5)];rfl
 have l0:alenD (.slice 30) (spV so 3)=some (.int .i64 3):=rfl
 have i0:aindexS 2 (spV so 3) (.int .i64 0)=some (.ptr so 0):=rfl
 have i1:aindexS 2 (spV so 3) (.int .i64 1)=some (.ptr so 2):=rfl
 have i2:aindexS 2 (spV so 3) (.int .i64 2)=some (.ptr so 4):=rfl
 have q0:aload true 2 (.ptr so 0) V=some (.agg [.int .i64 0,.int .i64 2]):=hSV.ld (g:=0) (by decide)
 have q1:aload true 2 (.ptr so 2) V=some (.agg [.int .i64 (-1),.int .i64 (-1)]):=hSV.ld (g:=1) (by decide)
 have q2:aload true 2 (.ptr so 4) V=some (.agg [.int .i64 0,.int .i64 2]):=hSV.ld (g:=2) (by decide)
 have x0:∀ u w z:AV,aext (.tuple [u,w,z]) 0=some u:=fun _ _ _=>rfl
 have x1:∀ u w z:AV,aext (.tuple [u,w,z]) 1=some w:=fun _ _ _=>rfl
 have x2:∀ u w z:AV,aext (.tuple [u,w,z]) 2=some z:=fun _ _ _=>rfl
 have f1:((afill [(0,1,(.int .i64 0)),(1,1,(.int .i64 2))] [(.int .i64 0),(.int .i64 0)]).map AV.agg)=some (.agg [.int .i64 0,.int .i64 2]):=rfl
 have f2:((afill [(0,1,(.int .i64 (-1))),(1,1,(.int .i64 (-1)))] [(.int .i64 0),(.int .i64 0)]).map AV.agg)=some (.agg [.int .i64 (-1),.int .i64 (-1)]):=rfl
 have e0:((0:Int) != 0)=false:=rfl
 have e3:((3:Int) != 3)=false:=rfl
 have ce:=sp_cmp' 0 2 0 2
 have cf:=sp_cmp' (-1) (-1) (-1) (-1)
 rw [show ((0:Int) == 0 && (2:Int) == 2)=true from rfl] at ce
 rw [show ((-1:Int) == -1 && (-1:Int) == -1)=true from rfl] at cf
 rw [F_L13_awake_eq]
 unfold F_L13_awake
 refine ⟨V,bnd_ev (byte_aw _).1 (bnd_ev rfl (bnd_ev rfl (bnd_ev rfl (bnd_ev rfl (bnd_ev (byte_aw _).1 (bnd_ev (byte_aw _).2 (bnd_ev rfl (bnd_ev (node_aw _).1 (bnd_ev rfl (bnd_ev rfl (bnd_ev rfl (bnd_ev rfl (bnd_ev rfl (bnd_ev rfl (bnd_ev rfl (bnd_ev (node_aw _).2 (bnd_ev rfl (bnd_ev c1 ?_))))))))))))))))))⟩
 simp only [go_sem,x0,x1,x2,y1,e0,ln,l0,e3,Bool.not_true,L13_awake_J1_eq,i0,i1,i2,q0,q1,q2,f1,f2,ce,cf]
theorem awake_ok (H:Hp):flatC C_L13_awake [] H=some (.bool true,H):=by
 obtain ⟨H1,h⟩:=awake_run
 exact flatC_of (args':=[]) rfl h rfl
end Go.Am
