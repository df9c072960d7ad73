/-
  The law's own example.
-/
import Derived.Test.YtpahcdhligjdiaaRcAnx
namespace Go.Am
set_option linter.unusedSimpArgs false
set_option linter.unusedVariables false
set_option maxRecDepth 100000

def hA:Hd:=⟨2,0,8589934592,0,0,0,0,0⟩
def hB:Hd:=⟨2,0,17179869184,0,0,0,0,0⟩
def eAw:Rt:=.mk ⟨4,0,0,0,0,0,0,0⟩ [.mk ⟨6,0,0,0,0,0,0,1⟩ [.mk hA []],.mk ⟨6,0,0,0,0,0,0,2⟩ [.mk ⟨3,0,0,0,0,0,0,0⟩ [.mk hA [],.mk hB []]]]
theorem comp_aw:(compM eAw).2=0:=by kernel_rfl
theorem caps_aw:capS [97,98] false eAw 0 2=[(0,2),(-1,-1),(0,2)]:=by kernel_rfl
theorem ends_aw:(endsM [97,98] false eAw 0 2).getD (2 - 0) false=true:=by kernel_rfl
theorem bnd_ev {α β:Type} {x:Option α} {v:α} {k:α→Option β} {r:Option β} (hx:x=some v) (h:k v=r):bnd x k=r:=by rw [hx];exact h
theorem cnd_evt {x y r:Res} (h:x=r):cnd (.bool true) x y=r:=h
theorem cnd_evf {x y r:Res} (h:y=r):cnd (.bool false) x y=r:=h
def w4 (a b c d:Int):AV:=.agg [.int .u64 a,.int .u64 b,.int .u64 c,.int .u64 d]
theorem has_aw (H:Hp):flatC C_R04_Has [w4 0 0 0 0,.int .u8 97] H=some (.bool false,H)∧flatC C_R04_Has [w4 0 0 0 0,.int .u8 98] H=some (.bool false,H):=by
 refine ⟨flatC_of (args':=[w4 0 0 0 0,.int .u8 97]) (by kernel_rfl) (H1:=[.cells [.int .u64 0,.int .u64 0,.int .u64 0,.int .u64 0]]) ?_ rfl,flatC_of (args':=[w4 0 0 0 0,.int .u8 98]) (by kernel_rfl) (H1:=[.cells [.int .u64 0,.int .u64 0,.int .u64 0,.int .u64 0]]) ?_ rfl⟩ <;>
 ·rw [F_R04_Has_eq]
  kernel_rfl
theorem with_aw (H:Hp):flatC C_R04_with [w4 0 0 0 0,.int .u8 97] H=some (w4 0 8589934592 0 0,H)∧flatC C_R04_with [w4 0 0 0 0,.int .u8 98] H=some (w4 0 17179869184 0 0,H):=by
 refine ⟨flatC_of (args':=[w4 0 0 0 0,.int .u8 97]) (by kernel_rfl) (H1:=[.cells [.int .u64 0,.int .u64 8589934592,.int .u64 0,.int .u64 0],.cells [.int .u64 0,.int .u64 8589934592,.int .u64 0,.int .u64 0]]) ?_ rfl,flatC_of (args':=[w4 0 0 0 0,.int .u8 98]) (by kernel_rfl) (H1:=[.cells [.int .u64 0,.int .u64 17179869184,.int .u64 0,.int .u64 0],.cells [.int .u64 0,.int .u64 17179869184,.int .u64 0,.int .u64 0]]) ?_ rfl⟩
 ·rw [F_R04_with_eq]
  unfold F_R04_with
  refine bnd_ev rfl (bnd_ev rfl (bnd_ev rfl (bnd_ev (has_aw _).1 (bnd_ev rfl (cnd_evt ?_)))))
  refine bnd_ev rfl (bnd_ev rfl (bnd_ev rfl (bnd_ev rfl (bnd_ev rfl (bnd_ev rfl (bnd_ev rfl (bnd_ev rfl (bnd_ev rfl (bnd_ev rfl (bnd_ev rfl ?_))))))))))
  rw [R04_with_J1_eq]
  kernel_rfl
 ·rw [F_R04_with_eq]
  unfold F_R04_with
  refine bnd_ev rfl (bnd_ev rfl (bnd_ev rfl (bnd_ev (has_aw _).2 (bnd_ev rfl (cnd_evt ?_)))))
  refine bnd_ev rfl (bnd_ev rfl (bnd_ev rfl (bnd_ev rfl (bnd_ev rfl (bnd_ev rfl (bnd_ev rfl (bnd_ev rfl (bnd_ev rfl (bnd_ev rfl (bnd_ev rfl ?_))))))))))
  rw [R04_with_J1_eq]
  kernel_rfl
theorem of_aw (b:UInt8) (v:Int) (hb:(b=97∧v=8589934592) ∨ (b=98∧v=17179869184)) (H:Hp):flatC C_R04_Of [.str [b]] H=some (w4 0 v 0 0,H):=by
 refine flatC_of (args':=[.str [b]]) (by rcases hb with ⟨rfl,rfl⟩ | ⟨rfl,rfl⟩ <;> kernel_rfl) (H1:=[.cells [.int .u64 0,.int .u64 v,.int .u64 0,.int .u64 0],.cells [.int .u64 0,.int .u64 v,.int .u64 0,.int .u64 0]]) ?_ rfl
 rw [F_R04_Of_eq]
 unfold F_R04_Of
 refine bnd_ev rfl (bnd_ev rfl ?_)
 rw [R04_Of_L1_eq]
 refine bnd_ev rfl (bnd_ev rfl (cnd_evt ?_))
 rw [R04_Of_J2_eq]
 rcases hb with ⟨rfl,rfl⟩ | ⟨rfl,rfl⟩
 ·refine bnd_ev rfl (bnd_ev rfl (bnd_ev (with_aw _).1 (bnd_ev rfl ?_)))
  rw [R04_Of_J3_eq]
  refine bnd_ev rfl ?_
  rw [R04_Of_L1_eq]
  refine bnd_ev rfl (bnd_ev rfl (cnd_evf ?_))
  rw [R04_Of_J1_eq]
  kernel_rfl
 ·refine bnd_ev rfl (bnd_ev rfl (bnd_ev (with_aw _).2 (bnd_ev rfl ?_)))
  rw [R04_Of_J3_eq]
  refine bnd_ev rfl ?_
  rw [R04_Of_L1_eq]
  refine bnd_ev rfl (bnd_ev rfl (cnd_evf ?_))
  rw [R04_Of_J1_eq]
  kernel_rfl
theorem byte_aw (H:Hp):flatC C_L09_Byte [.int .u8 97] H=some (reV hA .nils,H)∧flatC C_L09_Byte [.int .u8 98] H=some (reV hB .nils,H):=by
 have key:∀ (b:UInt8) (v:Int),((b=97∧v=8589934592) ∨ (b=98∧v=17179869184))→flatC C_L09_Byte [.int .u8 (b.toNat:Int)] H=some (reV ⟨2,0,v,0,0,0,0,0⟩ .nils,H):=fun b v hb=>by
  refine flatC_of (args':=[.int .u8 (b.toNat:Int)]) rfl (H1:=[.cells (reC ⟨2,0,v,0,0,0,0,0⟩ .nils)]) ?_ rfl
  rw [F_L09_Byte_eq]
  unfold F_L09_Byte
  have hcv:∀ w:Hp,cvRd (.vs 1 .clip [.int .u8 (b.toNat:Int)]) w=some (.str [b]):=fun w=>by rcases hb with ⟨rfl,rfl⟩ | ⟨rfl,rfl⟩ <;> rfl
  refine bnd_ev rfl (bnd_ev rfl (bnd_ev (hcv _) (bnd_ev (of_aw b v hb _) ?_)))
  rfl
 exact ⟨key 97 _ (.inl ⟨rfl,rfl⟩),key 98 _ (.inr ⟨rfl,rfl⟩)⟩
def nA:AV:=reV hA .nils
def nB:AV:=reV hB .nils
def h3:Hd:=⟨3,0,0,0,0,0,0,0⟩
def h4:Hd:=⟨4,0,0,0,0,0,0,0⟩
def h6 (g:Int):Hd:=⟨6,0,0,0,0,0,0,g⟩
def nC:AV:=reV h3 (.vs 9 .clip [nA,nB])
def n1:AV:=reV (h6 1) (.vs 9 .clip [nA])
def n2:AV:=reV (h6 2) (.vs 9 .clip [nC])
def nW:AV:=reV h4 (.vs 9 .clip [n1,n2])
theorem leaf_aw (h:Hd):RtC (.mk h []) (reV h .nils):=RtC.of (.inl ⟨rfl,rfl⟩) RtL.nil
theorem one_aw {e:Rt} {a:AV} (h:RtC e a):RtL [e] [a]:=RtL.nil.snoc h
theorem tree_aw:RtC eAw nW :=
 RtC.of (.inr (.inr rfl)) ((one_aw (RtC.of (.inr (.inr rfl)) (one_aw (leaf_aw hA)))).snoc (RtC.of (.inr (.inr rfl)) (one_aw (RtC.of (.inr (.inr rfl)) ((one_aw (leaf_aw hA)).snoc (leaf_aw hB))))))
theorem node_aw (H:Hp):flatC C_L09_Node [.int .i64 3,.vs 9 .clip [nA,nB]] H=some (nC,H)∧flatC C_L09_Node [.int .i64 4,.vs 9 .clip [n1,n2]] H=some (nW,H):=by
 refine ⟨flatC_cl (args':=[.int .i64 3,.vs 9 .clip [nA,nB]]) (H1:=[.cells (reC h3 (.vs 9 .clip [nA,nB]))]) (v:=nC) (by kernel_rfl) ?_ (by kernel_rfl),flatC_cl (args':=[.int .i64 4,.vs 9 .clip [n1,n2]]) (H1:=[.cells (reC h4 (.vs 9 .clip [n1,n2]))]) (v:=nW) (by kernel_rfl) ?_ (by kernel_rfl)⟩ <;>
 ·rw [F_L09_Node_eq]
  kernel_rfl
theorem awake_run:∃ H1,C_L13_awake [] []=some (.bool true,H1):=by
 obtain ⟨v,H1,c1,c2,c3⟩:=Captures_run tree_aw (of_decide_eq_true (by kernel_rfl)) (of_decide_eq_true (by kernel_rfl)) (s:=[97,98]) (by decide) 0 2 false [.cells (reC (h6 1) (.vs 9 .clip [nA])),.cells (reC (h6 2) (.vs 9 .clip [nC]))]
 have c3':∃ so,v=.tuple [.agg [spV so 3],.bool true,.int .i64 0]∧SpAt H1 so [(0,2),(-1,-1),(0,2)]:=by
  cases c3 with
  | err h=>exact absurd comp_aw h
  | range h h'=>simp at h'
  | no i j h h1 h2 h3 h4 h5 =>
   have hi:i=0:=by omega
   have hj:j=2:=by omega
   subst hi hj
   rw [ends_aw] at h5
   cases h5
  | yes i j so h h1 h2 h3 h4 h5 h6 hS =>
   have hi:i=0:=by omega
   have hj:j=2:=by omega
   subst hi hj
   rw [caps_aw] at hS
   exact ⟨so,rfl,hS⟩
 obtain ⟨so,rfl,hS⟩:=c3'
 have g5:=get_push_len H1 (AObj.cells [.nils]) []
 obtain ⟨y1,y2⟩:=st8 g5 (x:=spV so 3) rfl rfl
 obtain ⟨V,hV⟩:∃ V:Hp,V=(H1++[AObj.cells [.nils]]).set H1.length (.cells [spV so 3]):=⟨_,rfl⟩
 rw [← hV] at y1
 have hk:Kpt [] H1 V:=by rw [hV];exact (Kpt.push [] H1 _).base (Kpt.set (W:=[H1.length]) _ _ (by simp)) (by simp)
 have hSV:SpAt V so [(0,2),(-1,-1),(0,2)]:=hk.get hS (by simp)
 have ln:aload false 1 (.ptr H1.length (0+0)) V=some (spV so 3):=by rw [hV,aload_of (get_set_eq _ g5)];rfl
 have l0:alenD (.slice 30) (spV so 3)=some (.int .i64 3):=rfl
 have i0:aindexS 2 (spV so 3) (.int .i64 0)=some (.ptr so 0):=rfl
 have i1:aindexS 2 (spV so 3) (.int .i64 1)=some (.ptr so 2):=rfl
 have i2:aindexS 2 (spV so 3) (.int .i64 2)=some (.ptr so 4):=rfl
 have q0:aload true 2 (.ptr so 0) V=some (.agg [.int .i64 0,.int .i64 2]):=hSV.ld (g:=0) (by decide)
 have q1:aload true 2 (.ptr so 2) V=some (.agg [.int .i64 (-1),.int .i64 (-1)]):=hSV.ld (g:=1) (by decide)
 have q2:aload true 2 (.ptr so 4) V=some (.agg [.int .i64 0,.int .i64 2]):=hSV.ld (g:=2) (by decide)
 have x0:∀ u w z:AV,aext (.tuple [u,w,z]) 0=some u:=fun _ _ _=>rfl
 have x1:∀ u w z:AV,aext (.tuple [u,w,z]) 1=some w:=fun _ _ _=>rfl
 have x2:∀ u w z:AV,aext (.tuple [u,w,z]) 2=some z:=fun _ _ _=>rfl
 have f1:((afill [(0,1,(.int .i64 0)),(1,1,(.int .i64 2))] [(.int .i64 0),(.int .i64 0)]).map AV.agg)=some (.agg [.int .i64 0,.int .i64 2]):=rfl
 have f2:((afill [(0,1,(.int .i64 (-1))),(1,1,(.int .i64 (-1)))] [(.int .i64 0),(.int .i64 0)]).map AV.agg)=some (.agg [.int .i64 (-1),.int .i64 (-1)]):=rfl
 have e0:((0:Int) != 0)=false:=rfl
 have e3:((3:Int) != 3)=false:=rfl
 have ce:=sp_cmp' 0 2 0 2
 have cf:=sp_cmp' (-1) (-1) (-1) (-1)
 rw [show ((0:Int) == 0 && (2:Int) == 2)=true from rfl] at ce
 rw [show ((-1:Int) == -1 && (-1:Int) == -1)=true from rfl] at cf
 rw [F_L13_awake_eq]
 unfold F_L13_awake
 refine ⟨V,bnd_ev (byte_aw _).1 (bnd_ev rfl (bnd_ev rfl (bnd_ev rfl (bnd_ev rfl (bnd_ev (byte_aw _).1 (bnd_ev (byte_aw _).2 (bnd_ev rfl (bnd_ev (node_aw _).1 (bnd_ev rfl (bnd_ev rfl (bnd_ev rfl (bnd_ev rfl (bnd_ev rfl (bnd_ev rfl (bnd_ev rfl (bnd_ev (node_aw _).2 (bnd_ev rfl (bnd_ev c1 ?_))))))))))))))))))⟩
 simp only [go_sem,x0,x1,x2,y1,e0,ln,l0,e3,Bool.not_true,L13_awake_J1_eq,i0,i1,i2,q0,q1,q2,f1,f2,ce,cf]
theorem awake_ok (H:Hp):flatC C_L13_awake [] H=some (.bool true,H):=by
 obtain ⟨H1,h⟩:=awake_run
 exact flatC_of (args':=[]) rfl h rfl
end Go.Am
namespace Go.Am
set_option linter.unusedSimpArgs false
set_option linter.unusedVariables false

theorem anc_arg {h:Hd} {args:List Rt} (ha:ancM (.mk h args)=false):h.op ≠ 7∧h.op ≠ 8∧∀ e ∈ args,ancM e=false:=by
 rw [ancM_eq,Bool.or_eq_false_iff,Bool.or_eq_false_iff] at ha
 exact ⟨by simpa using ha.1.1,by simpa using ha.1.2,ancL_iff.1 ha.2⟩
theorem anc_mk {h:Hd} {args:List Rt} (h7:h.op ≠ 7) (h8:h.op ≠ 8) (ha:∀ e ∈ args,ancM e=false):ancM (.mk h args)=false:=by
 rw [ancM_eq,ancL_iff.2 ha,Bool.or_false,Bool.or_eq_false_iff]
 exact ⟨by simpa using h7,by simpa using h8⟩
theorem anc_bare (e:Rt):ancM e=false→ancM (bareM e)=false:=by
 induction e using Rt.ind with
 | h hd args ih =>
  intro ha
  obtain ⟨h7,h8,hl⟩:=anc_arg ha
  have hb:∀ e ∈ bareL args,ancM e=false:=fun e he=>by
   rw [bareL_eq] at he
   obtain ⟨x,hx,rfl⟩:=List.mem_map.1 he
   exact ih x hx (hl x hx)
  rw [bareM]
  by_cases h6:hd.op=6
  ·rw [if_pos h6]
   cases hq:bareL args with
   | nil=>exact anc_mk h7 h8 (by simp)
   | cons x l=>exact hb x (by rw [hq];simp)
  ·rw [if_neg h6]
   exact anc_mk h7 h8 hb
theorem anc_rev (e:Rt):ancM e=false→ancM (revM e)=false:=by
 induction e using Rt.ind with
 | h hd args ih =>
  intro ha
  obtain ⟨h7,h8,hl⟩:=anc_arg ha
  rw [revM_eq]
  refine anc_mk h7 h8 fun e he=>?_
  obtain ⟨x,hx,rfl⟩:=List.mem_map.1 he
  have hx:=ordL_mem.1 hx
  exact ih x hx (hl x hx)
theorem anc_join {l:List Rt} (h:∀ e ∈ l,ancM e=false):ancM (joinM l)=false:=by
 match l,h with
 | [],_=>exact anc_mk (by decide) (by decide) (by simp)
 | [e],h=>exact h e (by simp)
 | e :: f :: l,h=>exact anc_mk (by decide) (by decide) h
theorem anc_repM {x:Rt} (h:ancM x=false) (lo hi:Int):ancM (repM x lo hi)=false:=anc_mk (h:=rpHd lo hi) (show (5:Int) ≠ 7 by decide) (show (5:Int) ≠ 8 by decide) (by simpa using h)
theorem anc_counted {x:Rt} (h:ancM x=false) (lo hi:Int):ancM (countedM x lo hi)=false:=by
 have h3:∀ l:List Rt,(∀ e ∈ l,ancM e=false)→ancM (.mk (opH 3) l)=false:=fun l hl=>anc_mk (by decide) (by decide) hl
 unfold countedM
 split
 ·exact anc_repM h _ _
 split
 ·exact anc_mk (by decide) (by decide) (by simp)
 split
 ·exact h
 split
 ·exact h3 _ fun e he=>by rw [List.eq_of_mem_replicate he];exact h
 split
 ·refine h3 _ fun e he=>?_
  rcases List.mem_append.1 he with he | he
  ·rw [List.eq_of_mem_replicate he];exact h
  ·rw [List.mem_singleton.1 he];exact anc_repM h _ _
 ·refine h3 _ fun e he=>?_
  rcases List.mem_append.1 he with he | he
  ·rw [List.eq_of_mem_replicate he];exact h
  ·rw [List.eq_of_mem_replicate he];exact anc_repM h _ _
theorem anc_exp (e:Rt):ancM e=false→ancM (expM e)=false:=by
 induction e using Rt.ind with
 | h hd args ih =>
  intro ha
  obtain ⟨h7,h8,hl⟩:=anc_arg ha
  have hb:∀ e ∈ args.map expM,ancM e=false:=fun e he=>by
   obtain ⟨x,hx,rfl⟩:=List.mem_map.1 he
   exact ih x hx (hl x hx)
  rw [expM_eq]
  split
  ·split
   ·exact anc_mk (by decide) (by decide) (by simp)
   ·refine anc_counted ?_ _ _
    cases hq:args.map expM with
    | nil=>exact anc_mk h7 h8 (by simp)
    | cons x l=>exact hb x (by rw [hq];simp)
  ·exact anc_mk h7 h8 hb
theorem anc_rest {e:Rt} (ha:ancM e=false) (k:Nat):ancM (restT e k)=false:=by
 have hb:=anc_bare e ha
 have hargs:∀ x ∈ (bareM e).args,ancM x=false:=by
  cases hq:bareM e with
  | mk h args=>rw [hq] at hb;exact (anc_arg hb).2.2
 unfold restT
 split
 ·exact anc_join fun x hx=>hargs x (List.mem_of_mem_drop hx)
 ·exact anc_mk (show (5:Int) ≠ 7 by decide) (show (5:Int) ≠ 8 by decide) hargs
def NoA (p:List In):Prop:=∀ k,(inAt p k).op ≠ 4∧(inAt p k).op ≠ 5
theorem comp_noA {e:Rt} (ha:ancM e=false):NoA (compM e).1:=by
 intro k
 have hz:(opI 0).op ≠ 4∧(opI 0).op ≠ 5:=by decide
 unfold inAt
 rcases comp_shape e (anch:=false) (.inr (anc_exp e ha)) with h | ⟨c,h,hg,_⟩
 ·rw [h];exact hz
 ·rw [h,List.getD_eq_getElem?_getD]
  cases hq:(c++[opI 6])[k]? with
  | none=>exact hz
  | some i =>
   rcases List.mem_append.1 (List.mem_of_getElem? hq) with hm | hm
   ·obtain ⟨_,_,h1⟩:=hg i hm
    show i.op ≠ 4∧i.op ≠ 5
    rcases h1 with h1 | h1 | h1 | ⟨h1,_⟩
    ·rw [h1];decide
    ·rw [h1];decide
    ·rw [h1];decide
    ·cases h1
   ·rw [List.mem_singleton.1 hm];decide
def Shf (s s':List UInt8) (d:Nat):Prop:=∀ k,k < s.length→s'.getD (d+k) 0=s.getD k 0
section
variable {p:List In} {s s':List UInt8} {d:Nat}
theorem step_shift (hp:NoA p) (lines:Bool) (i i' k:Nat) (st:List Nat × List Bool):stepM p s' lines i' k st=stepM p s lines i k st:=by
 have hk:=hp k
 unfold stepM
 rw [if_neg (c:=(inAt p k).op=4 ∨ (inAt p k).op=5) (by omega),if_neg (c:=(inAt p k).op=4 ∨ (inAt p k).op=5) (by omega)]
theorem close_shift (hp:NoA p) (lines:Bool) (i i':Nat):∀ (f n:Nat) (st:List Nat × List Bool) (m:Bool),closeF p s' lines i' f n st m=closeF p s lines i f n st m:=by
 intro f
 induction f with
 | zero=>intro n st m;rw [closeF,closeF]
 | succ f ih=>intro n st m;rw [closeF,closeF,step_shift (s:=s) hp lines i i',ih]
theorem reachF_shift (hp : NoA p) (hs : Shf s s' d) (lines bw : Bool) (lo to : Nat) (hto : to ≤ s.length) : ∀ (f i : Nat) (t : List Nat) (out : List Bool), i ≤ s.length → lo ≤ i → (bw = true → to ≤ i) → (bw = false → i ≤ to) →
    (bw=true→lo=to)→reachF p s' lines bw (d+lo) (d+to) f (d+i) t out=reachF p s lines bw lo to f i t out:=by
 intro f
 induction f with
 | zero=>intro i t out _ _ _ _ _;rw [reachF,reachF]
 | succ f ih =>
  intro i t out hi hlo h1 h2 h3
  have e1:d+i - (d+lo)=i - lo:=by omega
  rw [reachF,reachF,e1,close_shift (s:=s) hp lines i (d+i)]
  by_cases ht:t=[]
  ·rw [if_pos ht,if_pos ht]
  rw [if_neg ht,if_neg ht]
  by_cases hit:i=to
  ·rw [if_pos (by omega),if_pos hit]
  rw [if_neg (by omega),if_neg hit]
  cases hb:bw with
  | true =>
   have h1:=h1 hb
   have e2:nxt true (d+i)=d+nxt true i:=by simp only [nxt,if_true];omega
   have e3:s'.getD (d+i - 1) 0=s.getD (i - 1) 0:=by
    have:=hs (i - 1) (by omega)
    rw [← this]
    congr 1
   rw [hb] at ih h3
   have h3:=h3 rfl
   rw [if_pos rfl,if_pos rfl,e3,e2,ih _ _ _ (by simp only [nxt,if_true];omega) (by simp only [nxt,if_true];omega) (fun _=>by simp only [nxt,if_true];omega) (fun h=>by cases h) (fun _=>h3)]
  | false =>
   have h2:=h2 hb
   have e2:nxt false (d+i)=d+nxt false i:=by simp only [nxt,Bool.false_eq_true,if_false];omega
   have e3:=hs i (by omega)
   rw [hb] at ih
   rw [if_neg (by decide),if_neg (by decide),e3,e2,ih _ _ _ (by simp only [nxt,Bool.false_eq_true,if_false];omega) (by simp only [nxt,Bool.false_eq_true,if_false];omega) (fun h=>by cases h) (fun _=>by simp only [nxt,Bool.false_eq_true,if_false];omega) (fun h=>by cases h)]
theorem reachM_shift (hp:NoA p) (hs:Shf s s' d) (lines:Bool) {fr to:Nat} (hf:fr≤s.length) (ht:to≤s.length):reachM p s' lines (d+fr) (d+to)=reachM p s lines fr to:=by
 have e1:min (d+fr) (d+to)=d+min fr to:=by omega
 have e2:max (d+fr) (d+to) - (d+min fr to)=max fr to - min fr to:=by omega
 have e3:decide (d+to < d+fr)=decide (to < fr):=decide_eq_decide.2 (by omega)
 unfold reachM
 rw [e1,e2,e3]
 by_cases h0:p.length=0
 ·rw [if_pos h0,if_pos h0]
 ·rw [if_neg h0,if_neg h0]
  exact reachF_shift hp hs lines _ _ _ ht _ _ _ _ hf (by omega) (fun h=>by have:=of_decide_eq_true h;omega) (fun h=>by have:=of_decide_eq_false h;omega) (fun h=>by have:=of_decide_eq_true h;omega)
theorem ends_shift (hs:Shf s s' d) (lines:Bool) {e:Rt} (ha:ancM e=false) {i j:Nat} (hi:i≤s.length) (hj:j≤s.length):endsM s' lines e (d+i) (d+j)=endsM s lines e i j:=reachM_shift (comp_noA (anc_bare e ha)) hs lines hi hj
theorem starts_shift (hs:Shf s s' d) (lines:Bool) {e:Rt} (ha:ancM e=false) (k:Nat) {i j:Nat} (hi:i≤s.length) (hj:j≤s.length):startsM s' lines e k (d+i) (d+j)=startsM s lines e k i j:=reachM_shift (comp_noA (anc_rev _ (anc_rest ha k))) hs lines hj hi
end
end Go.Am
namespace Go.Am
set_option linter.unusedSimpArgs false
set_option linter.unusedVariables false

def mvS (d:Nat) (p:Int × Int):Int × Int:=if p.1 < 0 then p else (p.1+(d:Int),p.2+(d:Int))
def mvL (d:Nat) (sp:Sp):Sp:=sp.map (mvS d)
theorem mvS_nat (d i j:Nat):mvS d ((i:Int),(j:Int))=(((d+i:Nat):Int),((d+j:Nat):Int)):=by
 unfold mvS
 rw [if_neg (by simp only;omega)]
 simp only [Prod.mk.injEq]
 omega
theorem mvS_off (d:Nat):mvS d (-1,-1)=(-1,-1):=rfl
theorem mvL_set (d:Nat) (sp:Sp) (g i j:Nat):(mvL d sp).set g (((d+i:Nat):Int),((d+j:Nat):Int))=mvL d (sp.set g ((i:Int),(j:Int))):=by
 unfold mvL
 rw [List.map_set,mvS_nat]
theorem mvL_off (d:Nat) (sp:Sp) (g:Nat):(mvL d sp).set g (-1,-1)=mvL d (sp.set g (-1,-1)):=by
 unfold mvL
 rw [List.map_set,mvS_off]
theorem clear_shift (d:Nat) (e:Rt):∀ sp:Sp,clearM e (mvL d sp)=mvL d (clearM e sp):=by
 induction e using Rt.ind with
 | h hd args ih =>
  have key:∀ l:List Rt,(∀ e ∈ l,∀ sp:Sp,clearM e (mvL d sp)=mvL d (clearM e sp))→∀ sp:Sp,clearL l (mvL d sp)=mvL d (clearL l sp):=by
   intro l
   induction l with
   | nil=>intro _ sp;rw [clearL_nil,clearL_nil]
   | cons e l ihl=>intro h sp;rw [clearL_cons,clearL_cons,h e (by simp),ihl (fun x hx=>h x (by simp [hx]))]
  intro sp
  rw [clearM_eq,clearM_eq]
  split
  ·rw [mvL_off,key args ih]
  ·exact key args ih sp
theorem long_shift (l1:List Bool) (fr:Nat) (l2:List Bool) (lo d:Nat):∀ k,(longM l1 fr l2 lo k=-1∧longM l1 (d+fr) l2 (d+lo) k=-1) ∨ ∃ m,m < k∧longM l1 fr l2 lo k=((fr+m:Nat):Int)∧longM l1 (d+fr) l2 (d+lo) k=((d+(fr+m):Nat):Int)
 | 0=>.inl ⟨rfl,rfl⟩
 | k+1=>by
  have e1:d+fr+k - (d+lo)=fr+k - lo:=by omega
  rw [longM,longM,e1]
  split
  ·exact .inr ⟨k,by omega,rfl,by rw [Nat.add_assoc]⟩
  ·rcases long_shift l1 fr l2 lo d k with h | ⟨m,h1,h2,h3⟩
   ·exact .inl h
   ·exact .inr ⟨m,by omega,h2,h3⟩
section
variable {E E':Rt→Nat→Nat→List Bool} {S S':Rt→Nat→Nat→Nat→List Bool} {d n:Nat}
theorem rep_shift {E0 E0' : Nat → Nat → List Bool} {S0 : Nat → List Bool} {F F' : Nat → Nat → Sp → Sp} {cl : Sp → Sp} (hE : ∀ i j, i ≤ n → j ≤ n → E0' (d + i) (d + j) = E0 i j) (hF : ∀ i j sp, i ≤ j → j ≤ n → F' (d + i) (d + j) (mvL d sp) = mvL d (F i j sp)) (hc : ∀ sp, cl (mvL d sp) = mvL d (cl sp)) (lo hi : Int) (fr j : Nat) (hj : j ≤ n) :
    ∀ (f c i:Nat) (sp:Sp),i≤j→repLoop E0' S0 F' cl lo hi (d+fr) (d+j) f c (d+i) (mvL d sp)=mvL d (repLoop E0 S0 F cl lo hi fr j f c i sp)
 | 0,c,i,sp,_=>rfl
 | f+1,c,i,sp,hij=>by
  have e1:d+j - (d+i)+1=j - i+1:=by omega
  rw [repLoop,repLoop,e1,hE i j (by omega) hj]
  split
  ·rcases long_shift (if lo≤(c:Int) then (E0 i j).set 0 false else E0 i j) i (S0 (if hi < 0 then min c lo.toNat else c)) fr d (j - i+1) with ⟨h1,h2⟩ | ⟨m,h1,h2,h3⟩
   ·rw [h1,h2,if_pos (by decide),if_pos (by decide)]
   ·rw [h2,h3,if_neg (by omega),if_neg (by omega),Int.toNat_natCast,Int.toNat_natCast,hc,hF i (i+m) _ (by omega) (by omega)]
    exact rep_shift hE hF hc lo hi fr j hj f (c+1) (i+m) _ (by omega)
  ·rfl
def FS (E E':Rt→Nat→Nat→List Bool) (S S':Rt→Nat→Nat→Nat→List Bool) (d n:Nat) (e:Rt):Prop:=∀ (i j:Nat) (sp:Sp),i≤j→j≤n→findM E' S' e (d+i) (d+j) (mvL d sp)=mvL d (findM E S e i j sp)
theorem find_shift (hE:∀ e i j,ancM e=false→i≤n→j≤n→E' e (d+i) (d+j)=E e i j) (hS:∀ e k i j,ancM e=false→i≤n→j≤n→S' e k (d+i) (d+j)=S e k i j) (e:Rt):ancM e=false→FS E E' S S' d n e:=by
 induction e using Rt.ind with
 | h hd args ih =>
  intro ha
  obtain ⟨_,_,hl⟩:=anc_arg ha
  have hF:∀ x ∈ args,FS E E' S S' d n x:=fun x hx=>ih x hx (hl x hx)
  have halt:∀ (l:List Rt),(∀ e ∈ l,ancM e=false∧FS E E' S S' d n e)→∀ (i j:Nat) (sp:Sp),i≤j→j≤n→altF E' S' l (d+i) (d+j) (mvL d sp)=mvL d (altF E S l i j sp):=by
   intro l
   induction l with
   | nil=>intro _ i j sp _ _;rw [altF,altF]
   | cons e l ihl =>
    intro h i j sp hij hj
    have e1:d+j - (d+i)=j - i:=by omega
    rw [altF,altF,e1,hE e i j (h e (by simp)).1 (by omega) hj]
    split
    ·exact (h e (by simp)).2 i j sp hij hj
    ·exact ihl (fun x hx=>h x (by simp [hx])) i j sp hij hj
  have hcat:∀ (e0:Rt) (l:List Rt),ancM e0=false→(∀ e ∈ l,ancM e=false∧FS E E' S S' d n e)→∀ (t i j:Nat) (sp:Sp),i≤j→j≤n→catF E' S' e0 l t (d+i) (d+j) (mvL d sp)=mvL d (catF E S e0 l t i j sp):=by
   intro e0 l h0
   induction l with
   | nil=>intro _ t i j sp _ _;rw [catF,catF]
   | cons e l ihl =>
    intro h t i j sp hij hj
    have e1:d+j - (d+i)+1=j - i+1:=by omega
    rw [catF,catF,e1,hE e i j (h e (by simp)).1 (by omega) hj,hS e0 t i j h0 (by omega) hj]
    rcases long_shift (E e i j) i (S e0 t i j) i d (j - i+1) with ⟨h1,h2⟩ | ⟨m,h1,h2,h3⟩
    ·rw [h1,h2,if_pos (by decide),if_pos (by decide)]
    ·rw [h2,h3,if_neg (by omega),if_neg (by omega),Int.toNat_natCast,Int.toNat_natCast,(h e (by simp)).2 i (i+m) sp (by omega) (by omega)]
     exact ihl (fun x hx=>h x (by simp [hx])) (t+1) (i+m) j _ (by omega) hj
  intro i j sp hij hj
  rw [find_eq,find_eq]
  split
  ·have hh : headF E' S' args (d + i) (d + j) (mvL d sp) = mvL d (headF E S args i j sp) := by
      cases args with
      | nil=>rw [headF,headF]
      | cons x l=>rw [headF,headF];exact hF x (by simp) i j sp hij hj
   rw [hh,mvL_set]
  split
  ·exact halt args (fun x hx=>⟨hl x hx,hF x hx⟩) i j sp hij hj
  split
  ·exact hcat _ args ha (fun x hx=>⟨hl x hx,hF x hx⟩) 0 i j sp hij hj
  split
  ·cases args with
   | nil=>rw [repF,repF]
   | cons x l =>
    have e1:d+j - (d+i)+66=j - i+66:=by omega
    have e2:(fun k=>S' (.mk hd (x :: l)) k (d+i) (d+j))=fun k=>S (.mk hd (x :: l)) k i j:=funext fun k=>hS _ k i j ha (by omega) hj
    rw [repF,repF,e1,e2]
    exact rep_shift (n:=n) (fun a b h1 h2=>hE x a b (hl x (by simp)) h1 h2) (fun a b sp h1 h2=>hF x (by simp) a b sp h1 h2) (fun sp=>clear_shift d _ sp) _ _ i j hj _ _ i sp hij
  ·rfl
end
theorem caps_shift {s s':List UInt8} {d:Nat} (hs:Shf s s' d) (lines:Bool) {e:Rt} (ha:ancM e=false) {i j:Nat} (hij:i≤j) (hj:j≤s.length):capS s' lines e (d+i) (d+j)=mvL d (capS s lines e i j):=by
 have h0:List.replicate (cntM 6 e+1) ((-1:Int),(-1:Int))=mvL d (List.replicate (cntM 6 e+1) (-1,-1)):=by
  unfold mvL
  rw [List.map_replicate,mvS_off]
 unfold capS
 rw [← mvL_set,← find_shift (E':=endsM s' lines) (S':=startsM s' lines) (d:=d) (n:=s.length) (fun e i j h h1 h2=>ends_shift hs lines h h1 h2) (fun e k i j h h1 h2=>starts_shift hs lines h k h1 h2) e ha i j _ hij hj,← h0]
end Go.Am
namespace Go.Am
set_option linter.unusedSimpArgs false
set_option linter.unusedVariables false
set_option maxRecDepth 100000

theorem anc_loop {A : List Rt} {hd : Hd} {x : AV} {l : List AV} (hx : SlC 9 x l) (hl : RtL A l) (ih : ∀ e ∈ A, ∀ (a : AV), RtC e a → dep e ≤ 100 → siz e ≤ 100000 → ∀ H : Hp, flatC C_L13_anchored [a] H = some (.bool (ancM e), H))
    (hdp:∀ e ∈ A,dep e≤100) (H0 Hc:Hp) {o:Nat} (ho:Hc[o]?=some (.cells (reC hd x))) (hz:sizL A≤100000) :
    ∀ (k i:Nat),A.length - i=k→i≤A.length →
    L13_anchored_L1 (.ptr o 0) (.int .i64 (i:Int)) H0 Hc=some (.bool (ancL (A.drop i) || (hd.op == 7 || hd.op == 8)),Hc):=by
 have hls:=len_siz A
 intro k
 induction k with
 | zero =>
  intro i hk hi
  have hlt:decide ((i:Int) < (A.length:Int))=false:=decide_eq_false (by omega)
  have hdr:A.drop i=[]:=List.drop_eq_nil_iff.2 (by omega)
  rw [L13_anchored_L1_eq,hdr,ancL_nil,Bool.false_or]
  by_cases h7:hd.op=7
  ·have b7:(hd.op == 7)=true:=by simp [h7]
   simp only [go_sem,ld_args ho,hx.len,hl.1,hlt,L13_anchored_J1_eq,ld_op ho,b7,Bool.true_or]
  ·have b7:(hd.op == 7)=false:=by simp [h7]
   simp only [go_sem,ld_args ho,hx.len,hl.1,hlt,L13_anchored_J1_eq,ld_op ho,b7,Bool.false_or]
 | succ k ihk =>
  intro i hk hi
  have hL:i < A.length:=by omega
  have hlt:decide ((i:Int) < (A.length:Int))=true:=decide_eq_true (by omega)
  have hdr:=List.drop_eq_getElem_cons hL
  obtain ⟨a,hla,hra⟩:=hl.get (List.getElem?_eq_getElem hL)
  have hsa:=siz_arg (List.getElem?_eq_getElem hL)
  have hr:=ih _ (List.getElem_mem hL) _ hra (hdp _ (List.getElem_mem hL)) (by omega) Hc
  obtain ⟨xa,la,rfl,_,_⟩:=hra.out
  rw [L13_anchored_L1_eq,hdr,ancL_cons]
  cases hN:ancM A[i] with
  | true =>
   rw [hN] at hr
   simp only [go_sem,ld_args ho,hx.len,hl.1,hlt,L13_anchored_J2_eq,hx.idx hla,re_cells,aload_vp_re,hr,Bool.true_or]
  | false =>
   rw [hN] at hr
   simp only [go_sem,ld_args ho,hx.len,hl.1,hlt,L13_anchored_J2_eq,hx.idx hla,re_cells,aload_vp_re,hr,Bool.false_or,L13_anchored_J3_eq,wsucc (n:=i) (by omega)]
   exact ihk (i+1) (by omega) (by omega)
theorem anchored_run (e:Rt):∀ (a:AV),RtC e a→dep e≤100→siz e≤100000→∀ H:Hp,flatC C_L13_anchored [a] H=some (.bool (ancM e),H):=by
 induction e using Rt.ind with
 | h hd args ih =>
  intro a ha hdp hz H
  have hcl:=close1 ha (by omega)
  obtain ⟨x,l,rfl,hx,hl⟩:=ha.out
  have hl:RtL args l:=hl
  rw [siz_eq] at hz
  have g:=get_push_len ([]:Hp) (AObj.cells (reC hd x)) []
  have hdk:∀ e ∈ args,dep e≤100:=fun e he=>by
   obtain ⟨i,hi⟩:=List.getElem?_of_mem he
   have:=dep_arg hi
   simp only [dep] at hdp
   omega
  refine flatC_of hcl (H1:=[]++[AObj.cells (reC hd x)]) ?_ rfl
  rw [F_L13_anchored_eq,ancM_eq,Bool.or_comm]
  unfold F_L13_anchored
  have i0:(((0:Nat):Int))=0:=rfl
  have key:=anc_loop hx hl ih hdk ([]:Hp) ([]++[AObj.cells (reC hd x)]) g (by omega) args.length 0 rfl (by omega)
  rw [i0,List.drop_zero] at key
  simp only [box_re,go_sem,Rt.hd]
  exact key
theorem close_own {H:Hp} {n f k t e:Nat} {l l':List AV} (h:l.mapM (closeV H n f)=some l') (hnt:n≤t):closeV H n (f+1) (.vs k (.own t e) l)=some (.vs k .no l'):=by
 simp only [closeV,h,Nat.not_lt.2 hnt,if_false]
def BdS (n:Nat) (p:Int × Int):Prop:=-1≤p.1∧p.1≤(n:Int)∧-1≤p.2∧p.2≤(n:Int)
theorem moved_loop {so d n : Nat} {sp : Sp} (hsp : ∀ p ∈ sp, BdS n p) (hd : d ≤ 2000000) (hn : n ≤ 2000000) (hb : sp.length ≤ 1000000) {Hb : Hp} (H0 : Hp) :
    ∀ (k i:Nat) (y:AV) (Hc:Hp),sp.length - i=k→i≤sp.length→SpAt Hc so sp→RowB Hb.length Hc 2 y ((mvL d (sp.take i)).map spE)→Kpt [] Hb Hc →
    ∃ z H',L13_moved_L1 (spV so sp.length) (.int .i64 (d:Int)) y (.int .i64 (i:Int)) H0 Hc=some (z,H')∧RowB Hb.length H' 2 z ((mvL d sp).map spE)∧Kpt [] Hb H':=by
 intro k
 induction k with
 | zero =>
  intro i y Hc hk hi hS hr hK
  have hlt:decide ((i:Int) < (sp.length:Int))=false:=decide_eq_false (by omega)
  have l0:alenD (.slice 30) (spV so sp.length)=some (.int .i64 (sp.length:Int)):=rfl
  rw [List.take_of_length_le (by omega)] at hr
  rw [L13_moved_L1_eq]
  simp only [go_sem,l0,hlt,L13_moved_J1_eq]
  exact ⟨y,Hc,rfl,hr,hK⟩
 | succ k ihk =>
  intro i y Hc hk hi hS hr hK
  have hL:i < sp.length:=by omega
  have hlt:decide ((i:Int) < (sp.length:Int))=true:=decide_eq_true (by omega)
  have l0:alenD (.slice 30) (spV so sp.length)=some (.int .i64 (sp.length:Int)):=rfl
  obtain ⟨q1,_⟩:=hS.st (g:=(i:Int)) (by omega) (by omega) 0 0
  rw [Int.toNat_natCast] at q1
  have q2:=hS.ld hL
  have hgd:sp.getD i (0,0)=sp[i]:=by rw [List.getD_eq_getElem?_getD,List.getElem?_eq_getElem hL];rfl
  rw [hgd] at q2
  obtain ⟨b1,b2,b3,b4⟩:=hsp _ (List.getElem_mem hL)
  have htk:(mvL d (sp.take (i+1))).map spE=(mvL d (sp.take i)).map spE++[spE (mvS d sp[i])]:=by
   unfold mvL
   rw [List.take_succ_eq_append_getElem hL,List.map_append,List.map_append]
   rfl
  have gp:=get_push_len Hc (AObj.cells [(.int .i64 0),(.int .i64 0)]) []
  have st7:=st2 gp sp[i].1 sp[i].2
  obtain ⟨W,hW⟩:∃ W:Hp,W=(Hc++[AObj.cells [(.int .i64 0),(.int .i64 0)]]).set Hc.length (.cells [.int .i64 sp[i].1,.int .i64 sp[i].2]):=⟨_,rfl⟩
  rw [← hW] at st7
  have g7:W[Hc.length]?=some (.cells [.int .i64 sp[i].1,.int .i64 sp[i].2]):=by rw [hW];exact get_set_eq _ gp
  have d0:aload false 1 (.ptr Hc.length (0+0)) W=some (.int .i64 sp[i].1):=by rw [aload_of g7];rfl
  have d1:aload false 1 (.ptr Hc.length (0+1)) W=some (.int .i64 sp[i].2):=by rw [aload_of g7];rfl
  have hle:Hb.length≤Hc.length:=hK.1
  have tail : ∀ (V : Hp) (v : Int × Int), v = mvS d sp[i] → V[Hc.length]? = some (.cells [.int .i64 v.1, .int .i64 v.2]) → Kpt [] Hc V →
      ∃ z H',L13_moved_J4 (spV so sp.length) (.int .i64 (d:Int)) y (.int .i64 (i:Int)) (.ptr Hc.length 0) H0 V=some (z,H')∧RowB Hb.length H' 2 z ((mvL d sp).map spE)∧Kpt [] Hb H':=by
   intro V v hv hV hkV
   have lv:aload true 2 (.ptr Hc.length 0) V=some (.agg [.int .i64 v.1,.int .i64 v.2]):=by rw [aload_of hV];rfl
   have hrV:RowB Hb.length V 2 y ((mvL d (sp.take i)).map spE):=hr.mono fun t e ht=>hkV.get ht (by simp)
   have hkb:Kpt [] Hb V:=hK.trans hkV
   obtain ⟨y2,H2,s1,s2,s3,s6,s4,s5⟩:=hrV.app hkb.1 16 (.vs 2 .clip [spE v]) (spE v) rfl (by simp [mvL];omega)
   have e1:((setElems 2 [(0,AV.agg [.int .i64 v.1,.int .i64 v.2])] [(.agg [(.int .i64 0),(.int .i64 0)])]).map (AV.vs 2 .clip))=some (.vs 2 .clip [spE v]):=rfl
   have hS2:SpAt H2 so sp:=s4 _ _ (hkV.get hS (by simp))
   obtain ⟨z,H',r1,r2,r3⟩:=ihk (i+1) y2 H2 (by omega) (by omega) hS2 (by rw [htk,← hv];exact s2) ⟨by have:=hkb.1;omega,fun q hq _=>by rw [s6 q hq];exact hkb.2 q hq (by simp)⟩
   rw [L13_moved_J4_eq]
   simp only [go_sem,lv,e1,s1,L13_moved_J3_eq,wsucc (n:=i) (by omega),r1]
   exact ⟨z,H',rfl,r2,r3⟩
  rw [L13_moved_L1_eq]
  by_cases h0:0≤sp[i].1
  ·have c0:decide ((0:Int)≤sp[i].1)=true:=decide_eq_true h0
   have w1:IntKind.i64.wrap (sp[i].1+(d:Int))=sp[i].1+(d:Int):=wrap64 (by omega) (by omega)
   have w2:IntKind.i64.wrap (sp[i].2+(d:Int))=sp[i].2+(d:Int):=wrap64 (by omega) (by omega)
   have e2:((afill [(0,1,.int .i64 (sp[i].1+(d:Int))),(1,1,.int .i64 (sp[i].2+(d:Int)))] [(.int .i64 0),(.int .i64 0)]).map AV.agg)=some (.agg [.int .i64 (sp[i].1+(d:Int)),.int .i64 (sp[i].2+(d:Int))]):=rfl
   have st8:=st2 g7 (sp[i].1+(d:Int)) (sp[i].2+(d:Int))
   have hk1:Kpt [] Hc (W.set Hc.length (.cells [.int .i64 (sp[i].1+(d:Int)),.int .i64 (sp[i].2+(d:Int))])):=by
    rw [hW]
    exact ((Kpt.push [] Hc _).base (Kpt.set (W:=[Hc.length]) _ _ (by simp)) (by simp)).base (Kpt.set (W:=[Hc.length]) _ _ (by simp)) (by simp)
   obtain ⟨z,H',r1,r2⟩:=tail _ (sp[i].1+(d:Int),sp[i].2+(d:Int)) (by unfold mvS;rw [if_neg (by omega)]) (get_set_eq _ g7) hk1
   simp only [go_sem,l0,hlt,L13_moved_J2_eq,q1,q2,st7,d0,c0,w1,d1,w2,e2,st8,r1]
   exact ⟨z,H',rfl,r2⟩
  ·have c0:decide ((0:Int)≤sp[i].1)=false:=decide_eq_false h0
   have hk1:Kpt [] Hc W:=by
    rw [hW]
    exact (Kpt.push [] Hc _).base (Kpt.set (W:=[Hc.length]) _ _ (by simp)) (by simp)
   obtain ⟨z,H',r1,r2⟩:=tail W sp[i] (by unfold mvS;rw [if_pos (by omega)]) g7 hk1
   simp only [go_sem,l0,hlt,L13_moved_J2_eq,q1,q2,st7,d0,c0,r1]
   exact ⟨z,H',rfl,r2⟩
theorem moved_run {so d n : Nat} {sp : Sp} (hsp : ∀ p ∈ sp, BdS n p) (hd : d ≤ 2000000) (hn : n ≤ 2000000) (hb : sp.length ≤ 1000000) {H : Hp} (hS : SpAt H so sp) :
    ∃ z,SlC 2 z ((mvL d sp).map spE)∧roC C_L13_moved [spV so sp.length,.int .i64 (d:Int)] H=some (z,H):=by
 obtain ⟨z,H',r1,r2,r3⟩:=moved_loop hsp hd hn hb (Hb:=H) H sp.length 0 .nils H rfl (by omega) hS (.inl ⟨rfl,rfl⟩) (Kpt.refl _ _)
 have i0:(((0:Nat):Int))=0:=rfl
 rw [i0] at r1
 have hC:C_L13_moved [spV so sp.length,.int .i64 (d:Int)] H=some (z,H'):=by
  rw [F_L13_moved_eq]
  exact r1
 have ht:H'.take H.length=H:=by
  apply List.ext_getElem?
  intro i
  by_cases hi:i < H.length
  ·rw [List.getElem?_take_of_lt hi];exact r3.2 i hi (by simp)
  ·rw [List.getElem?_eq_none (by rw [List.length_take];omega),List.getElem?_eq_none (by omega)]
 have hcl:∀ f,∀ a ∈ (mvL d sp).map spE,closeV H' H.length (f+2) a=some a:=fun f a ha=>by
  obtain ⟨p,_,rfl⟩:=List.mem_map.1 ha
  rfl
 rcases r2 with ⟨rfl,he⟩ | ⟨t,e,rfl,_,hnt⟩
 ·exact ⟨.nils,.inl ⟨rfl,he⟩,ro_of hC ht rfl⟩
 ·refine ⟨.vs 2 .no ((mvL d sp).map spE),.inr (.inl rfl),ro_of hC ht ?_⟩
  exact close_own (f:=399) (mapM_self (hcl 397)) hnt
theorem moved_nil (d:Int) (H:Hp):roC C_L13_moved [.nils,.int .i64 d] H=some (.nils,H):=by
 refine ro_of (H':=H) (v:=.nils) ?_ (by simp) rfl
 rw [F_L13_moved_eq]
 unfold F_L13_moved
 rw [L13_moved_L1_eq]
 have l0:alenD (.slice 30) .nils=some (.int .i64 0):=rfl
 have e0:decide ((0:Int) < 0)=false:=rfl
 simp only [go_sem,l0,e0,L13_moved_J1_eq]
end Go.Am
namespace Go.Am
set_option linter.unusedSimpArgs false
set_option linter.unusedVariables false
set_option maxRecDepth 100000

theorem set_all {P:Int × Int→Prop} {sp:Sp} (h:∀ p ∈ sp,P p) {v:Int × Int} (hv:P v) (g:Nat):∀ p ∈ sp.set g v,P p:=fun p hp=>by
 rcases List.mem_or_eq_of_mem_set hp with hp | rfl
 ·exact h p hp
 ·exact hv
theorem clear_all {P:Int × Int→Prop} (hz:P (-1,-1)) (e:Rt):∀ sp:Sp,(∀ p ∈ sp,P p)→∀ p ∈ clearM e sp,P p:=by
 induction e using Rt.ind with
 | h hd args ih =>
  have key:∀ l:List Rt,(∀ e ∈ l,∀ sp:Sp,(∀ p ∈ sp,P p)→∀ p ∈ clearM e sp,P p)→∀ sp:Sp,(∀ p ∈ sp,P p)→∀ p ∈ clearL l sp,P p:=by
   intro l
   induction l with
   | nil=>intro _ sp h;rw [clearL_nil];exact h
   | cons e l ihl=>intro h sp hs;rw [clearL_cons];exact ihl (fun x hx=>h x (by simp [hx])) _ (h e (by simp) sp hs)
  intro sp hs
  rw [clearM_eq]
  refine key args ih _ ?_
  split
  ·exact set_all hs hz _
  ·exact hs
section
variable {E:Rt→Nat→Nat→List Bool} {S:Rt→Nat→Nat→Nat→List Bool} {P:Int × Int→Prop} {n:Nat}
theorem find_all (hz:P (-1,-1)) (hP:∀ i j:Nat,i≤j→j≤n→P ((i:Int),(j:Int))) (e:Rt):∀ (i j:Nat) (sp:Sp),i≤j→j≤n→(∀ p ∈ sp,P p)→∀ p ∈ findM E S e i j sp,P p:=by
 induction e using Rt.ind with
 | h hd args ih =>
  have halt:∀ (l:List Rt),(∀ e ∈ l,∀ (i j:Nat) (sp:Sp),i≤j→j≤n→(∀ p ∈ sp,P p)→∀ p ∈ findM E S e i j sp,P p)→∀ (i j:Nat) (sp:Sp),i≤j→j≤n→(∀ p ∈ sp,P p)→∀ p ∈ altF E S l i j sp,P p:=by
   intro l
   induction l with
   | nil=>intro _ i j sp _ _ h;rw [altF];exact h
   | cons e l ihl =>
    intro h i j sp hij hj hs
    rw [altF]
    split
    ·exact h e (by simp) i j sp hij hj hs
    ·exact ihl (fun x hx=>h x (by simp [hx])) i j sp hij hj hs
  have hcat:∀ (e0:Rt) (l:List Rt),(∀ e ∈ l,∀ (i j:Nat) (sp:Sp),i≤j→j≤n→(∀ p ∈ sp,P p)→∀ p ∈ findM E S e i j sp,P p)→∀ (t i j:Nat) (sp:Sp),i≤j→j≤n→(∀ p ∈ sp,P p)→∀ p ∈ catF E S e0 l t i j sp,P p:=by
   intro e0 l
   induction l with
   | nil=>intro _ t i j sp _ _ h;rw [catF];exact h
   | cons e l ihl =>
    intro h t i j sp hij hj hs
    rw [catF]
    rcases longM_bd (E e i j) i (S e0 t i j) i (j - i+1) with hm | ⟨m,m1,m2,_⟩
    ·rw [hm,if_pos (by decide)];exact hs
    ·rw [m2,if_neg (by omega),Int.toNat_natCast]
     exact ihl (fun x hx=>h x (by simp [hx])) (t+1) (i+m) j _ (by omega) hj (h e (by simp) i (i+m) sp (by omega) (by omega) hs)
  have hrep : ∀ (e0 x : Rt), (∀ (i j : Nat) (sp : Sp), i ≤ j → j ≤ n → (∀ p ∈ sp, P p) → ∀ p ∈ findM E S x i j sp, P p) → ∀ (E0 : Nat → Nat → List Bool) (S0 : Nat → List Bool) (lo hi : Int) (fr j : Nat), j ≤ n → ∀ (f c i : Nat) (sp : Sp), i ≤ j → (∀ p ∈ sp, P p) →
      ∀ p ∈ repLoop E0 S0 (fun a b sp=>findM E S x a b sp) (clearM e0) lo hi fr j f c i sp,P p:=by
   intro e0 x hx E0 S0 lo hi fr j hj f
   induction f with
   | zero=>intro c i sp _ h;rw [repLoop];exact h
   | succ f ihf =>
    intro c i sp hij hs
    rw [repLoop]
    split
    ·rcases longM_bd (if lo≤(c:Int) then (E0 i j).set 0 false else E0 i j) i (S0 (if hi < 0 then min c lo.toNat else c)) fr (j - i+1) with hm | ⟨m,m1,m2,_⟩
     ·rw [hm,if_pos (by decide)];exact hs
     ·rw [m2,if_neg (by omega),Int.toNat_natCast]
      exact ihf (c+1) (i+m) _ (by omega) (hx i (i+m) _ (by omega) (by omega) (clear_all hz e0 sp hs))
    ·exact hs
  intro i j sp hij hj hs
  rw [find_eq]
  split
  ·refine set_all ?_ (hP i j hij hj) _
   cases args with
   | nil=>rw [headF];exact hs
   | cons x l=>rw [headF];exact ih x (by simp) i j sp hij hj hs
  split
  ·exact halt args ih i j sp hij hj hs
  split
  ·exact hcat _ args ih 0 i j sp hij hj hs
  split
  ·cases args with
   | nil=>rw [repF];exact hs
   | cons x l=>rw [repF];exact hrep _ x (ih x (by simp)) _ _ _ _ i j hj _ _ i sp hij hs
  ·exact hs
end
theorem caps_all (s:List UInt8) (lines:Bool) (e:Rt) {i j:Nat} (hij:i≤j) (hj:j≤s.length):∀ p ∈ capS s lines e i j,BdS s.length p:=by
 have h1:∀ i j:Nat,i≤j→j≤s.length→BdS s.length ((i:Int),(j:Int)):=fun i j h1 h2=>⟨by simp only;omega,by simp only;omega,by simp only;omega,by simp only;omega⟩
 have h0:BdS s.length (-1,-1):=⟨by decide,by simp only;omega,by decide,by simp only;omega⟩
 unfold capS
 refine set_all (find_all (n:=s.length) h0 h1 e i j _ hij hj ?_) (h1 i j hij hj) _
 intro p hp
 rw [List.eq_of_mem_replicate hp]
 exact h0
theorem sp_ncmp (a b c d : Int) : aeqBin Go.Proofs.Try.prog cfg.eqok .neq 30 (.agg [.int .i64 a, .int .i64 b]) (.agg [.int .i64 c, .int .i64 d]) =
    (match (match some (a == c) with
     | some true=>(match some (b == d) with
      | some true=>some true
      | r=>r)
     | r=>r:Option Bool) with
    | some b=>some (.bool (!b))
    | none=>none):=by kernel_rfl
theorem sp_ncmp' (a b:Int):aeqBin Go.Proofs.Try.prog cfg.eqok .neq 30 (.agg [.int .i64 a,.int .i64 b]) (.agg [.int .i64 a,.int .i64 b])=some (.bool false):=by
 rw [sp_ncmp,show (a == a)=true from by simp,show (b == b)=true from by simp]
 rfl
theorem same_spans {so:Nat} {Q:Sp} {y:AV} (hy:SlC 2 y (Q.map spE)) (hb:Q.length≤1000000) {H:Hp} (hS:SpAt H so Q):roC C_R09_SameSpans [y,spV so Q.length] H=some (.bool true,H):=by
 have l0:alenD (.slice 30) (spV so Q.length)=some (.int .i64 (Q.length:Int)):=rfl
 have l1:alenD (.slice 30) y=some (.int .i64 (Q.length:Int)):=by rw [hy.len,List.length_map]
 have loop:∀ (k i:Nat),Q.length - i=k→i≤Q.length→R09_SameSpans_L1 y (spV so Q.length) (.int .i64 (i:Int)) H H=some (.bool true,H):=by
  intro k
  induction k with
  | zero =>
   intro i hk hi
   have hlt:decide ((i:Int) < (Q.length:Int))=false:=decide_eq_false (by omega)
   rw [R09_SameSpans_L1_eq]
   simp only [go_sem,l1,hlt,R09_SameSpans_J2_eq]
  | succ k ih =>
   intro i hk hi
   have hL:i < Q.length:=by omega
   have hlt:decide ((i:Int) < (Q.length:Int))=true:=decide_eq_true (by omega)
   obtain ⟨q1,_⟩:=hS.st (g:=(i:Int)) (by omega) (by omega) 0 0
   rw [Int.toNat_natCast] at q1
   have q2:=hS.ld hL
   have hgd:Q.getD i (0,0)=Q[i]:=by rw [List.getD_eq_getElem?_getD,List.getElem?_eq_getElem hL];rfl
   rw [hgd] at q2
   have hyi:=hy.idx (i:=i) (a:=spE Q[i]) (by rw [List.getElem?_map,List.getElem?_eq_getElem hL];rfl)
   have lv:aload true 2 (.vp (spE Q[i]).cells) H=some (.agg [.int .i64 Q[i].1,.int .i64 Q[i].2]):=rfl
   rw [R09_SameSpans_L1_eq]
   simp only [go_sem,l1,hlt,R09_SameSpans_J3_eq,hyi,lv,q1,q2,sp_ncmp',R09_SameSpans_J4_eq,wsucc (n:=i) (by omega)]
   exact ih (i+1) (by omega) (by omega)
 refine ro_of (H':=H) (v:=.bool true) ?_ (by simp) (close_bool _ _ _ _)
 have hn:((Q.length:Int) != (Q.length:Int))=false:=by simp
 have:=loop Q.length 0 rfl (by omega)
 have i0:(((0:Nat):Int))=0:=rfl
 rw [i0] at this
 rw [F_R09_SameSpans_eq]
 unfold F_R09_SameSpans
 simp only [go_sem,l0,l1,hn,R09_SameSpans_J1_eq,this]
theorem same_nil (H:Hp):roC C_R09_SameSpans [.nils,.nils] H=some (.bool true,H):=by
 refine ro_of (H':=H) (v:=.bool true) ?_ (by simp) (close_bool _ _ _ _)
 have l0:alenD (.slice 30) .nils=some (.int .i64 0):=rfl
 have hn:((0:Int) != 0)=false:=rfl
 have e0:decide ((0:Int) < 0)=false:=rfl
 rw [F_R09_SameSpans_eq]
 unfold F_R09_SameSpans
 simp only [go_sem,l0,hn,R09_SameSpans_J1_eq,R09_SameSpans_L1_eq,e0,R09_SameSpans_J2_eq]
theorem same_match {y z : AV} (hy : y.cells = [y] ∧ y.known = true) (hz : z.cells = [z] ∧ z.known = true) {H : Hp} (h : ∀ W : Hp, Kpt [] H W → roC C_R09_SameSpans [y, z] W = some (.bool true, W)) :
    roC C_L09_SameMatch [.agg [y],.agg [z]] H=some (.bool true,H):=by
 have b1:∀ W:Hp,abox (.agg [y]) W=some (.ptr W.length 0,W++[.cells [y]]):=fun W=>by rw [abox_of (by simp [AV.known,hy.2])];simp [AV.cells,hy.1]
 have b2:∀ W:Hp,abox (.agg [z]) W=some (.ptr W.length 0,W++[.cells [z]]):=fun W=>by rw [abox_of (by simp [AV.known,hz.2])];simp [AV.cells,hz.1]
 have l1:(H++[AObj.cells [y]]).length=H.length+1:=by simp
 obtain ⟨W,hW⟩:∃ W:Hp,W=(H++[AObj.cells [y]])++[.cells [z]]:=⟨_,rfl⟩
 have g2:W[H.length]?=some (.cells [y]):=by rw [hW];exact get_push (get_push_len H _ []) _
 have g3:W[H.length+1]?=some (.cells [z]):=by rw [hW,← l1];exact get_push_len _ _ []
 have d2:aload false 1 (.ptr H.length (0+0)) W=some y:=by rw [aload_of g2];rfl
 have d3:aload false 1 (.ptr (H.length+1) (0+0)) W=some z:=by rw [aload_of g3];rfl
 have hk:Kpt [] H W:=by rw [hW];exact (Kpt.push _ _ _).trans (Kpt.push _ _ _)
 refine ro_of (H':=W) (v:=.bool true) ?_ (by rw [hW];simp) (close_bool _ _ _ _)
 rw [F_L09_SameMatch_eq]
 unfold F_L09_SameMatch
 simp only [go_sem,b1,b2,l1,← hW,d2,d3,h W hk]
end Go.Am
namespace Go.Am
set_option linter.unusedSimpArgs false
set_option linter.unusedVariables false
set_option maxRecDepth 100000

theorem shf_app (b s c:List UInt8):Shf s ((b++s)++c) b.length:=fun k hk=>by
 rw [List.getD_eq_getElem?_getD,List.getD_eq_getElem?_getD,List.getElem?_append_left (by rw [List.length_append];omega),List.getElem?_append_right (by omega)]
 congr 2
 omega
theorem Moves_law {e : Rt} {a : AV} (ha : RtC e a) (s : List UInt8) (fr to : Int) (lines : Bool) {b c : List UInt8} (hb : b.length ≤ 1048576) (hc : c.length ≤ 1048576) (H : Hp) (haw : ∀ H : Hp, flatC C_L13_awake [] H = some (.bool true, H)) :
    ∃ H',C_L13_RecaptureMoves [a,.agg (cse s fr to lines),.str b,.str c] H=some (.bool true,H'):=by
 have ha0:=ha
 obtain ⟨x,l,rfl,hx,hl⟩:=ha.out
 have hb3:∀ H,abox (.agg (cse s fr to lines)) H=some (.ptr H.length 0,H++[.cells (cse s fr to lines)]):=fun _=>rfl
 obtain ⟨W,hW⟩:∃ W:Hp,W=(H++[AObj.cells (reC e.hd x)])++[.cells (cse s fr to lines)]:=⟨_,rfl⟩
 have l1:(H++[AObj.cells (reC e.hd x)]).length=H.length+1:=by simp
 have g2:W[H.length]?=some (.cells (reC e.hd x)):=by rw [hW];exact get_push (get_push_len H _ []) _
 have g3:W[H.length+1]?=some (.cells (cse s fr to lines)):=by rw [hW,← l1];exact get_push_len _ _ []
 have hsm:=small_run ha0 (n:=40) (by omega) W
 have i40:(((40:Nat):Int))=40:=rfl
 rw [i40] at hsm
 have d0:∀ {V:Hp},V[H.length+1]?=some (.cells (cse s fr to lines))→aload false 1 (.ptr (H.length+1) (0+0)) V=some (.str s):=fun h=>by rw [aload_of h];rfl
 have d1:∀ {V:Hp},V[H.length+1]?=some (.cells (cse s fr to lines))→aload true 2 (.ptr (H.length+1) (0+1)) V=some (.agg [.int .i64 fr,.int .i64 to]):=fun h=>by rw [aload_of h];rfl
 have d1a:∀ {V:Hp},V[H.length+1]?=some (.cells (cse s fr to lines))→aload false 1 (.ptr (H.length+1) (0+1+0)) V=some (.int .i64 fr):=fun h=>by rw [aload_of h];rfl
 have d1b:∀ {V:Hp},V[H.length+1]?=some (.cells (cse s fr to lines))→aload false 1 (.ptr (H.length+1) (0+1+1)) V=some (.int .i64 to):=fun h=>by rw [aload_of h];rfl
 have d3:∀ {V:Hp},V[H.length+1]?=some (.cells (cse s fr to lines))→aload false 1 (.ptr (H.length+1) (0+3)) V=some (.bool lines):=fun h=>by rw [aload_of h];rfl
 have len0:alenD .string (.str s)=some (.int .i64 (s.length:Int)):=rfl
 have lenb:alenD .string (.str b)=some (.int .i64 (b.length:Int)):=rfl
 rw [F_L13_RecaptureMoves_eq]
 unfold F_L13_RecaptureMoves
 simp only [box_re,bnd_some,hb3,l1,← hW,ld_re g2,hsm]
 by_cases hs:cntS e 40 8≤40
 case neg =>
  have hs:=decide_eq_false hs
  simp only [go_sem,hs,haw,Bool.not_false]
  exact ⟨_,rfl⟩
 obtain ⟨z1,z2,z3⟩:=cntS_small e 40 8 hs
 have hs:=decide_eq_true hs
 by_cases hlen:(24:Int) < (s.length:Int)
 ·have b1:=decide_eq_true hlen
  simp only [go_sem,hs,haw,Bool.not_true,d0 g3,len0,b1]
  exact ⟨_,rfl⟩
 have b1:=decide_eq_false hlen
 have hanc:=anchored_run e _ ha0 (by omega) (by omega) W
 cases hA:ancM e with
 | true =>
  rw [hA] at hanc
  simp only [go_sem,hs,haw,Bool.not_true,d0 g3,len0,b1,hanc]
  exact ⟨_,rfl⟩
 | false =>
 rw [hA] at hanc
 obtain ⟨v,H1,c1,c2,c3⟩:=Captures_run ha0 (by omega) (by omega) (s:=s) (by omega) fr to lines W
 have g5:=get_push_len H1 (AObj.cells [.nils]) []
 have x0:∀ u w z:AV,aext (.tuple [u,w,z]) 0=some u:=fun _ _ _=>rfl
 have x1:∀ u w z:AV,aext (.tuple [u,w,z]) 1=some w:=fun _ _ _=>rfl
 have x2:∀ u w z:AV,aext (.tuple [u,w,z]) 2=some z:=fun _ _ _=>rfl
 have bad:∀ n:Int,n ≠ 0→v=.tuple [.agg [.nils],.bool false,.int .i64 n]→∃ H',L13_RecaptureMoves_J1 (.str b) (.str c) (.ptr H.length 0) (.ptr (H.length+1) 0) H W=some (.bool true,H'):=fun n hn hv=>by
  subst hv
  obtain ⟨y1,y2⟩:=st8 g5 (x:=.nils) rfl rfl
  have e0:(n != 0)=true:=by simpa using hn
  rw [L13_RecaptureMoves_J1_eq]
  simp only [go_sem,ld_re g2,d0 g3,d1 g3,d3 g3,c1,x0,x1,x2,y1,e0,haw]
  exact ⟨_,rfl⟩
 have hsb:sbin .add (.str b) (.str s)=some (.str (b++s)):=sbin_add (by omega)
 have hsc:sbin .add (.str (b++s)) (.str c)=some (.str ((b++s)++c)):=sbin_add (by rw [List.length_append];omega)
 have hln:((b++s)++c).length=b.length+s.length+c.length:=by simp only [List.length_append]
 have hshf:=shf_app b s c
 have e0:((0:Int) != 0)=false:=rfl
 have e00:((0:Int) == 0)=true:=rfl
 -- the second search,behind a first one without a fault
 have good : ∀ (i j : Nat) (f : Bool) (z : AV), (compM e).2 = 0 → fr = (i : Int) → to = (j : Int) → i ≤ j → j ≤ s.length → (endsM s lines e i j).getD (j - i) false = f → z.cells = [z] ∧ z.known = true → v = .tuple [.agg [z], .bool f, .int .i64 0] →
     (f=false→z=.nils)→(f=true→∃ so,z=spV so (capS s lines e i j).length∧SpAt H1 so (capS s lines e i j)) →
     ∃ H',L13_RecaptureMoves_J1 (.str b) (.str c) (.ptr H.length 0) (.ptr (H.length+1) 0) H W=some (.bool true,H'):=by
  intro i j f z hcm hfr hto hij hj hE hz hv hff hft
  subst hfr hto hv
  obtain ⟨hok,hnum,hn9⟩:=okE_of hcm
  obtain ⟨y1,y2⟩:=st8 g5 (x:=z) hz.1 hz.2
  obtain ⟨V,hV⟩:∃ V:Hp,V=(H1++[AObj.cells [.nils]]).set H1.length (.cells [z]):=⟨_,rfl⟩
  rw [← hV] at y1
  have hk:Kpt [] H1 V:=by rw [hV];exact (Kpt.push [] H1 _).base (Kpt.set (W:=[H1.length]) _ _ (by simp)) (by simp)
  have g2V:=hk.get (c2.get g2 (by simp)) (by simp)
  have g3V:=hk.get (c2.get g3 (by simp)) (by simp)
  have g9:V[H1.length]?=some (.cells [z]):=by rw [hV];exact get_set_eq _ g5
  have w1:IntKind.i64.wrap ((i:Int)+(b.length:Int))=((b.length+i:Nat):Int):=by rw [wrap64 (by omega) (by omega)];omega
  have w2:IntKind.i64.wrap ((j:Int)+(b.length:Int))=((b.length+j:Nat):Int):=by rw [wrap64 (by omega) (by omega)];omega
  have ef:((afill [(0,1,.int .i64 ((b.length+i:Nat):Int)),(1,1,.int .i64 ((b.length+j:Nat):Int))] [(.int .i64 0),(.int .i64 0)]).map AV.agg)=some (.agg [.int .i64 ((b.length+i:Nat):Int),.int .i64 ((b.length+j:Nat):Int)]):=rfl
  obtain ⟨v',H2,r1,r2,r3⟩:=Captures_run ha0 (by omega) (by omega) (s:=(b++s)++c) (by omega) ((b.length+i:Nat):Int) ((b.length+j:Nat):Int) lines V
  have hes:=ends_shift hshf lines hA (i:=i) (j:=j) (by omega) hj
  -- its outcome
  have hv2:∃ z',v'=.tuple [.agg [z'],.bool f,.int .i64 0]∧(z'.cells=[z']∧z'.known=true)∧(f=false→z'=.nils)∧(f=true→∃ so,z'=spV so (mvL b.length (capS s lines e i j)).length∧SpAt H2 so (mvL b.length (capS s lines e i j))):=by
   cases r3 with
   | err h=>exact absurd hcm h
   | range h h'=>omega
   | no i' j' h h1 h2 h3 h4 h5 =>
    have hi:i'=b.length+i:=by omega
    have hj':j'=b.length+j:=by omega
    subst hi hj'
    rw [hes,show b.length+j - (b.length+i)=j - i from by omega,hE] at h5
    exact ⟨.nils,by rw [h5],⟨rfl,rfl⟩,fun _=>rfl,fun h=>by rw [h5] at h;cases h⟩
   | yes i' j' so h h1 h2 h3 h4 h5 h6 hS =>
    have hi:i'=b.length+i:=by omega
    have hj':j'=b.length+j:=by omega
    subst hi hj'
    rw [hes,show b.length+j - (b.length+i)=j - i from by omega,hE] at h5
    rw [caps_shift hshf lines hA hij hj] at hS
    have hcl:=(caps_nest (s:=s) (lines:=lines) (i:=i) (j:=j) hnum hij).1
    refine ⟨spV so (cntM 6 e+1),by rw [h5],⟨rfl,rfl⟩,(fun h=>by rw [h5] at h;cases h),fun _=>⟨so,?_,hS⟩⟩
    rw [← hcl]
    unfold mvL
    rw [List.length_map]
  obtain ⟨z',rfl,hz',hff',hft'⟩:=hv2
  have g13:=get_push_len H2 (AObj.cells [.nils]) []
  obtain ⟨y3,y4⟩:=st8 g13 (x:=z') hz'.1 hz'.2
  obtain ⟨X,hX⟩:∃ X:Hp,X=(H2++[AObj.cells [.nils]]).set H2.length (.cells [z']):=⟨_,rfl⟩
  rw [← hX] at y3 y4
  have hk2:Kpt [] H2 X:=by rw [hX];exact (Kpt.push [] H2 _).base (Kpt.set (W:=[H2.length]) _ _ (by simp)) (by simp)
  have l9:aload false 1 (.ptr H1.length (0+0)) X=some z:=by rw [aload_of (hk2.get (r2.get g9 (by simp)) (by simp))];rfl
  have ef0:(f == f)=true:=by simp
  have fin:∃ m,(m.cells=[m]∧m.known=true)∧roC C_L13_moved [z,.int .i64 (b.length:Int)] X=some (m,X)∧roC C_L09_SameMatch [.agg [m],.agg [z']] X=some (.bool true,X):=by
   cases f with
   | false =>
    rw [hff rfl,hff' rfl]
    exact ⟨.nils,⟨rfl,rfl⟩,moved_nil _ _,same_match ⟨rfl,rfl⟩ ⟨rfl,rfl⟩ fun W _=>same_nil W⟩
   | true =>
    obtain ⟨so,e1,hS⟩:=hft rfl
    obtain ⟨so',e2,hS'⟩:=hft' rfl
    have hcl:=(caps_nest (s:=s) (lines:=lines) (i:=i) (j:=j) hnum hij).1
    obtain ⟨m,m1,m2⟩:=moved_run (d:=b.length) (n:=s.length) (caps_all s lines e hij hj) (by omega) (by omega) (by omega) (H:=X) (so:=so) (hk2.get (r2.get (hk.get hS (by simp)) (by simp)) (by simp))
    rw [e1,e2]
    refine ⟨m,m1.known,m2,same_match m1.known ⟨rfl,rfl⟩ fun W hW=>same_spans m1 (by unfold mvL;rw [List.length_map];omega) ((hk2.trans hW).get hS' (by simp))⟩
  obtain ⟨m,hm,f1,f2⟩:=fin
  have em:((afill [(0,1,m)] [.nils]).map AV.agg)=some (.agg [m]):=by
   simp [afill,splice,hm.1,hm.2]
  rw [L13_RecaptureMoves_J1_eq]
  simp only [go_sem,ld_re g2,d0 g3,d1 g3,d3 g3,c1,x0,x1,x2,y1,e0,L13_RecaptureMoves_J2_eq,lenb,ld_re g2V,d0 g3V,d1a g3V,d1b g3V,d3 g3V,hsb,hsc,w1,w2,ef,r1,y3,ef0,e00,l9,f1,em,y4,f2,haw]
  exact ⟨_,rfl⟩
 have key:∃ H',L13_RecaptureMoves_J1 (.str b) (.str c) (.ptr H.length 0) (.ptr (H.length+1) 0) H W=some (.bool true,H'):=by
  cases c3 with
  | err h=>exact bad _ h rfl
  | range h h'=>exact bad _ (by decide) rfl
  | no i j h h1 h2 h3 h4 h5=>exact good i j false .nils h h1 h2 h3 h4 h5 ⟨rfl,rfl⟩ rfl (fun _=>rfl) (fun h=>by cases h)
  | yes i j so h h1 h2 h3 h4 h5 h6 hS =>
   have hcl:=(caps_nest (s:=s) (lines:=lines) (i:=i) (j:=j) (okE_of h).2.1 h3).1
   exact good i j true (spV so (cntM 6 e+1)) h h1 h2 h3 h4 h5 ⟨rfl,rfl⟩ rfl (fun h=>by cases h) (fun _=>⟨so,by rw [hcl],hS⟩)
 simp only [go_sem,hs,Bool.not_true,d0 g3,len0,b1,hanc]
 exact key
end Go.Am
