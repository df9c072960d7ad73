/-
  Captures: the whole function.
-/
import Derived.Test.YtpahcdhligjdiaaRcAex
namespace Go.Am
set_option linter.unusedSimpArgs false
set_option linter.unusedVariables false
set_option maxRecDepth 100000

def Tb0:Tb:=⟨fun _=>none,fun _=>none,fun _=>none⟩
theorem InvT.empty (H:Hp):InvT H Tb0:=by
 constructor <;> intro o e h <;> cases h
theorem amake_sp (n:Nat) (h0:0 < n) (h1:n≤1000000) (H:Hp):amake 2 16 true (.agg [(.int .i64 0),(.int .i64 0)]) (.int .i64 (n:Int)) (.int .i64 (n:Int)) H=some (spV H.length n,H++[.cells (flat ((List.replicate n ((0:Int),(0:Int))).map spE))]):=by
 have hfit:fits n 16=true:=by simp [fits];omega
 have hfl:∀ m:Nat,(List.replicate m (AV.agg [(.int .i64 0),(.int .i64 0)]).cells).flatten=flat ((List.replicate m ((0:Int),(0:Int))).map spE):=by
  intro m
  induction m with
  | zero=>rfl
  | succ m ih=>rw [List.replicate_succ,List.flatten_cons,ih,List.replicate_succ,List.map_cons,flat_cons];rfl
 unfold amake
 dsimp only
 rw [if_pos ⟨by omega,by omega,rfl,rfl,by omega,by rw [Int.toNat_natCast];exact hfit⟩,if_neg (by omega),Int.toNat_natCast,hfl]
 rfl
def capS (s:List UInt8) (lines:Bool) (e:Rt) (fr to:Nat):Sp:=(findM (endsM s lines) (startsM s lines) e fr to (List.replicate (cntM 6 e+1) (-1,-1))).set 0 ((fr:Int),(to:Int))
inductive CapV (e:Rt) (s:List UInt8) (lines:Bool) (fr to:Int) (n:Nat) (H:Hp):AV→Prop
 | err:(compM e).2 ≠ 0→CapV e s lines fr to n H (.tuple [.agg [.nils],.bool false,.int .i64 (compM e).2])
 | range:(compM e).2=0→(fr < 0 ∨ to < fr ∨ (s.length:Int) < to)→CapV e s lines fr to n H (.tuple [.agg [.nils],.bool false,.int .i64 2])
 | no (i j:Nat):(compM e).2=0→fr=(i:Int)→to=(j:Int)→i≤j→j≤s.length→(endsM s lines e i j).getD (j - i) false=false→CapV e s lines fr to n H (.tuple [.agg [.nils],.bool false,.int .i64 0])
 | yes (i j so : Nat) : (compM e).2 = 0 → fr = (i : Int) → to = (j : Int) → i ≤ j → j ≤ s.length → (endsM s lines e i j).getD (j - i) false = true → n ≤ so → SpAt H so (capS s lines e i j) →
     CapV e s lines fr to n H (.tuple [.agg [spV so (cntM 6 e+1)],.bool true,.int .i64 0])
theorem comp_zero {e:Rt} (h:(compM e).2=0):checkM e=0:=by
 unfold compM at h
 split at h
 ·exact h
 ·rename_i hc
  exact Decidable.byContradiction hc
theorem okE_of {e:Rt} (h:(compM e).2=0):OkE e∧numB e 0=true∧cntM 6 e≤9:=by
 obtain ⟨h1,h2,h3,h4,h5,h6⟩:=check_ok (comp_zero h)
 obtain ⟨n1,n2⟩:=node_num e ck0S
 have z:ck0S.groups=0:=rfl
 rw [z] at n1 n2
 exact ⟨⟨h1,h2,h3,h4⟩,n2 h5,by omega⟩
theorem st8 {W:Hp} {o:Nat} {v:AV} (h:W[o]?=some (.cells [v])) {x:AV} (hx:x.cells=[x]) (hk:x.known=true):astoreU 1 (.ptr o 0) (.agg [x]) W=some (.tuple [],W.set o (.cells [x]))∧aload true 1 (.ptr o 0) (W.set o (.cells [x]))=some (.agg [x]):=by
 refine ⟨?_,?_⟩
 ·rw [astore_of (sz:=1) (v:=.agg [x]) h (by simp [AV.known,hk]) (by simp [AV.cells,hx]) (by simp)]
  simp [splice,AV.cells,hx]
 ·rw [aload_of (get_set_eq _ h)]
  rfl
theorem caps_loop {fo so : Nat} {s : List UInt8} {lines : Bool} {n : Nat} {x4 x6 x8 : AV} (hb : n ≤ 1000000) (H0 : Hp) :
    ∀ (k i:Nat) (sp:Sp) (Hc:Hp),n - i=k→i≤n→sp.length=n→(∀ t,t < i→sp[t]?=some (-1,-1))→FdAt Hc fo s lines (spV so n)→SpAt Hc so sp→fo ≠ so →
    ∃ H',recapture_Captures_L1 x4 x6 x8 (.ptr fo 0) (.int .i64 (n:Int)) (.int .i64 (i:Int)) H0 Hc=recapture_Captures_J3 x4 x6 x8 (.ptr fo 0) H0 H'∧SpAt H' so (List.replicate n (-1,-1))∧Kpt [so] Hc H':=by
 intro k
 induction k with
 | zero =>
  intro i sp Hc hk hi hl hp hF hS hn
  have hlt:decide ((i:Int) < (n:Int))=false:=decide_eq_false (by omega)
  have he:sp=List.replicate n (-1,-1):=by
   apply List.ext_getElem?
   intro t
   rw [List.getElem?_replicate]
   by_cases ht:t < n
   ·rw [if_pos ht,hp t (by omega)]
   ·rw [if_neg ht,List.getElem?_eq_none (by omega)]
  rw [recapture_Captures_L1_eq]
  simp only [go_sem,hlt]
  exact ⟨Hc,rfl,by rw [← he];exact hS,Kpt.refl _ _⟩
 | succ k ih =>
  intro i sp Hc hk hi hl hp hF hS hn
  have hlt:decide ((i:Int) < (n:Int))=true:=decide_eq_true (by omega)
  obtain ⟨s1,s2⟩:=hS.st (g:=(i:Int)) (by omega) (by rw [hl];omega) (-1) (-1)
  rw [hl] at s1
  rw [Int.toNat_natCast] at s1 s2
  have e1:((afill [(0,1,(.int .i64 (-1))),(1,1,(.int .i64 (-1)))] [(.int .i64 0),(.int .i64 0)]).map AV.agg)=some (.agg [.int .i64 (-1),.int .i64 (-1)]):=rfl
  have hk2:Kpt [so] Hc (Hc.set so (.cells (flat ((sp.set i ((-1:Int),(-1:Int))).map spE)))):=Kpt.set _ _ (by simp)
  have hS2:SpAt (Hc.set so (.cells (flat ((sp.set i ((-1:Int),(-1:Int))).map spE)))) so (sp.set i (-1,-1)):=get_set_eq _ hS
  have hF2:FdAt (Hc.set so (.cells (flat ((sp.set i ((-1:Int),(-1:Int))).map spE)))) fo s lines (spV so n):=get_set_ne _ (Ne.symm hn) hF
  obtain ⟨H',r1,r2,r3⟩:=ih (i+1) (sp.set i (-1,-1)) _ (by omega) (by omega) (by rw [List.length_set];exact hl) (fun t ht=>by
   rw [List.getElem?_set]
   by_cases hti:i=t
   ·rw [if_pos hti,if_pos (by omega)]
   ·rw [if_neg hti];exact hp t (by omega)) hF2 hS2 hn
  rw [recapture_Captures_L1_eq]
  simp only [go_sem,hlt,recapture_Captures_J5_eq,hF.ldP,e1,s1,s2,recapture_Captures_J6_eq,wsucc (n:=i) (by omega),r1]
  exact ⟨H',rfl,r2,hk2.trans r3⟩
theorem Captures_run {e : Rt} {a : AV} (ha : RtC e a) (hd : dep e ≤ 55) (hz : siz e ≤ 800) {s : List UInt8} (hs : s.length ≤ 3000000) (fr to : Int) (lines : Bool) (H : Hp) :
    ∃ v H',C_recapture_Captures [a,.str s,.agg [.int .i64 fr,.int .i64 to],.bool lines] H=some (v,H')∧Kpt [] H H'∧CapV e s lines fr to H.length H' v:=by
 obtain ⟨xc,hxc,hcr⟩:=compile_run ha hd hz lines
 have hgr:=groups_run ha (by omega) (by omega)
 have ha0:=ha
 obtain ⟨x,l,rfl,hx,hl⟩:=ha.out
 rw [F_recapture_Captures_eq]
 unfold F_recapture_Captures
 have hb6:∀ H,abox (.agg [.int .i64 fr,.int .i64 to]) H=some (.ptr H.length 0,H++[.cells [.int .i64 fr,.int .i64 to]]):=fun _=>rfl
 obtain ⟨W0,hW0⟩:∃ W0:Hp,W0=((H++[AObj.cells (reC e.hd x)])++[.cells [.int .i64 fr,.int .i64 to]])++[.cells [.nils]]:=⟨_,rfl⟩
 have l1:(H++[AObj.cells (reC e.hd x)]).length=H.length+1:=by simp
 have l2:((H++[AObj.cells (reC e.hd x)])++[AObj.cells [.int .i64 fr,.int .i64 to]]).length=H.length+2:=by simp
 have l3:W0.length=H.length+3:=by rw [hW0];simp
 have g4:W0[H.length]?=some (.cells (reC e.hd x)):=by rw [hW0];exact get_push (get_push (get_push_len H _ []) _) _
 have g6:W0[H.length+1]?=some (.cells [.int .i64 fr,.int .i64 to]):=by rw [hW0,← l1];exact get_push (get_push_len _ _ []) _
 have g8:W0[H.length+2]?=some (.cells [.nils]):=by rw [hW0,← l2];exact get_push_len _ _ []
 have hK0:Kpt [] H W0:=by rw [hW0];exact ((Kpt.push _ _ _).trans (Kpt.push _ _ _)).trans (Kpt.push _ _ _)
 have kx:(AV.agg [xc,.bool (if (compM e).2=0 then lines else false)]).known=true∧(AV.agg [xc,.bool (if (compM e).2=0 then lines else false)]).cells=[xc,.bool (if (compM e).2=0 then lines else false)]:=by
  rcases hxc with ⟨rfl,_⟩ | ⟨t,rfl,_⟩ <;> exact ⟨rfl,rfl⟩
 have g11:(W0++[AObj.cells [.nils,.bool false]])[W0.length]?=some (.cells [.nils,.bool false]):=get_push_len _ _ []
 have hst:astoreU 2 (.ptr W0.length 0) (.agg [xc,.bool (if (compM e).2=0 then lines else false)]) (W0++[AObj.cells [.nils,(.bool false)]])=some (.tuple [],W0++[AObj.cells [xc,.bool (if (compM e).2=0 then lines else false)]]):=by
  rw [astore_of (sz:=2) g11 kx.1 (by rw [kx.2];rfl) (by simp),kx.2]
  simp [splice]
 have x0:∀ u w:AV,aext (.tuple [u,w]) 0=some u:=fun _ _=>rfl
 have x1:∀ u w:AV,aext (.tuple [u,w]) 1=some w:=fun _ _=>rfl
 simp only [box_re,bnd_some,hb6,l1,l2,← hW0,ld_re g4,hcr,x0,x1,hst]
 obtain ⟨W,hW⟩:∃ W:Hp,W=W0++[AObj.cells [xc,.bool (if (compM e).2=0 then lines else false)]]:=⟨_,rfl⟩
 rw [← hW]
 have hlW:W.length=H.length+4:=by rw [hW,List.length_append,l3];rfl
 have hK:Kpt [] H W:=by rw [hW];exact hK0.trans (Kpt.push _ _ _)
 have g4:W[H.length]?=some (.cells (reC e.hd x)):=by rw [hW];exact get_push g4 _
 have g6:W[H.length+1]?=some (.cells [.int .i64 fr,.int .i64 to]):=by rw [hW];exact get_push g6 _
 have g8:W[H.length+2]?=some (.cells [.nils]):=by rw [hW];exact get_push g8 _
 obtain ⟨t1,t2⟩:=st8 g8 (x:=.nils) rfl rfl
 have hKe:Kpt [] H (W.set (H.length+2) (.cells [.nils])):=hK.base (Kpt.set (W:=[H.length+2]) W _ (by simp)) (by simp)
 by_cases hc0:(compM e).2=0
 case neg =>
  have hb:((compM e).2 != 0)=true:=by simpa using hc0
  simp only [go_sem,hb,t1,t2]
  exact ⟨_,_,rfl,hKe,.err hc0⟩
 have hb:((compM e).2 != 0)=false:=by simp [hc0]
 have d0:aload false 1 (.ptr (H.length+1) (0+0)) W=some (.int .i64 fr):=by rw [aload_of g6];rfl
 have d1:aload false 1 (.ptr (H.length+1) (0+1)) W=some (.int .i64 to):=by rw [aload_of g6];rfl
 have len0:alenD .string (.str s)=some (.int .i64 (s.length:Int)):=rfl
 rw [show (ibin .neq (AV.int .i64 (compM e).2) (AV.int .i64 0))=some (.bool false) from by simp only [go_sem,hb]]
 by_cases hr:fr < 0 ∨ to < fr ∨ (s.length:Int) < to
 ·have key : ∀ H0, recapture_Captures_J1 (.str s) (.bool lines) (.ptr H.length 0) (.ptr (H.length + 1) 0) (.ptr (H.length + 2) 0) H0 W = some (.tuple [.agg [.nils], .bool false, .int .i64 2], W.set (H.length + 2) (.cells [.nils])) := by
     intro H0
     rw [recapture_Captures_J1_eq]
     by_cases c1:fr < 0
     ·have c1:=decide_eq_true c1
      simp only [go_sem,d0,d1,c1,t1,t2]
     have b1:=decide_eq_false c1
     by_cases c2:to < fr
     ·have c2:=decide_eq_true c2
      simp only [go_sem,d0,d1,b1,c2,t1,t2]
     have b2:=decide_eq_false c2
     have c3:decide ((s.length:Int) < to)=true:=decide_eq_true (by omega)
     simp only [go_sem,d0,d1,b1,b2,c3,t1,t2,len0]
  simp only [go_sem,key]
  exact ⟨_,_,rfl,hKe,.range hc0 hr⟩
 obtain ⟨i,rfl⟩:∃ i:Nat,fr=(i:Int):=⟨fr.toNat,by omega⟩
 obtain ⟨j,rfl⟩:∃ j:Nat,to=(j:Int):=⟨to.toNat,by omega⟩
 have hij:i≤j:=by omega
 have hj:j≤s.length:=by omega
 have b1:decide ((i:Int) < 0)=false:=decide_eq_false (by omega)
 have b2:decide ((j:Int) < (i:Int))=false:=decide_eq_false (by omega)
 have b3:decide ((s.length:Int) < (j:Int))=false:=decide_eq_false (by omega)
 have key:∀ H0,recapture_Captures_J1 (.str s) (.bool lines) (.ptr H.length 0) (.ptr (H.length+1) 0) (.ptr (H.length+2) 0) H0 W=recapture_Captures_J2 (.str s) (.bool lines) (.ptr H.length 0) (.ptr (H.length+1) 0) (.ptr (H.length+2) 0) H0 W:=by
  intro H0
  rw [recapture_Captures_J1_eq]
  simp only [go_sem,d0,d1,b1,b2,b3,len0]
 obtain ⟨hok,hnum,hn9⟩:=okE_of hc0
 obtain ⟨n,hn⟩:∃ n,n=cntM 6 e+1:=⟨_,rfl⟩
 have hsum:IntKind.i64.wrap ((cntM 6 e:Int)+1)=(n:Int):=by rw [wsucc (by omega),hn]
 obtain ⟨V,hV⟩:∃ V:Hp,V=(W++[AObj.cells (flat ((List.replicate n ((0:Int),(0:Int))).map spE))])++[.cells [.str s,.bool lines,spV W.length n]]:=⟨_,rfl⟩
 have lw:(W++[AObj.cells (flat ((List.replicate n ((0:Int),(0:Int))).map spE))]).length=W.length+1:=by simp
 have hSV:SpAt V W.length (List.replicate n ((0:Int),(0:Int))):=by rw [hV];exact get_push (get_push_len W _ []) _
 have hFV:FdAt V (W.length+1) s lines (spV W.length n):=by rw [hV,← lw];exact get_push_len _ _ []
 have hKV:Kpt [] W V:=by rw [hV];exact (Kpt.push _ _ _).trans (Kpt.push _ _ _)
 obtain ⟨V1,q1,q2,q3⟩:=caps_loop (fo:=W.length+1) (so:=W.length) (s:=s) (lines:=lines) (n:=n) (x4:=.ptr H.length 0) (x6:=.ptr (H.length+1) 0) (x8:=.ptr (H.length+2) 0) (by omega) H n 0 _ V (by omega) (by omega) (by simp) (fun t ht=>by omega) hFV hSV (by omega)
 have i0:(((0:Nat):Int))=0:=rfl
 rw [i0] at q1
 have hlV:V.length=W.length+2:=by rw [hV];simp
 have hKV1:Kpt [] W V1:=hKV.base q3 (by simp)
 have hmem:∀ q,q ≠ W.length→q ∉ [W.length]:=fun q h=>by simpa using h
 have g4W:=g4
 have g4:V1[H.length]?=some (.cells (reC e.hd x)):=hKV1.get g4 (by simp)
 have g6:V1[H.length+1]?=some (.cells [.int .i64 (i:Int),.int .i64 (j:Int)]):=hKV1.get g6 (by simp)
 have g8:V1[H.length+2]?=some (.cells [.nils]):=hKV1.get g8 (by simp)
 have hF1:FdAt V1 (W.length+1) s lines (spV W.length n):=q3.get hFV (hmem _ (by omega))
 obtain ⟨no,H1,T1,r1,r2,r3,r4,r5⟩:=build_run e hok _ V1 Tb0 ha0 (InvT.empty _)
 have hg:=gro_of r1 r2
 have g6':=r2.get g6 (by simp)
 obtain ⟨H2,hH2⟩:∃ H2:Hp,H2=H1.set (H.length+1) .dead:=⟨_,rfl⟩
 have out:∀ q,q < V1.length→T1.nd q=none∧T1.mp q=none∧T1.fw q=none:=fun q hq=>by
  obtain ⟨a1,a2,a3⟩:=r5 q hq
  exact ⟨a1,a2,a3⟩
 have h6l:=lt_of_get g6
 have hkd:Kpt [H.length+1] H1 H2:=by rw [hH2];exact Kpt.set _ _ (by simp)
 have hI2:InvT H2 T1:=r3.kept hkd (fun q hq=>by rw [List.mem_singleton.1 hq];exact out _ h6l)
 have hlV1:V1.length ≥ V.length:=q3.1
 have hF2:FdAt H2 (W.length+1) s lines (spV W.length n):=hkd.get (r2.get hF1 (by simp)) (by simp;omega)
 have hS2:SpAt H2 W.length (List.replicate n (-1,-1)):=hkd.get (r2.get q2 (by simp)) (by simp;omega)
 obtain ⟨oo,H3,T3,e1,e2,e3,e4⟩:=ends_run hI2 r4 hF2 (hF2.out hI2) hs (Nat.le_trans hij hj) hj
 have g8':H2[H.length+2]?=some (.cells [.nils]):=hkd.get (r2.get g8 (by simp)) (by simp)
 have out8:=out (H.length+2) (lt_of_get g8)
 have g8'':=e4.get g8' (by simp) out8.1 out8.2.1
 have hel:=endsM_len s lines e hij
 have hKb:∀ q,q < H.length→H2[q]?=H[q]?:=fun q hq=>by
  rw [hkd.2 q (by have:=r2.1;omega) (by simp;omega),r2.2 q (by omega) (by simp),hKV1.2 q (by omega) (by simp),hK.2 q hq (by simp)]
 obtain ⟨f0,hf0⟩:∃ f0:Hp,f0=W++[AObj.cells (flat ((List.replicate n ((0:Int),(0:Int))).map spE))]:=⟨_,rfl⟩
 have hmk:=amake_sp n (by omega) (by omega) W
 have hfd:((afill [(0,1,.str s),(1,1,.bool lines),(2,1,spV W.length n)] [(.str []),(.bool false),.nils]).map AV.agg)=some (.agg [.str s,.bool lines,spV W.length n]):=rfl
 have hbf:abox (.agg [.str s,.bool lines,spV W.length n]) (W++[AObj.cells (flat ((List.replicate n ((0:Int),(0:Int))).map spE))])=some (.ptr (W.length+1) 0,V):=by
  rw [abox_of rfl,lw,hV]
  rfl
 have hlen:alenD (.slice 30) (spV W.length n)=some (.int .i64 (n:Int)):=rfl
 have keyJ2:∀ H0,recapture_Captures_J2 (.str s) (.bool lines) (.ptr H.length 0) (.ptr (H.length+1) 0) (.ptr (H.length+2) 0) H0 W=recapture_Captures_L1 (.ptr H.length 0) (.ptr (H.length+1) 0) (.ptr (H.length+2) 0) (.ptr (W.length+1) 0) (.int .i64 (n:Int)) (.int .i64 0) H0 V:=by
  intro H0
  rw [recapture_Captures_J2_eq]
  simp only [go_sem,ld_re g4W,hgr,hsum,hmk,hfd,hbf,hFV.ldP,hlen]
 have fa:afield 0 (.vp [.int .i64 (i:Int),.int .i64 (j:Int)])=some (.vp [.int .i64 (i:Int),.int .i64 (j:Int)]):=rfl
 have fb:afield 1 (.vp [.int .i64 (i:Int),.int .i64 (j:Int)])=some (.vp [.int .i64 (j:Int)]):=rfl
 have la:∀ w,aload false 1 (.vp [.int .i64 (i:Int),.int .i64 (j:Int)]) w=some (.int .i64 (i:Int)):=fun _=>rfl
 have lb:∀ w,aload false 1 (.vp [.int .i64 (j:Int)]) w=some (.int .i64 (j:Int)):=fun _=>rfl
 have va:aloadv false 1 (.vp [.int .i64 (i:Int),.int .i64 (j:Int)])=some (.int .i64 (i:Int)):=rfl
 have vb:aloadv false 1 (.vp [.int .i64 (j:Int)])=some (.int .i64 (j:Int)):=rfl
 have lw2:∀ w,aload true 2 (.vp [.int .i64 (i:Int),.int .i64 (j:Int)]) w=some (.agg [.int .i64 (i:Int),.int .i64 (j:Int)]):=fun _=>rfl
 have hsub:IntKind.i64.wrap ((j:Int) - (i:Int))=((j - i:Nat):Int):=by rw [wrap64 (by omega) (by omega)];omega
 have hix:=bl_idx oo (endsM s lines e i j) (k:=j - i) (by omega)
 have hld:=e2.ld (k:=j - i) (by omega)
 obtain ⟨y1,y2⟩:=st8 g8'' (x:=.nils) rfl rfl
 have hl2:H2.length=H1.length:=by rw [hH2];simp
 have hr21:=r2.1
 have he4:=e4.len
 have hK3:∀ q,q < H.length→H3[q]?=H[q]?:=fun q hq=>by
  obtain ⟨o1,o2,_⟩:=out q (by omega)
  rw [e4.kept q (by omega) (by simp) o1 o2,hKb q hq]
 cases hE:(endsM s lines e i j).getD (j - i) false with
 | false =>
  rw [hE] at hld
  have keyJ3:∀ H0,recapture_Captures_J3 (.ptr H.length 0) (.ptr (H.length+1) 0) (.ptr (H.length+2) 0) (.ptr (W.length+1) 0) H0 V1=some (.tuple [.agg [.nils],.bool false,.int .i64 0],H3.set (H.length+2) (.cells [.nils])):=by
   intro H0
   rw [recapture_Captures_J3_eq]
   simp only [go_sem,ld_re g4,hg]
   rw [frz_of g6',← hH2]
   simp only [go_sem,fa,fb,la,lb,va,vb,e1,hsub,hix,hld,y1,y2,Bool.not_false]
  simp only [go_sem,key,keyJ2,q1,keyJ3]
  refine ⟨_,_,rfl,⟨by simp;omega,fun q hq _=>by rw [List.getElem?_set_ne (by omega),hK3 q hq]⟩,.no i j hc0 rfl rfl hij hj hE⟩
 | true =>
  rw [hE] at hld
  obtain ⟨R,hR⟩:∃ R:Sp,R=List.replicate n (-1,-1):=⟨_,rfl⟩
  have hRl:R.length=n:=by rw [hR];simp
  rw [← hR] at hS2
  have hF3:FdAt H3 (W.length+1) s lines (spV W.length R.length):=by rw [hRl];exact e4.all hI2 hF2 (by simp)
  have hS3:SpAt H3 W.length R:=e4.spans hI2 hS2
  obtain ⟨H4,T4,u1,u2,u3⟩:=find_run hs e hok H3 T3 no i j R e4.inv (by rw [e4.nd];exact r4) hF3 hS3 (num_grB _ e 0 hnum (by rw [hRl];omega)) hij hj
  have hfl:=find_len (E:=endsM s lines) (S:=startsM s lines) e i j R
  have hF4:FdAt H4 (W.length+1) s lines (spV W.length R.length):=u3.all e4.inv hF3 (by simp)
  obtain ⟨s1,s2⟩:=u2.st (g:=0) (by omega) (by rw [hfl,hRl];exact (by omega:(0:Int).toNat < n)) (i:Int) (j:Int)
  rw [hfl] at s1
  obtain ⟨Q,hQ⟩:∃ Q:Sp,Q=(findM (endsM s lines) (startsM s lines) e i j R).set (0:Int).toNat ((i:Int),(j:Int)):=⟨_,rfl⟩
  rw [← hQ] at s2
  have nfs:W.length+1 ∉ [W.length]:=by simp
  have n8s:H.length+2 ∉ [W.length]:=by simp;omega
  obtain ⟨H5,hH5⟩:∃ H5:Hp,H5=H4.set W.length (.cells (flat (Q.map spE))):=⟨_,rfl⟩
  rw [← hH5] at s2
  have k45:Kpt [W.length] H4 H5:=by rw [hH5];exact Kpt.set _ _ (by simp)
  have hF5:FdAt H5 (W.length+1) s lines (spV W.length R.length):=k45.get hF4 nfs
  have hS5:SpAt H5 W.length Q:=by rw [hH5];exact get_set_eq _ u2
  have out3:∀ q,q < V1.length→T3.nd q=none∧T3.mp q=none:=fun q hq=>by
   rw [e4.nd,e4.mp]
   exact ⟨(out q hq).1,(out q hq).2.1⟩
  have o8:=out3 (H.length+2) (by omega)
  have g85:H5[H.length+2]?=some (.cells [.nils]):=k45.get (u3.get g8'' n8s o8.1 o8.2) n8s
  obtain ⟨y3,y4⟩:=st8 g85 (x:=spV W.length R.length) rfl rfl
  have hfi:((afill [(0,1,spV W.length R.length)] [.nils]).map AV.agg)=some (.agg [spV W.length R.length]):=rfl
  have keyJ4:∀ H0,recapture_Captures_J4 (.vp [.int .i64 (i:Int),.int .i64 (j:Int)]) (.ptr (H.length+2) 0) (.ptr (W.length+1) 0) (.ptr no 0) H0 H3=some (.tuple [.agg [spV W.length R.length],.bool true,.int .i64 0],H5.set (H.length+2) (.cells [spV W.length R.length])):=by
   intro H0
   rw [recapture_Captures_J4_eq]
   simp only [go_sem,fa,fb,la,lb,lw2,u1,hF4.ldP,s1,s2,hF5.ldP,hfi,y3,y4]
  have keyJ3:∀ H0,recapture_Captures_J3 (.ptr H.length 0) (.ptr (H.length+1) 0) (.ptr (H.length+2) 0) (.ptr (W.length+1) 0) H0 V1=some (.tuple [.agg [spV W.length R.length],.bool true,.int .i64 0],H5.set (H.length+2) (.cells [spV W.length R.length])):=by
   intro H0
   rw [recapture_Captures_J3_eq]
   simp only [go_sem,ld_re g4,hg]
   rw [frz_of g6',← hH2]
   simp only [go_sem,fa,fb,la,lb,va,vb,e1,hsub,hix,hld,Bool.not_true,keyJ4]
  have hul:=u3.len
  have hkl:=k45.1
  have hS6:SpAt (H5.set (H.length+2) (.cells [spV W.length R.length])) W.length Q:=get_set_ne _ (by omega) hS5
  have hqe:Q=capS s lines e i j:=by rw [hQ,hR,hn];rfl
  simp only [go_sem,key,keyJ2,q1,keyJ3]
  refine ⟨_,_,rfl,⟨by simp;omega,fun q hq _=>?_⟩,?_⟩
  ·obtain ⟨o1,o2⟩:=out3 q (by omega)
   have ns:q ∉ [W.length]:=by simp;omega
   rw [List.getElem?_set_ne (by omega),k45.2 q (by omega) ns,u3.kept q (by omega) ns o1 o2,hK3 q hq]
  ·rw [hRl,hn] at hS6 ⊢
   exact .yes i j W.length hc0 rfl rfl hij hj hE (by omega) (by rw [← hqe];exact hS6)
end Go.Am
