/-
  The example of chapter 23 is answered as it should be.
-/
import Derived.Test.YtehanadfidoodaaGreatDoorNkQcx
import Derived.Test.YtehanadfidoodaaGreatDoorNkGAx
namespace Go.Am
set_option linter.unusedSimpArgs false
set_option linter.unusedVariables false
set_option linter.unusedSectionVars false
set_option maxRecDepth 100000

theorem ZxW {L : Loc} {p : Spec} {ls : List (List Str)} (hf : ∀ l ∈ ls, Few l) (h8 : ls.length ≤ 8) (pk : Nat) : ∀ (i : Nat) (n : Txt) (l : List Str), (nms.take ls.length)[i]? = some n → ls[i]? = some l →
    Zc5 l=true∧(encS l).length≤262144∧((ZaT (tmM ls.length) n=0∧∃ f,getF (stM ls pk).files n=some f∧f.text=encS l) ∨ (ZaT (tmM ls.length) n=5∧l=[])):=by
 intro i n l hn hl
 have hfl:=hf l (List.mem_of_getElem? hl)
 have hc:=hfl.cost
 refine ⟨hfl.fits,by rw [Zg5];omega,.inl ⟨?_,_,ZIJ _ _ (Zdp (by omega)) (ZxL.sublist (List.take_sublist _ _)) i n l hn hl,rfl⟩⟩
 unfold ZaT
 rw [if_neg (by simp [tmM]),if_pos (show n ∈ (tmM ls.length).names from List.mem_of_getElem? hn)]
def uP:Spec:=⟨[],-1,0,false,true⟩
def exM:List (List Str):=[[[97],[99]],[[97],[98]]]
theorem ZLV:Zbe defL uP exM.flatten=[[97],[98],[99]]:=by kernel_rfl
theorem ZLW:plan (Zrv 3) (7:Int).toNat=[[0,1,2],[3,4,5],[6]]:=by kernel_rfl
theorem ZME:LocSm defL:=⟨by simp [defL],by simp [defL],by simp [defL]⟩
theorem ZoO (L:Loc) (p:Spec):outS true L p=Zbe L p:=(Eq.refl _).trans (Eq.refl _)
theorem ZAt:∃ H',Zhj [] []=some (.bool true,H'):=by
 obtain ⟨a,d1,d2⟩:=ZrZ []
 have d3:=d2
 obtain ⟨lx,lc,le,rfl,hlx,hlc,hle⟩:=d3
 have hkn:(AV.agg (defL.cells lx lc le)).known=true:=by simp [AV.known,Loc.cells,hlx.known,hlc.known,hle.known]
 have s1:Zab 6 (.ptr 0 0) (.agg (defL.cells lx lc le)) [AObj.cells [(.str []),.nils,(.str []),(.str []),.nils,.nils],.cells [.nils,(.int .i64 0),(.int .i64 0),(.bool false),(.bool false)]]=some (.tuple [],[AObj.cells (defL.cells lx lc le),.cells [.nils,(.int .i64 0),(.int .i64 0),(.bool false),(.bool false)]]) :=
  (ZdR (v:=.agg (defL.cells lx lc le)) (o:=0) (l:=[(.str []),.nils,(.str []),(.str []),.nils,.nils]) rfl hkn rfl (by show 0+6≤6;omega)).trans rfl
 have s2:Zab 5 (.ptr 1 0) (.agg (uP.cells .nils)) [AObj.cells (defL.cells lx lc le),.cells [.nils,(.int .i64 0),(.int .i64 0),(.bool false),(.bool false)]]=some (.tuple [],[AObj.cells (defL.cells lx lc le),.cells (uP.cells .nils)]) :=
  (ZdR (v:=.agg (uP.cells .nils)) (o:=1) (l:=[.nils,(.int .i64 0),(.int .i64 0),(.bool false),(.bool false)]) rfl rfl rfl (by show 0+5≤5;omega)).trans rfl
 have l1:Za2 true 6 (.ptr 0 0) [AObj.cells (defL.cells lx lc le),.cells (uP.cells .nils)]=some (.agg (defL.cells lx lc le)):=ZoD (i:=0) rfl
 have l2:Za2 true 5 (.ptr 1 0) [AObj.cells (defL.cells lx lc le),.cells (uP.cells .nils)]=some (.agg (uP.cells .nils)):=Zm8 (i:=1) rfl
 have f0:(Zbq [(1,1,(.int .i64 (-1))),(3,1,(.bool true))] [.nils,(.int .i64 0),(.int .i64 0),(.bool false),(.bool false)]).map AV.agg=some (.agg (uP.cells .nils)):=rfl
 have e14:(Zau 1 [(0,(.str [97])),(1,(.str [99]))] [(.str []),(.str [])]).map (AV.vs 1 .clip)=some (AV.vs 1 .clip ([[97],[99]].map AV.str)):=rfl
 have e15:(Zau 1 [(0,(.str [97])),(1,(.str [98]))] [(.str []),(.str [])]).map (AV.vs 1 .clip)=some (AV.vs 1 .clip ([[97],[98]].map AV.str)):=rfl
 have e16:(Zau 1 [(0,AV.vs 1 .clip ([[97],[99]].map AV.str)),(1,AV.vs 1 .clip ([[97],[98]].map AV.str))] [.nils,.nils]).map (AV.vs 1 .clip)=some (AV.vs 1 .clip [AV.vs 1 .clip ([[97],[99]].map AV.str),AV.vs 1 .clip ([[97],[98]].map AV.str)]):=rfl
 have hx:LsV (AV.vs 1 .clip [AV.vs 1 .clip ([[97],[99]].map AV.str),AV.vs 1 .clip ([[97],[98]].map AV.str)]) exM:=.inr ⟨.clip,_,rfl,EE.cons (ZGC _ _) (EE.cons (ZGC _ _) EE.nil)⟩
 have hf:∀ l ∈ exM,Few l:=fun l hl=>by
  simp [exM] at hl
  rcases hl with rfl | rfl <;> exact ⟨by decide,by decide⟩
 obtain ⟨H1,o,t,A1,pk,xn,m1,m2,m3,m4,m5,m6⟩:=Zz5 d2 ZK0 (ZK7 uP rfl) (ZGT rfl) hx hf (by decide) true rfl rfl [AObj.cells (defL.cells lx lc le),.cells (uP.cells .nils)]
 have g0:H1[0]?=some (.cells (defL.cells lx lc le)):=m5.get rfl (by simp)
 have g1:H1[1]?=some (.cells (uP.cells .nils)):=m5.get rfl (by simp)
 have hz0:=fun k=>Zq1 g0 k
 have g1':(H1.set 0 .dead)[1]?=some (.cells (uP.cells .nils)):=ZaO _ (by decide) g1
 have hz1:=fun k=>Zq1 g1' k
 have hA1:∀ a ∈ A1,2≤a:=m6
 have hsys:Zaz ((H1.set 0 .dead).set 1 .dead) o t (tmM exM.length) (stM (exM.map (outS true defL uP)) pk) A1:=m2.frame fun b hb=>by
  have:=hA1 b hb
  rw [List.getElem?_set_ne (by omega),List.getElem?_set_ne (by omega)]
 have hlen:(exM.map (outS true defL uP)).length=exM.length:=List.length_map _
 have hfo:∀ l ∈ exM.map (outS true defL uP),Few l:=fun l hl=>by
  obtain ⟨k,hk,rfl⟩:=List.mem_map.1 hl
  exact (hf k hk).out true defL uP
 have hrf:=ZxW (L:=defL) (p:=uP) hfo (by rw [hlen];decide) pk
 rw [hlen] at hrf
 have htot:ZaQ (exM.map (outS true defL uP))≤9:=by
  rw [ZoO]
  have h1:=ZkY defL uP [[97],[99]]
  have h2:=ZkY defL uP [[97],[98]]
  simp only [List.length_cons,List.length_nil] at h1 h2
  simp only [exM,List.map_cons,List.map_nil,ZaQ]
  omega
 have hcl:ZaM (exM.map (outS true defL uP)).flatten≤262144:=by
  have:=ZvR _ hfo
  rw [hlen] at this
  have:exM.length=2:=rfl
  omega
 obtain ⟨H2,xr,H3,g,r1,r2,H4,xo,r3,r4,r5,r6⟩:=ZxH (m:=9) (a:=.agg (defL.cells lx lc le)) (q:=.agg (uP.cells .nils)) (ZBJ (k:=exM.length) (by decide)) (Zy4 (by rw [hlen];decide) hcl m3) rfl rfl d2 ZK0 ZME (ZK7 uP rfl) (ZGT rfl) (by decide) m4.1.ss (by rw [hlen];exact Zdp (by decide)) (by rw [Zdp (by decide)];decide) hrf htot (by decide) hsys
 rw [ZoO,Zu6,ZLV] at r4
 obtain ⟨y,p1,p2⟩:=ZH4 7 3 (by decide) H4
 rw [ZLW] at p2
 have hx3:=r4.len 9
 have x0:=SS.idx r4 (i:=0) (s:=[97]) rfl
 have x1:=SS.idx r4 (i:=1) (s:=[98]) rfl
 have x2:=SS.idx r4 (i:=2) (s:=[99]) rfl
 have y3:Zae (.slice 22) y=some (.int .i64 3):=p2.len 22
 obtain ⟨b,y2,b0⟩:∃ a,Zaf 1 y (.int .i64 2)=some (.vp [a])∧IS a [6]:=p2.get (i:=2) rfl
 have b1:Zae (.slice 3) b=some (.int .i64 1):=b0.len 3
 have b2:Zaf 1 b (.int .i64 0)=some (.vp [iv 6]):=b0.idx (i:=0) (n:=6) rfl
 have hx3':Zae (.slice 9) xo=some (.int .i64 3):=hx3
 have x0':Zaf 1 xo (.int .i64 0)=some (.vp [.str [97]]):=x0
 have x1':Zaf 1 xo (.int .i64 1)=some (.vp [.str [98]]):=x1
 have x2':Zaf 1 xo (.int .i64 2)=some (.vp [.str [99]]):=x2
 have hv1:Zbj true 6 (.vp (defL.cells lx lc le))=some (.agg (defL.cells lx lc le)):=by simp [Zbj,Za2,Go.Am.apart,Loc.cells]
 have hv2:Zbj true 5 (.vp (uP.cells .nils))=some (.agg (uP.cells .nils)):=by simp [Zbj,Za2,Go.Am.apart,Spec.cells]
 have t1:(([97]:Txt) == [97])=true:=by decide
 have t2:(([98]:Txt) == [98])=true:=by decide
 have t3:(([99]:Txt) == [99])=true:=by decide
 have t4:((3:Int) == 3)=true:=rfl
 have t5:((1:Int) == 1)=true:=rfl
 have t6:((6:Int) == 6)=true:=rfl
 have r3':Zku [.ptr g 0,.int .i64 9] H3=some (.tuple [xo,.bool true],H4):=r3
 refine ⟨H4,?_⟩
 rw [Zyf]
 unfold Zv1
 simp only [d1,f0,go_sem,List.length_nil,List.nil_append,List.length_singleton,List.singleton_append,List.cons_append,s1,s2,l1,l2,e14,e15,e16,m1,List.getElem?_cons_zero,List.getElem?_cons_succ,hz0,hz1,hv1,hv2,r1,r2,r3',p1,hx3',t4,x0',x1',x2',Zav,t1,t2,t3,y3,y2,b1,t5,b2,t6]
 rfl
theorem Zx0 (H:Hp):Zaa Zhj [] H=some (.bool true,H):=by
 obtain ⟨H',h⟩:=ZAt
 exact Zn9 (args':=[]) (by simp) h (by simp [Zgn])
end Go.Am
namespace Go.Am
set_option linter.unusedSimpArgs false
set_option linter.unusedVariables false
set_option linter.unusedSectionVars false
set_option maxRecDepth 100000

theorem ZEZ (L:Loc) (p:Spec):∀ ls:List (List Str),ZaQ (ls.map (Zbe L p))≤ZaQ ls:=by
 intro ls
 induction ls with
 | nil=>exact Nat.le_refl _
 | cons l ls ih =>
  have:=ZkY L p l
  simp only [List.map_cons,ZaQ]
  omega
section
variable {a q:AV} {L:Loc} {p:Spec} (ha:ZaU a L) (hok:LocOk L) (hsm:LocSm L) (hq:Zb5 q p) (hks:∀ k ∈ p.keys,KeOk k) (hkl:p.keys.length≤1048576)
 {x:AV} {ls:List (List Str)} (hx:LsV x ls) (hL:ZA2 ls) (ht:ZaQ ls≤1048576) (hl:ls.length≤1048576)
include ha hok hsm hq hks hkl hx hL ht hl
theorem ZDn:∃ H',Zlq [a,q,x] []=some (.bool true,H'):=by
 have hfew:=ZGa hx hL hl ht
 have ha2:=ha
 have hq2:=hq
 obtain ⟨lx,c,e,rfl,hlx,hlc,hle⟩:=ha2
 obtain ⟨xp,rfl,hxp⟩:=hq2
 rw [Zqp]
 unfold Zlr
 simp only [Zcs,go_sem,List.nil_append,List.length_nil,List.length_singleton,List.singleton_append,List.cons_append]
 obtain ⟨b,f1',f2⟩:=hfew [AObj.cells (L.cells lx c e),.cells (p.cells xp)]
 cases b with
 | false =>
  have haw:=Zx0 [AObj.cells (L.cells lx c e),.cells (p.cells xp)]
  exact ⟨[AObj.cells (L.cells lx c e),.cells (p.cells xp)],by simp only [f1',go_sem,Bool.not_false,haw]⟩
 | true =>
  obtain ⟨h8,hf⟩:=f2 rfl
  have l1:Za2 true 6 (.ptr 0 0) [AObj.cells (L.cells lx c e),.cells (p.cells xp)]=some (.agg (L.cells lx c e)):=ZoD (i:=0) rfl
  have l2:Za2 true 5 (.ptr 1 0) [AObj.cells (L.cells lx c e),.cells (p.cells xp)]=some (.agg (p.cells xp)):=Zm8 (i:=1) rfl
  obtain ⟨H1,o,t,A1,pk,xn,m1,m2,m3,m4,m5,m6⟩:=Zz5 ha hok hq hks hx hf h8 true rfl rfl [AObj.cells (L.cells lx c e),.cells (p.cells xp)]
  have g0:H1[0]?=some (.cells (L.cells lx c e)):=m5.get rfl (by simp)
  have g1:H1[1]?=some (.cells (p.cells xp)):=m5.get rfl (by simp)
  have hz0:=fun k=>Zq1 g0 k
  have g1':(H1.set 0 .dead)[1]?=some (.cells (p.cells xp)):=ZaO _ (by decide) g1
  have hz1:=fun k=>Zq1 g1' k
  have hA1:∀ a ∈ A1,2≤a:=m6
  have hsys:Zaz ((H1.set 0 .dead).set 1 .dead) o t (tmM ls.length) (stM (ls.map (outS true L p)) pk) A1:=m2.frame fun b hb=>by
   have:=hA1 b hb
   rw [List.getElem?_set_ne (by omega),List.getElem?_set_ne (by omega)]
  have hlen:(ls.map (outS true L p)).length=ls.length:=List.length_map _
  have hfo:∀ l ∈ ls.map (outS true L p),Few l:=fun l hl=>by
   obtain ⟨k,hk,rfl⟩:=List.mem_map.1 hl
   exact (hf k hk).out true L p
  have hrf:=ZxW (L:=L) (p:=p) hfo (by rw [hlen];exact h8) pk
  rw [hlen] at hrf
  have htl:=ZGc ls hf
  have hmul:ls.length * 30≤8 * 30:=Nat.mul_le_mul_right _ h8
  have htot:ZaQ (ls.map (outS true L p))≤ZaQ ls:=by rw [ZoO];exact ZEZ L p ls
  have hcl:ZaM (ls.map (outS true L p)).flatten≤262144:=by
   have:=ZvR _ hfo
   rw [hlen] at this
   have:ls.length * 6180≤8 * 6180:=Nat.mul_le_mul_right _ h8
   omega
  obtain ⟨H2,xr,H3,g,r1,r2,H4,xo,r3,r4,r5,r6⟩:=ZxH (m:=ZaQ ls) (ZBJ (k:=ls.length) (by omega)) (Zy4 (by rw [hlen];omega) hcl m3) rfl rfl ha hok hsm hq hks hkl m4.1.ss (by rw [hlen];exact Zdp (by omega)) (by rw [Zdp (by omega)];omega) hrf htot (by omega) hsys
  rw [ZoO,Zu6] at r4
  obtain ⟨y,j1,j2⟩:=Zvj hx ht hl H3
  obtain ⟨y',k1,k2⟩:=Zvj hx ht hl H4
  have hyl:Zae (.slice 9) y=some (.int .i64 (ZaQ ls:Int)):=by rw [j2.len 9,Zmq]
  have hLf:Lens ls.flatten:=fun s hs=>by
   obtain ⟨l,h1,h2⟩:=List.mem_flatten.1 hs
   exact hL l h1 s h2
  have hfl:ls.flatten.length≤1048576:=by rw [Zmq];exact ht
  obtain ⟨z,s1,s2⟩:=Zzs ha hok hq hks k2 hLf hfl H4
  have hsl:=ZkY L p ls.flatten
  have hsame:=ZEX r4 s2 (by omega) (by omega) H4
  rw [decide_eq_true rfl] at hsame
  have hv1:Zbj true 6 (.vp (L.cells lx c e))=some (.agg (L.cells lx c e)):=by simp [Zbj,Za2,Go.Am.apart,Loc.cells]
  have hv2:Zbj true 5 (.vp (p.cells xp))=some (.agg (p.cells xp)):=by simp [Zbj,Za2,Go.Am.apart,Spec.cells]
  have hv3:Za2 true 6 (.vp (L.cells lx c e)) H4=some (.agg (L.cells lx c e)):=ZbQ 6 _ rfl H4
  have hv4:Za2 true 5 (.vp (p.cells xp)) H4=some (.agg (p.cells xp)):=ZbQ 5 _ rfl H4
  have haw:=Zx0 H4
  exact ⟨H4,by simp only [f1',go_sem,Bool.not_true,ZpQ,l1,l2,m1,List.getElem?_cons_zero,List.getElem?_cons_succ,ZpR,hz0,hz1,hv1,hv2,r1,r2,j1,hyl,r3,hv3,hv4,k1,s1,hsame,haw]⟩
end
end Go.Am
