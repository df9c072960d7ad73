/-
  The example of chapter 23 is answered as it should be.
-/
import Derived.Test.YtehanadfidoodaaGreatDoorNkSox
import Derived.Test.YtehanadfidoodaaGreatDoorNkGAx
import Derived.Test.YtehanadfidoodaaGreatDoorNkGMx
namespace Go.Am
set_option linter.unusedSimpArgs false
set_option linter.unusedVariables false
set_option linter.unusedSectionVars false
set_option maxRecDepth 100000
theorem Zlk {L:Loc}{p:Spec}{ls:List (List Zf)}(hf:∀ l∈ls,Few l)(h8:ls.length≤8)(pk:Nat):∀ (i:Nat) (n:Zo) (l:List Zf),(nms.take ls.length)[i]?=some n→ls[i]?=some l →
 YI l=true∧(ZG l).length≤262144∧((ZV (Xy ls.length) n=0∧∃ f,ZS (Ve ls pk).files n=some f∧f.text=ZG l)∨(ZV (Xy ls.length) n=5∧l=[])):=by
 intro i n l hn hl
 have hfl:=hf l (List.mem_of_getElem? hl)
 have hc:=hfl.cost
 refine⟨hfl.fits,by rw[Xf];omega,.inl ⟨?_,_,Zbl _ _ (W9 (by omega)) (nms_nd.sublist (List.take_sublist _ _)) i n l hn hl,rfl⟩⟩
 unfold ZV
 rw[if_neg (by simp[Xy]),if_pos (show n∈(Xy ls.length).names from List.mem_of_getElem? hn)]
def uP:Spec:=⟨[],-1,0,false,true⟩
def exM:List (List Zf):=[[[97],[99]],[[97],[98]]]
theorem Zsw:YT defL uP exM.flatten=[[97],[98],[99]]:=by kernel_rfl
theorem Zsx:Vu (CG 3) (7:Int).toNat=[[0,1,2],[3,4,5],[6]]:=by kernel_rfl
theorem Zte:LocSm defL:=⟨by simp[defL],by simp[defL],by simp[defL]⟩
theorem Zfa (L:Loc)(p:Spec):V2 true L p=YT L p:=(Eq.refl _).trans (Eq.refl _)
theorem Zgp:∃ H',Gm [] []=some (.bool true,H'):=by
 obtain⟨a,d1,d2⟩:=Hq []
 have d3:=d2
 obtain⟨lx,lc,le,rfl,hlx,hlc,hle⟩:=d3
 have hkn:(AV.agg (defL.cells lx lc le)).known=true:=by simp[AV.known,Loc.cells,hlx.known,hlc.known,hle.known]
 have s1:Zi 6 (.ptr 0 0) (.agg (defL.cells lx lc le)) [AObj.cells [(.str []),.nils,(.str []),(.str []),.nils,.nils],.cells [.nils,(.int .i64 0),(.int .i64 0),(.bool false),(.bool false)]]=some (.tuple [],[AObj.cells (defL.cells lx lc le),.cells [.nils,(.int .i64 0),(.int .i64 0),(.bool false),(.bool false)]]) :=
  (U4 (v:=.agg (defL.cells lx lc le)) (o:=0) (l:=[(.str []),.nils,(.str []),(.str []),.nils,.nils]) rfl hkn rfl (by show 0+6≤6;omega)).trans rfl
 have s2:Zi 5 (.ptr 1 0) (.agg (uP.cells .nils)) [AObj.cells (defL.cells lx lc le),.cells [.nils,(.int .i64 0),(.int .i64 0),(.bool false),(.bool false)]]=some (.tuple [],[AObj.cells (defL.cells lx lc le),.cells (uP.cells .nils)]) :=
  (U4 (v:=.agg (uP.cells .nils)) (o:=1) (l:=[.nils,(.int .i64 0),(.int .i64 0),(.bool false),(.bool false)]) rfl rfl rfl (by show 0+5≤5;omega)).trans rfl
 have l1:Z4 true 6 (.ptr 0 0) [AObj.cells (defL.cells lx lc le),.cells (uP.cells .nils)]=some (.agg (defL.cells lx lc le)):=JK (i:=0) rfl
 have l2:Z4 true 5 (.ptr 1 0) [AObj.cells (defL.cells lx lc le),.cells (uP.cells .nils)]=some (.agg (uP.cells .nils)):=Uc (i:=1) rfl
 have f0:(YZ [(1,1,(.int .i64 (-1))),(3,1,(.bool true))] [.nils,(.int .i64 0),(.int .i64 0),(.bool false),(.bool false)]).map AV.agg=some (.agg (uP.cells .nils)):=rfl
 have e14:(ZA 1 [(0,(.str [97])),(1,(.str [99]))] [(.str []),(.str [])]).map (AV.vs 1 .clip)=some (AV.vs 1 .clip ([[97],[99]].map AV.str)):=rfl
 have e15:(ZA 1 [(0,(.str [97])),(1,(.str [98]))] [(.str []),(.str [])]).map (AV.vs 1 .clip)=some (AV.vs 1 .clip ([[97],[98]].map AV.str)):=rfl
 have e16:(ZA 1 [(0,AV.vs 1 .clip ([[97],[99]].map AV.str)),(1,AV.vs 1 .clip ([[97],[98]].map AV.str))] [.nils,.nils]).map (AV.vs 1 .clip)=some (AV.vs 1 .clip [AV.vs 1 .clip ([[97],[99]].map AV.str),AV.vs 1 .clip ([[97],[98]].map AV.str)]):=rfl
 have hx:LsV (AV.vs 1 .clip [AV.vs 1 .clip ([[97],[99]].map AV.str),AV.vs 1 .clip ([[97],[98]].map AV.str)]) exM:=.inr ⟨.clip,_,rfl,EE.cons (Zn8 _ _) (EE.cons (Zn8 _ _) EE.nil)⟩
 have hf:∀ l∈exM,Few l:=fun l hl=>by
  simp[exM]at hl
  rcases hl with rfl|rfl <;> exact⟨by decide,by decide⟩
 obtain⟨H1,o,t,A1,pk,xn,m1,m2,m3,m4,m5,m6⟩:=ZeN d2 ZqD (Zg8 uP rfl) (Zdl rfl) hx hf (by decide) true rfl rfl [AObj.cells (defL.cells lx lc le),.cells (uP.cells .nils)]
 have g0:H1[0]?=some (.cells (defL.cells lx lc le)):=m5.get rfl (by simp)
 have g1:H1[1]?=some (.cells (uP.cells .nils)):=m5.get rfl (by simp)
 have hz0:=fun k=>Rx g0 k
 have g1':(H1.set 0 .dead)[1]?=some (.cells (uP.cells .nils)):=Yu _ (by decide) g1
 have hz1:=fun k=>Rx g1' k
 have hA1:∀ a∈A1,2≤a:=m6
 have hsys:SysAt ((H1.set 0 .dead).set 1 .dead) o t (Xy exM.length) (Ve (exM.map (V2 true defL uP)) pk) A1:=m2.frame fun b hb=>by
  have:=hA1 b hb
  rw[List.getElem?_set_ne (by omega),List.getElem?_set_ne (by omega)]
 have hlen:(exM.map (V2 true defL uP)).length=exM.length:=List.length_map _
 have hfo:∀ l∈exM.map (V2 true defL uP),Few l:=fun l hl=>by
  obtain⟨k,hk,rfl⟩:=List.mem_map.1 hl
  exact (hf k hk).out true defL uP
 have hrf:=Zlk (L:=defL) (p:=uP) hfo (by rw[hlen];decide) pk
 rw[hlen]at hrf
 have htot:ZC (exM.map (V2 true defL uP))≤9:=by
  rw[Zfa]
  have h1:=Oj defL uP [[97],[99]]
  have h2:=Oj defL uP [[97],[98]]
  simp only[List.length_cons,List.length_nil]at h1 h2
  simp only[exM,List.map_cons,List.map_nil,ZC]
  omega
 have hcl:ZB (exM.map (V2 true defL uP)).flatten≤262144:=by
  have:=SW _ hfo
  rw[hlen]at this
  have:exM.length=2:=rfl
  omega
 obtain⟨H2,xr,H3,g,r1,r2,H4,xo,r3,r4,r5,r6⟩:=Cg (m:=9) (a:=.agg (defL.cells lx lc le)) (q:=.agg (uP.cells .nils)) (S7 (k:=exM.length) (by decide)) (NP (by rw[hlen];decide) hcl m3) rfl rfl d2 ZqD Zte (Zg8 uP rfl) (Zdl rfl) (by decide) m4.1.ss (by rw[hlen];exact W9 (by decide)) (by rw[W9 (by decide)];decide) hrf htot (by decide) hsys
 rw[Zfa,Zh9,Zsw]at r4
 obtain⟨y,p1,p2⟩:=Znv 7 3 (by decide) H4
 rw[Zsx]at p2
 have hx3:=r4.len 9
 have x0:=SS.idx r4 (i:=0) (s:=[97]) rfl
 have x1:=SS.idx r4 (i:=1) (s:=[98]) rfl
 have x2:=SS.idx r4 (i:=2) (s:=[99]) rfl
 have y3:Zk (.slice 22) y=some (.int .i64 3):=p2.len 22
 obtain⟨b,y2,b0⟩:∃ a,Zl 1 y (.int .i64 2)=some (.vp [a])∧IS a [6]:=p2.get (i:=2) rfl
 have b1:Zk (.slice 3) b=some (.int .i64 1):=b0.len 3
 have b2:Zl 1 b (.int .i64 0)=some (.vp [iv 6]):=b0.idx (i:=0) (n:=6) rfl
 have hx3':Zk (.slice 9) xo=some (.int .i64 3):=hx3
 have x0':Zl 1 xo (.int .i64 0)=some (.vp [.str [97]]):=x0
 have x1':Zl 1 xo (.int .i64 1)=some (.vp [.str [98]]):=x1
 have x2':Zl 1 xo (.int .i64 2)=some (.vp [.str [99]]):=x2
 have hv1:YE true 6 (.vp (defL.cells lx lc le))=some (.agg (defL.cells lx lc le)):=by simp[YE,Z4,Go.Am.apart,Loc.cells]
 have hv2:YE true 5 (.vp (uP.cells .nils))=some (.agg (uP.cells .nils)):=by simp[YE,Z4,Go.Am.apart,Spec.cells]
 have t1:(([97]:Zo)==[97])=true:=by decide
 have t2:(([98]:Zo)==[98])=true:=by decide
 have t3:(([99]:Zo)==[99])=true:=by decide
 have t4:((3:Int)==3)=true:=rfl
 have t5:((1:Int)==1)=true:=rfl
 have t6:((6:Int)==6)=true:=rfl
 have r3':Bw [.ptr g 0,.int .i64 9] H3=some (.tuple [xo,.bool true],H4):=r3
 refine⟨H4,?_⟩
 rw[ZdQ]
 unfold Zam
 simp only[d1,f0,go_sem,List.length_nil,List.nil_append,List.length_singleton,List.singleton_append,List.cons_append,s1,s2,l1,l2,e14,e15,e16,m1,List.getElem?_cons_zero,List.getElem?_cons_succ,hz0,hz1,hv1,hv2,r1,r2,r3',p1,hx3',t4,x0',x1',x2',ZD,t1,t2,t3,y3,y2,b1,t5,b2,t6]
 rfl
theorem ZcB (H:Hp):Ze Gm [] H=some (.bool true,H):=by
 obtain⟨H',h⟩:=Zgp
 exact Nc (args':=[]) (by simp) h (by simp[Ka])
def UA:List Rd→Nat
 |[]=>0
 |d::r=>ZB d.rest+UA r
theorem Iw (A B:List Rd):UA (A++B)=UA A+UA B:=by
 induction A with
 |nil=>simp[UA]
 |cons x A ih=>simp only[List.cons_append,UA,ih];omega
theorem Zkf:∀ ds:List Rd,UA ds=ZB (ds.map Rd.rest).flatten:=by
 intro ds
 induction ds with
 |nil=>rfl
 |cons d ds ih=>rw[UA,ih,List.map_cons,List.flatten_cons,U7]
theorem NextD.cost {lt:Zf→Zf→Bool}{same:Zf→Bool}{ds ds':List Rd}{z:Option Zf}(h:NextD lt same ds z ds'):UA ds'≤UA ds∧∀ a,z=some a→UA ds'+ZB [a]≤UA ds:=by
 induction h with
 |done h=>exact⟨Nat.le_refl _,fun a e=>by cases e⟩
 |skip hx h hs k ih =>
  obtain⟨h1,h2⟩:=ih
  rw[Iw,UA]at h1 h2 ⊢
  rw[hx,ZB]
  dsimp only at h1 h2
  exact⟨by omega,fun a e=>by have:=h2 a e;omega⟩
 |@give P Q x a r hx h hs =>
  have e1:ZB x.rest=a.length+6+ZB r:=by rw[hx];rfl
  rw[Iw,UA,Iw,UA,e1]
  dsimp only
  exact⟨by omega,fun b e=>by injection e with e;subst e;simp only[ZB];omega⟩
theorem NextD.names {lt:Zf→Zf→Bool}{same:Zf→Bool}{ds ds':List Rd}{z:Option Zf}(h:NextD lt same ds z ds'):ds'.map Rd.n=ds.map Rd.n:=by
 induction h with
 |done h=>rfl
 |skip hx h hs k ih=>rw[ih];simp
 |give hx h hs=>simp
theorem Zeg {fs:List Fil}{n m:Zo}{f:Fil}(hf:f.name=n)(h:m≠n):ZS (fs++[f]) m=ZS fs m:=by
 induction fs with
 |nil =>
  show (if m=f.name then some f else ZS [] m)=ZS [] m
  rw[if_neg (by rw[hf];exact h)]
 |cons g fs ih=>rw[List.cons_append,ZS,ZS,ih]
def sF (fs:List Fil)(n x:Zo)(pk:Nat):Sto:=⟨262144,pk,fs++[⟨n,x,0⟩],false,0⟩
theorem Zqa {tm:Tmp}{fs:List Fil}{n x:Zo}{pk:Nat}(hcl:tm.closed=false)(hn:n∈tm.names)(hs:n∉tm.sld)(hlim:tm.limit=262144)(hg:ZS fs n=none){l:List Zo}(hfit:YI l=true)(hl:Zv fs+x.length+ZB l≤262144) :
 QZ tm (sF fs n x pk) n l=(0,sF fs n (x++ZG l) (max pk (Zv fs+x.length+ZB l))):=by
 have hu:Zv (sF fs n x pk).files=Zv fs+x.length:=by show Zv (fs++[_])=_;rw[Vf];simp[Zv]
 have hf:ZV tm n=0:=by unfold ZV;rw[if_neg (by simp[hcl]),if_pos hn]
 have hun:=CF tm.names (sF fs n x pk).files
 have hel:=Xf l
 unfold QZ
 rw[if_neg (by simp[hf]),if_neg hs,if_neg (by simp[hfit]),if_neg (by unfold VC;omega)]
 unfold Sto.append
 rw[DR rfl rfl,if_neg (by simp[sF])]
 rw[show (sF fs n x pk).files=fs++[⟨n,x,0⟩] from rfl,Zbs hg _ rfl]
 dsimp only
 rw[show Zv (fs++[⟨n,x,0⟩])=Zv fs+x.length from hu,Xf,if_neg (by show ¬ (Zv fs+x.length+ZB l > 262144);omega),ZbT hg _ rfl]
 rfl
theorem Zek {x1:AV}{ns:List Zo}(hx:SS x1 ns)(hl:ns.length≤65536)(o N:Nat)(y5 y6 y10:AV)(H0:Hp):∀ (r d:List Zo) (x5:AV) (rs:List Nat) (H:Hp),ns=d++r→rs.length=d.length→RowN N H 1 x5 (rs.map fun r=>AV.ptr r 0)→N≤H.length →
 ∃ (H':Hp) (x5':AV) (rs':List Nat),Kp (.ptr o 0) y5 y6 y10 x5 x1 (.int .i64 (ns.length:Int)) (.int .i64 (d.length:Int)) H0 H=FW (.ptr o 0) y5 y6 y10 x5' H0 H'∧RowN N H' 1 x5' ((rs++rs').map fun r=>AV.ptr r 0)∧rs'.length=r.length∧(∀ a,a<N→H'[a]?=H[a]?)∧(∀ (a:Nat) (cs:List AV),H[a]?=some (.cells cs)→H'[a]?=some (.cells cs)) ∧
  (∀ (i:Nat) (n:Zo),r[i]?=some n→∃ rr,rs'[i]?=some rr∧H'[rr]?=some (.cells (WU o n 0 false false [])))∧rs'.Nodup∧(∀ rr∈rs',H.length≤rr)∧H.length≤H'.length:=by
 intro r
 induction r with
 |nil =>
  intro d x5 rs H hd hrs hrow hN
  rw[List.append_nil]at hd
  subst hd
  have hlt:decide ((ns.length:Int)<(ns.length:Int))=false:=by simp
  refine⟨H,x5,[],?_,by rw[List.append_nil];exact hrow,rfl,fun _ _=>rfl,fun _ _ h=>h,fun i n h=>by simp at h,by simp,by simp,Nat.le_refl _⟩
  rw[TJ]
  simp only[go_sem,hlt]
 |cons n r ih =>
  intro d x5 rs H hd hrs hrow hN
  have hlen2:ns.length=d.length+(r.length+1):=by rw[hd];simp
  have hlt:decide ((d.length:Int)<(ns.length:Int))=true:=by rw[decide_eq_true_eq];omega
  have hw1:IntKind.i64.wrap ((d.length:Int)+1)=((d.length+1:Nat):Int):=by rw[Zr (by omega) (by omega)];omega
  have hin:ns[d.length]?=some n:=by rw[hd,List.getElem?_append_right (Nat.le_refl _)];simp
  have hidx:=SS.idx hx hin
  have hop:=ZeB o n H
  have hone:(ZA 1 [(0,AV.ptr H.length 0)] [.nilp]).map (AV.vs 1 .clip)=some (.vs 1 .clip [.ptr H.length 0]):=rfl
  obtain⟨x',H2,w1,w2,w3,w4,w5⟩:=(hrow.push [.cells (WU o n 0 false false [])]).app (by simp;omega) 8 (.vs 1 .clip [.ptr H.length 0]) [.ptr H.length 0] rfl (by simp;omega)
  have w5':∀ (a:Nat) (cs:List AV),(H++[AObj.cells (WU o n 0 false false [])])[a]?=some (.cells cs)→H2[a]?=some (.cells cs):=w5
  have hself:H2[H.length]?=some (.cells (WU o n 0 false false [])):=w5' _ _ (by simp)
  have hH2:H.length<H2.length:=Zg hself
  obtain⟨H3,x5',rs',m1,m2,m3,m4,m5,m6,m7,m8,m9⟩:=ih (d++[n]) x' (rs++[H.length]) H2 (by rw[hd];simp) (by simp[hrs]) (by rw[List.map_append];exact w2) w3
  rw[List.length_append,List.length_singleton]at m1
  refine⟨H3,x5',H.length::rs',?_,by rw[show rs++H.length::rs'=rs++[H.length]++rs' by simp];exact m2,by simp[m3],fun a ha=>(m4 a ha).trans ((w4 a ha).trans (List.getElem?_append_left (by omega))),fun a cs h=>m5 a cs (w5' a cs (Yw h _)),fun i k hi=>?_,?_,fun rr hr=>?_,by omega⟩
  ·rw[TJ]
   simp only[go_sem,hlt,Zaj,hidx,ZD,hop,hone,w1,Zak,hw1]
   exact m1
  ·cases i with
   |zero =>
    simp at hi
    subst hi
    exact⟨H.length,rfl,m5 _ _ hself⟩
   |succ i=>exact m6 i k (by simpa using hi)
  ·rw[List.nodup_cons]
   exact⟨fun h=>by have:=m8 _ h;omega,m7⟩
  ·rcases List.mem_cons.1 hr with e'|h
   ·omega
   ·have:=m8 _ h;omega
section
variable {o t g:Nat}{tm:Tmp}{fs:List Fil}{n:Zo}{L:Loc}{lx c e:AV}{p:Spec}{xp:AV}{rx:AV}{rs:List Nat}
 (hm:TmpOk tm) (hcl:tm.closed=false) (hn:n∈tm.names) (hns:n∉tm.sld) (hlim:tm.limit=262144) (hgn:ZS fs n=none)
 (hsto:∀ x pk,Zv fs+x.length≤262144→pk≤262144→StoOk (sF fs n x pk))
 (hl:LocAV (.agg (L.cells lx c e)) L) (hok:LocOk L) (hs:SpecAV (.agg (p.cells xp)) p) (hks:∀ k∈p.keys,KeOk k)
 (hrx:Sl 1 rx (rs.map fun r=>AV.ptr r 0)) (hnd:rs.Nodup) (hlen:rs.length≤1048576) (hgd:g∉rs)
include hm hcl hn hns hlim hgn hsto hl hok hs hks hrx hnd hlen hgd
theorem ZiJ (H0:Hp):∀ (k:Nat) (ds:List Rd) (last:Zo) (has:Bool) (acc:List Zf) (pk:Nat) (A:List Nat) (H:Hp),Y3 ds≤k→Zv fs+ZB acc+UA ds≤262144→pk≤262144→last.length≤1048576→ds.map Rd.r=rs→n∉ds.map Rd.n →
 SysAt H o t tm (sF fs n (ZG acc) pk) A→(∀ x∈ds,RdAt H o tm (sF fs n (ZG acc) pk) A x)→H[g]?=some (.cells (QP L lx c e p xp (ZM p==0) rx last has))→g∉A →
 ∃ H' A' pk' out ds',Ko (.ptr o 0) (.str n) (.ptr g 0) H0 H=FX (.ptr o 0) (.str n) H0 H'∧AllD L p last has ds out ds'∧SysAt H' o t tm (sF fs n (ZG (acc++out)) pk') A'∧pk'≤262144∧Zv fs+ZB (acc++out)≤262144∧Stp (g::rs++A) H H'∧(∀ a∈A',a∈A∨H.length≤a):=by
 have e0:((0:Int) != 0)=false:=rfl
 intro k
 induction k with
 |zero =>
  intro ds last has acc pk A H ht hco hpk hlast hr hnn hsys hrd hg hgA
  have hk:=hsto (ZG acc) pk (by rw[Xf];omega) hpk
  obtain⟨H1,z,ds1,p1,p2,p3,p4,p5,p6,p7⟩:=BD hm hk rfl rfl hl hok hs hks hrx hnd hlen hgA hgd hlast hr hsys hrd hg
  cases z with
  |some a=>have:=p2.less.2 a rfl;omega
  |none =>
   refine⟨H1,A,pk,[],ds1,?_,.done p2,by rw[List.append_nil];exact p3,hpk,by rw[List.append_nil];omega,p4,fun a ha=>.inl ha⟩
   rw[Gf]
   simp only[p1,go_sem,List.getElem?_cons_zero,List.getElem?_cons_succ,e0,Ge,Option.isSome,Option.getD,Bool.not_false]
 |succ k ih =>
  intro ds last has acc pk A H ht hco hpk hlast hr hnn hsys hrd hg hgA
  have hk:=hsto (ZG acc) pk (by rw[Xf];omega) hpk
  obtain⟨H1,z,ds1,p1,p2,p3,p4,p5,p6,p7⟩:=BD hm hk rfl rfl hl hok hs hks hrx hnd hlen hgA hgd hlast hr hsys hrd hg
  cases z with
  |none =>
   refine⟨H1,A,pk,[],ds1,?_,.done p2,by rw[List.append_nil];exact p3,hpk,by rw[List.append_nil];omega,p4,fun a ha=>.inl ha⟩
   rw[Gf]
   simp only[p1,go_sem,List.getElem?_cons_zero,List.getElem?_cons_succ,e0,Ge,Option.isSome,Option.getD,Bool.not_false]
  |some a =>
   have hal:a.length≤4096:=by
    obtain⟨x,hx,ha⟩:=p2.mem a rfl
    have:=List.all_eq_true.1 (hrd x hx).fit a ha
    simpa using this
   have hcost:=p2.cost.2 a rfl
   have hca:ZB [a]=a.length+6:=rfl
   have hac:(ZG acc).length=ZB acc:=Xf acc
   obtain⟨H2,A2,w1,w2⟩:=Ih p3 hm hk n (Oc a) (fun s hs=>by rw[List.mem_singleton.1 hs];omega) (by rw[hca];omega)
   have hmore:=Zqa (tm:=tm) (fs:=fs) (n:=n) (x:=ZG acc) (pk:=pk) hcl hn hns hlim hgn (l:=[a]) (by simp[YI];omega) (by rw[hac,hca];omega)
   rw[hmore,←ZgL]at w1 w2
   have hAlt:=p3.lt
   have hout:∀ {b:Nat},b<H1.length→b∉A→b∉A2:=fun hb hn h1=>by
    rcases w2.own _ h1 with k|k
    ·exact hn k
    ·omega
   have hg2:=w2.stp.get p7 hgA
   have hrd2:∀ x∈ds1,RdAt H2 o tm (sF fs n (ZG (acc++[a])) (max pk (Zv fs+(ZG acc).length+ZB [a]))) A2 x:=fun x hx=>by
    have h6:=p6 x hx
    have hxn:x.n≠n:=fun e'=>hnn (by rw[←p2.names,←e'];exact List.mem_map_of_mem hx)
    refine⟨h6.rdr.frame (w2.stp.at' x.r h6.lt h6.out),hout h6.lt h6.out,h6.fit,h6.len,h6.file.imp (fun⟨f1,f,f2,f3⟩=>⟨f1,f,?_,f3⟩) id⟩
    have f2':ZS (fs++[⟨n,ZG acc,0⟩]) x.n=some f:=f2
    rw[Zeg rfl hxn]at f2'
    show ZS (fs++[⟨n,_,0⟩]) x.n=some f
    rw[Zeg rfl hxn]
    exact f2'
   have hl1:=p4.len
   have hl2:=w2.stp.len
   obtain⟨H3,A3,pk3,out,ds3,m1,m2,m3,m4,m5,m6,m7⟩:=ih ds1 a true (acc++[a]) _ A2 H2 (by have:=p2.less.2 a rfl;omega) (by rw[U7];omega) (by rw[hac,hca];omega) (by omega) p5 (by rw[p2.names];exact hnn) w2.at' hrd2 hg2 (hout (Zg p7) hgA)
   refine⟨H3,A3,pk3,a::out,ds3,?_,.more p2 m2,by rw[show acc++a::out=acc++[a]++out by simp];exact m3,m4,by rw[show acc++a::out=acc++[a]++out by simp];exact m5,?_,fun b hb=>?_⟩
   ·rw[Gf]
    simp only[p1,go_sem,List.getElem?_cons_zero,List.getElem?_cons_succ,e0,Ge,Option.isSome,Option.getD,Bool.not_true,Zai,QX,w1]
    exact m1
   ·have s1:Stp (g::rs++A) H H2:=p4.trans w2.stp (fun _ h=>h) fun b hb=>.inl (List.mem_append_right _ hb)
    refine s1.trans m6 (fun _ h=>h) fun b hb=>?_
    rcases List.mem_append.1 hb with h|h
    ·exact .inl (List.mem_append_left _ h)
    ·rcases w2.own b h with h|h
     ·exact .inl (List.mem_append_right _ h)
     ·exact .inr (by omega)
   ·rcases m7 b hb with h|h
    ·rcases w2.own b h with h|h
     ·exact .inl h
     ·exact .inr (by omega)
    ·exact .inr (by omega)
end
section
variable {o t:Nat}{A:List Nat}{a q:AV}{L:Loc}{p:Spec}(ha:LocAV a L)(hok:LocOk L)(hsm:LocSm L)(hq:SpecAV q p)(hks:∀ k∈p.keys,KeOk k)(hkl:p.keys.length≤1048576)
 {xn:AV} {ls:List (List Zf)} (hf:∀ l∈ls,Few l) (h8:ls.length≤8) {pk:Nat} (hpk:pk≤262144) (hx:SS xn (nms.take ls.length))
include ha hok hsm hq hks hkl hf h8 hpk hx
theorem Zl1 {H:Hp}(h:SysAt H o t (Xy ls.length) (Ve ls pk) A):∃ H' A' pk',RT [.ptr o 0,a,q,xn] H=some (.tuple [.str (Zq ZO (ls.length+1)),.int .i64 0],H') ∧
 SysAt H' o t (Xy (ls.length+1)) (Ve (ls++[ZN L p ls]) pk') A'∧pk'≤262144∧Stp A H H'∧(∀ b∈A',b∈A∨H.length≤b)∧ZB ls.flatten+ZB (ZN L p ls)≤262144:=by
 have hav:=ha
 have hqv:=hq
 obtain⟨lx,c,e,rfl,hlx,hlc,hle⟩:=ha
 obtain⟨xp,rfl,hxp⟩:=hq
 have hk9:ls.length<9:=by omega
 have hcost:=SW ls hf
 have hmul:ls.length*6180≤8*6180:=Nat.mul_le_mul_right _ h8
 have htl:=ZeK ls hf
 have htk:=W9 (k:=ls.length) (by omega)
 have hnm:=P2 _ _ htk
 have hus:=ME _ _ htk
 have hout:ZS (Yc (nms.take ls.length) ls) (Zq ZO (ls.length+1))=none:=ZgZ (by rw[hnm];exact BH hk9)
 have hfl:(Yc (nms.take ls.length) ls).length=ls.length:=by rw[←List.length_map (f:=Fil.name),hnm,htk]
 have hsu:=Ch hk9
 have hAlt:=h.lt
 have hnil:Yn (.pointer 117) .eql (.ptr o 0) .nilp=some (.bool false):=rfl
 have g1:(H++[AObj.cells (L.cells lx c e),.cells (p.cells xp)])[H.length]?=some (.cells (L.cells lx c e)):=by simp
 have g2:(H++[AObj.cells (L.cells lx c e),.cells (p.cells xp)])[H.length+1]?=some (.cells (p.cells xp)):=by simp
 have hS0:Stp A H (H++[AObj.cells (L.cells lx c e),.cells (p.cells xp)]):=Stp.push _ _
 have hlen0:(H++[AObj.cells (L.cells lx c e),.cells (p.cells xp)]).length=H.length+2:=by simp
 have hsys0:SysAt (H++[AObj.cells (L.cells lx c e),.cells (p.cells xp)]) o t (Xy ls.length) (Ve ls pk) A:=h.stp (C:=[]) (Stp.push _ _) (fun a ha=>by simp)
 have hbx:Y4 (.agg (p.cells xp)) (H++[AObj.cells (L.cells lx c e)])=some (.ptr (H.length+1) 0,H++[AObj.cells (L.cells lx c e),.cells (p.cells xp)]):=by rw[X1];simp
 generalize hH0:H++[AObj.cells (L.cells lx c e),.cells (p.cells xp)]=H0 at g1 g2 hS0 hsys0 hbx hlen0
 have hm:=S7 (k:=ls.length) (by omega)
 have hk:StoOk (Ve ls pk):=NP (by omega) (by omega) hpk
 obtain⟨H1,A1,p1,p2⟩:=Zb9 hsys0 hm hk (show ls.length<1000000 by omega)
 have hN:Rf (Xy ls.length) (Ve ls pk)=((Zq ZO (ls.length+1),0),({ Xy ls.length with last:=ls.length+1,names:=nms.take ls.length++[Zq ZO (ls.length+1)] },sF (Yc (nms.take ls.length) ls) (Zq ZO (ls.length+1)) (ZG []) pk)) :=
  Zjk (tm:=Xy ls.length) (s:=Ve ls pk) rfl rfl rfl rfl (Zf5 hk9) hout (by show (Yc (nms.take ls.length) ls).length<64;omega)
 rw[hN]at p1 p2
 have hm1:TmpOk { Xy ls.length with last:=ls.length+1,names:=nms.take ls.length++[Zq ZO (ls.length+1)] }:=⟨show (5:Nat)≤16 by omega,show (262144:Nat)≤_ by omega,show (nms.take ls.length++[Zq ZO (ls.length+1)]).length≤ls.length+1 by rw[List.length_append,htk];exact Nat.le_refl _,show ls.length+1≤1000000 by omega⟩
 generalize htm1:({ Xy ls.length with last:=ls.length+1,names:=nms.take ls.length++[Zq ZO (ls.length+1)] }:Tmp)=tm1 at p1 p2 hm1
 have hnA:∀ i,H.length≤i→i∉A:=fun i hi ha=>by have:=hAlt i ha;omega
 have g1':=p2.stp.get g1 (hnA _ (Nat.le_refl _))
 have g2':=p2.stp.get g2 (hnA _ (by omega))
 have hl1:=p2.stp.len
 obtain⟨H2,rx,rs,r1,r2,r3,r4,r5,r6,r7,r8,r9⟩:=Zek hx (by rw[htk];omega) o H1.length (.ptr H.length 0) (.ptr (H.length+1) 0) (.str (Zq ZO (ls.length+1))) H (nms.take ls.length) [] .nils [] H1 rfl rfl (RowN.nil _ _ _) (Nat.le_refl _)
 have g1'':=r5 _ _ g1'
 have g2'':=r5 _ _ g2'
 rw[htk]at r3
 obtain⟨H3,g,lx',c',e',xp',rx',n1,n2,n3,n4,n5,n6,n7⟩:=Zgf hav hsm hqv hkl (rx:=rx) (rs:=rs) (by simpa using r2.sl) (by omega) H2
 have hA1lt:=p2.at'.lt
 have hl23:=n6.len
 have hgH:=Zg n2
 have hrlt:∀ r∈rs,r<H2.length:=fun r hr=>by
  obtain⟨i,hi⟩:=List.getElem?_of_mem hr
  have hil:=(List.getElem?_eq_some_iff.1 hi).1
  obtain⟨rr,k1,k2⟩:=r6 i (nms.take ls.length)[i] (List.getElem?_eq_getElem (by omega))
  rw[hi]at k1
  injection k1 with k1
  subst k1
  exact Zg k2
 have hsys3:=p2.at'.frame (H':=H3) fun b hb=>(n6.at' b (by have:=hA1lt b hb;omega) (by simp)).trans (r4 b (hA1lt b hb))
 obtain⟨d1,d2⟩:=ZnE rs (nms.take ls.length) ls (by rw[r3,htk]) htk
 have hfs:∀ (i:Nat) (n:Zo) (l:List Zf),(nms.take ls.length)[i]?=some n→ls[i]?=some l→YI l=true∧(ZG l).length≤262144∧(ZV tm1 n=0∧∃ f,ZS (sF (Yc (nms.take ls.length) ls) (Zq ZO (ls.length+1)) (ZG []) pk).files n=some f∧f.text=ZG l):=fun i n l hn hl=>by
  have hfl:=hf l (List.mem_of_getElem? hl)
  have hc:=hfl.cost
  have hne:n≠Zq ZO (ls.length+1):=fun e=>BH hk9 (e ▸ List.mem_of_getElem? hn)
  refine⟨hfl.fits,by rw[Xf];omega,?_,⟨n,ZG l,(ZG l).length⟩,?_,rfl⟩
  ·unfold ZV
   rw[←htm1,if_neg (by simp[Xy]),if_pos (List.mem_append_left _ (List.mem_of_getElem? hn))]
  ·exact (Zeg rfl hne).trans (Zbl _ _ htk (nms_nd.sublist (List.take_sublist _ _)) i n l hn hl)
 have hrd:∀ d∈Bg rs (nms.take ls.length) ls,RdAt H3 o tm1 (sF (Yc (nms.take ls.length) ls) (Zq ZO (ls.length+1)) (ZG []) pk) A1 d:=fun d hd=>by
  obtain⟨i,r,n,l,e1,e2,e3,rfl⟩:=ZbH _ _ _ d hd
  obtain⟨rr,k1,k2⟩:=r6 i n e2
  rw[e1]at k1
  injection k1 with k1
  subst k1
  obtain⟨f1,f2,f3⟩:=hfs i n l e2 e3
  refine⟨.inr (.inr ⟨[],?_,rfl⟩),fun hA=>?_,f1,f2,.inl f3⟩
  ·exact (n6.at' r (Zg k2) (by simp)).trans k2
  ·have:=hA1lt r hA
   have:=r8 r (List.mem_of_getElem? e1)
   omega
 have hnn:Zq ZO (ls.length+1)∉(Bg rs (nms.take ls.length) ls).map Rd.n:=fun hh=>by
  obtain⟨d,hd,he⟩:=List.mem_map.1 hh
  obtain⟨i,r,n,l,e1,e2,e3,rfl⟩:=ZbH _ _ _ d hd
  exact BH hk9 (he ▸ List.mem_of_getElem? e2)
 have hnd9:(nms.take ls.length++[Zq ZO (ls.length+1)]).Nodup:=by rw[←hsu];exact nms_nd.sublist (List.take_sublist _ _)
 have hin9:∀ n∈nms.take ls.length++[Zq ZO (ls.length+1)],n∈nms:=fun n hn=>by rw[←hsu]at hn;exact List.mem_of_mem_take hn
 have hsto:∀ (x:Zo) (pk:Nat),Zv (Yc (nms.take ls.length) ls)+x.length≤262144→pk≤262144→StoOk (sF (Yc (nms.take ls.length) ls) (Zq ZO (ls.length+1)) x pk):=fun x pk hx hpk =>
  ZdD (ns:=nms.take ls.length++[Zq ZO (ls.length+1)]) (by rw[List.map_append,hnm];rfl) (by rw[List.length_append,htk,List.length_singleton];omega) hnd9 hin9 (by rw[Vf];simp only[Zv];omega) hpk (fun f hf=>by
   rcases List.mem_append.1 hf with h|h
   ·rw[Zbm _ _ f h];exact Nat.le_refl _
   ·rw[List.mem_singleton.1 h];exact Nat.zero_le _)
 have hnmem:Zq ZO (ls.length+1)∈tm1.names:=by rw[←htm1];simp
 have hnsld:Zq ZO (ls.length+1)∉tm1.sld:=by rw[←htm1];exact BH hk9
 have hgA:g∉A1:=fun hA=>by have:=hA1lt g hA;omega
 have hgr:g∉rs:=fun hr=>by have:=hrlt g hr;omega
 obtain⟨H4,A4,pk4,out,ds',m1,m2,m3,m4,m5,m6,m7⟩:=ZiJ (o:=o) (t:=t) (g:=g) (tm:=tm1) (fs:=Yc (nms.take ls.length) ls) (n:=Zq ZO (ls.length+1)) (rs:=rs) hm1 (by rw[←htm1];rfl) hnmem hnsld (by rw[←htm1];rfl) hout hsto n3 hok n4 hks n5 r7 (by omega) hgr H
  (ZC ls) (Bg rs (nms.take ls.length) ls) [] false [] pk A1 H3 (by rw[←Pn,d2];exact Nat.le_refl _) (by rw[Zkf,d2,hus];simp only[ZB];omega) hpk (by simp) d1 hnn hsys3 hrd n2 hgA
 have hmg:=m2.merge
 rw[d2]at hmg
 subst hmg
 rw[List.nil_append]at m3 m5
 have hk4:=hsto (ZG (ZN L p ls)) pk4 (by rw[Xf];exact m5) m4
 obtain⟨H5,A5,t1,t2⟩:=Zb8 m3 hm1 hk4 (Zq ZO (ls.length+1))
 have hSe:DS tm1 (sF (Yc (nms.take ls.length) ls) (Zq ZO (ls.length+1)) (ZG (ZN L p ls)) pk4) (Zq ZO (ls.length+1))=(0,(Xy (ls.length+1),Ve (ls++[ZN L p ls]) pk4)):=by
  refine (Zhy (tm:=tm1) (s:=sF (Yc (nms.take ls.length) ls) (Zq ZO (ls.length+1)) (ZG (ZN L p ls)) pk4) (fs:=Yc (nms.take ls.length) ls) rfl rfl (by rw[←htm1];rfl) hnmem rfl hout).trans ?_
  have e1:PX (nms.take ls.length) (Zq ZO (ls.length+1))=nms.take (ls.length+1):=by rw[PX,if_neg (BH hk9),hsu]
  have e3:Yc (nms.take (ls.length+1)) (ls++[ZN L p ls])=Yc (nms.take ls.length) ls++[⟨Zq ZO (ls.length+1),ZG (ZN L p ls),(ZG (ZN L p ls)).length⟩]:=by rw[hsu,ZgQ _ _ _ _ htk]
  have e2:(ls++[ZN L p ls]).length=ls.length+1:=by simp
  rw[←htm1]
  show ((0:Int),(⟨ZO,nms.take ls.length++[Zq ZO (ls.length+1)],PX (nms.take ls.length) (Zq ZO (ls.length+1)),262144,ls.length+1,false⟩:Tmp),(⟨262144,pk4,Yc (nms.take ls.length) ls++[⟨Zq ZO (ls.length+1),ZG (ZN L p ls),(ZG (ZN L p ls)).length⟩],false,0⟩:Sto)) =
   ((0:Int),(⟨ZO,nms.take (ls.length+1),nms.take (ls.length+1),262144,ls.length+1,false⟩:Tmp),(⟨262144,pk4,Yc (nms.take (ls++[ZN L p ls]).length) (ls++[ZN L p ls]),false,0⟩:Sto))
  rw[e1,←hsu,e2,e3]
 rw[hSe]at t1 t2
 have hS1:Stp A H H1:=hS0.trans p2.stp (fun _ h=>h) fun b hb=>.inl hb
 have hS3:Stp A H H3:=⟨by have:=hS1.len;omega,fun i hi hn=>(n6.at' i (by have:=hS1.len;omega) (by simp)).trans ((r4 i (by have:=hS1.len;omega)).trans (hS1.at' i hi hn))⟩
 have hS1l:=hS1.len
 have hA1o:∀ b∈A1,b∈A∨H.length≤b:=fun b hb=>(p2.own b hb).imp id fun h=>by omega
 have hS4:Stp A H H4:=hS3.trans m6 (fun _ h=>h) fun b hb=>by
  rcases List.mem_append.1 hb with h|h
  ·rcases List.mem_cons.1 h with h|h
   ·exact .inr (by omega)
   ·have:=r8 b h;exact .inr (by omega)
  ·exact hA1o b h
 have hA4o:∀ b∈A4,b∈A∨H.length≤b:=fun b hb=>by
  rcases m7 b hb with h|h
  ·exact hA1o b h
  ·exact .inr (by omega)
 have hS5:Stp A H H5:=hS4.trans t2.stp (fun _ h=>h) hA4o
 have hS4l:=hS4.len
 refine⟨H5,A5,pk4,?_,t2.at',m4,hS5,fun b hb=>?_,by rw[←hus];exact m5⟩
 ·have e0:((0:Int) != 0)=false:=rfl
  have hal:=SS.len hx 9
  rw[ZaW]
  unfold CN
  simp only[X1,go_sem,hbx,hnil,Zad,p1,List.getElem?_cons_zero,List.getElem?_cons_succ,e0,Zae,hal]
  refine r1.trans ?_
  rw[Zaf]
  simp only[JK g1'',Uc g2'',n1,go_sem]
  refine m1.trans ?_
  rw[Zag]
  simp only[t1,go_sem,e0,Zah]
 ·rcases t2.own b hb with h|h
  ·exact hA4o b h
  ·exact .inr (by omega)
end
theorem Zle (L:Loc)(p:Spec):V2 false L p=id:=(Eq.refl _).trans (Eq.refl _)
theorem Zdg (f:Zf→Zf→Int):∀ (n:Nat) (rest:List (List Zf)),(Xp f n rest).length≤n:=by
 intro n
 induction n with
 |zero=>intro rest;exact Nat.le_refl _
 |succ n ih =>
  intro rest
  cases hg:Yr f rest 0 none with
  |none=>rw[Rc hg];simp
  |some p =>
   obtain⟨k,a⟩:=p
   rw[QV hg]
   have:=ih (rest.set k ((rest.getD k []).drop 1))
   rw[List.length_cons];omega
theorem ZkX (L:Loc)(p:Spec)(ls:List (List Zf)):(ZN L p ls).length≤ZC ls:=by
 have h:=Zdg (ZP L p) (ZC ls) ls
 have k:=Zf6 (g:=Xu L p) (Xp (ZP L p) (ZC ls) ls) []
 unfold ZN DG
 split
 ·rw[QI];exact Nat.le_refl _
 ·split
  ·simp at k;omega
  ·exact h
section
variable {a q:AV}{L:Loc}{p:Spec}(ha:LocAV a L)(hok:LocOk L)(hsm:LocSm L)(hq:SpecAV q p)(hks:∀ k∈p.keys,KeOk k)(hkl:p.keys.length≤1048576)
 {x:AV} {ls:List (List Zf)} (hx:LsV x ls) (hL:K6 ls) (ht:ZC ls≤1048576) (hl:ls.length≤1048576)
include ha hok hsm hq hks hkl hx hL ht hl
end
def MD:Option (Nat×Zf)→Int
 |none=>-1
 |some (k,_)=>(k:Int)
theorem SE:MD none=-1:=rfl
theorem SF (k:Nat)(a:Zf):MD (some (k,a))=(k:Int):=rfl
theorem Zfl {α:Type}:∀ (ls:List (List α)) (k:Nat) (a:α) (t:List α),ls[k]?=some (a::t)→ZC (ls.set k t)+1=ZC ls:=by
 intro ls
 induction ls with
 |nil=>intro k a t h;simp at h
 |cons x ls ih =>
  intro k a t h
  cases k with
  |zero=>simp at h;subst h;simp[ZC];omega
  |succ k=>simp at h;have:=ih k a t h;simp[ZC];omega
section
variable {K:AV→Prop}{f:Zf→Zf→Int}(hK:Fv K fun a b=>decide (0<f a b)){v:AV}(hv:K v)
include hK hv
theorem ZkS {x:AV}{ls:List (List Zf)}{H:Hp}(hx:LL H x ls)(hL:K6 ls)(hl:ls.length≤1048576)(hin:∀ l∈ls,l.length≤1048576)(H0:Hp):∀ (r done:List (List Zf)) (b:Option (Nat×Zf)),ls=done++r →
 (∀ k a,b=some (k,a)→∃ t,ls[k]?=some (a::t)) →
 Qs x v (.int .i64 (MD b)) x (.int .i64 (ls.length:Int)) (.int .i64 (done.length:Int)) H0 H=some (.int .i64 (MD (Yr f r done.length b)),H):=by
 intro r
 induction r with
 |nil =>
  intro done b hd hb
  rw[List.append_nil]at hd
  subst hd
  have hlt:decide ((ls.length:Int)<(ls.length:Int))=false:=by simp
  rw[Fc]
  simp only[go_sem,hlt,HW]
  rfl
 |cons y r ih =>
  intro done b hd hb
  have hlen:ls.length=done.length+(r.length+1):=by rw[hd];simp
  have hlt:decide ((done.length:Int)<(ls.length:Int))=true:=by simp;omega
  have hw1:IntKind.i64.wrap ((done.length:Int)+1)=((done.length+1:Nat):Int):=by rw[Zr (by omega) (by omega)];omega
  have hiy:ls[done.length]?=some y:=by rw[hd,List.getElem?_append_right (Nat.le_refl _)];simp
  have hmy:y∈ls:=List.mem_of_getElem? hiy
  obtain⟨q,ay,g1,g2,g3⟩:=hx.get hiy
  have next:∀ b',(∀ k a,b'=some (k,a)→∃ t,ls[k]?=some (a::t))→Qq x v (.int .i64 (MD b')) x (.int .i64 (ls.length:Int)) (.int .i64 (done.length:Int)) H0 H=some (.int .i64 (MD (Yr f r (done.length+1) b')),H):=fun b' hb'=>by
   have:=ih (done++[y]) b' (by rw[hd];simp) hb'
   rw[List.length_append,List.length_singleton]at this
   rw[HY]
   simp only[go_sem,hw1,this]
  have hn:=SS.len g3 9
  rw[Fc]
  simp only[go_sem,hlt,HX,g1,g2,hn]
  cases y with
  |nil =>
   have h0:decide ((0:Int)<((([]:List Zf).length:Nat):Int))=false:=rfl
   simp only[h0,go_sem,C3]
   exact next b hb
  |cons a t =>
   have h1:decide ((0:Int)<(((a::t).length:Nat):Int))=true:=by simp
   have ha:a.length≤1048576:=hL _ hmy a (by simp)
   have nn:=next (some (done.length,a)) fun k a' e=>by
    injection e with e
    injection e with e1 e2
    subst e1 e2
    exact⟨t,hiy⟩
   rw[SF]at nn
   have i0:Zl 1 ay (.int .i64 0)=some (.vp [.str a]):=SS.idx g3 (i:=0) rfl
   cases b with
   |none =>
    rw[LO,SE]
    have h2:decide ((-1:Int)<0)=true:=rfl
    simp only[h1,h2,go_sem]
    exact nn
   |some p =>
    obtain⟨k,c⟩:=p
    obtain⟨t',hk⟩:=hb k c rfl
    obtain⟨q',ac,f1,f2,f3⟩:=hx.get hk
    have hc:c.length≤1048576:=hL _ (List.mem_of_getElem? hk) c (by simp)
    have j0:Zl 1 ac (.int .i64 0)=some (.vp [.str c]):=SS.idx f3 (i:=0) rfl
    have hcall:=hK.run v hv c a hc ha H
    have h2:decide ((k:Int)<0)=false:=by simp
    have no:=next (some (k,c)) hb
    rw[Rb]
    rw[SF]at no ⊢
    simp only[h1,h2,go_sem,f1,f2,j0,i0,ZD,hcall]
    by_cases hca:0<f c a
    ·simp only[decide_eq_true hca,go_sem,if_pos hca]
     exact nn
    ·simp only[decide_eq_false hca,go_sem,if_neg hca]
     exact no
theorem ZeY {x:AV}{ls:List (List Zf)}{H:Hp}(hx:LL H x ls)(hL:K6 ls)(hl:ls.length≤1048576)(hin:∀ l∈ls,l.length≤1048576) :
 J8 [x,v] H=some (.int .i64 (MD (Yr f ls 0 none)),H):=by
 have h:=ZkS hK hv hx hL hl hin H ls [] none rfl (fun k a e=>by cases e)
 rw[List.length_nil,show ((0:Nat):Int)=0 from rfl,SE]at h
 rw[AM]
 unfold Mm
 simp only[go_sem,hx.len,h]
theorem ZiH {x3 x4:AV}(B:Hp){o:Nat}(ho:B.length≤o):∀ (n:Nat) (rest:List (List Zf)) (acc:List Zf) (x x9:AV) (H:Hp),ZC rest=n→Rst o H x rest→RowN (o+1) H 1 x9 (acc.map AV.str)→Keep B.length B H→B.length≤H.length→K6 rest→rest.length≤1048576→acc.length+n≤1048576 →
 ∃ y H',Qp x3 x4 v x x9 (.int .i64 (MD (Yr f rest 0 none))) B H=Qm x3 x4 y B H'∧SS y (acc++Xp f n rest)∧Keep B.length B H'∧B.length≤H'.length:=by
 intro n
 induction n with
 |zero =>
  intro rest acc x x9 H ht hx h9 hk hlB hL hl hac
  have hb:=Zbx f rest [] none (fun k a e=>(by cases e)) (fun _ l hl=>(by cases hl))
  rw[List.nil_append,List.length_nil]at hb
  have hnone:Yr f rest 0 none=none:=by
   cases hg:Yr f rest 0 none with
   |none=>rfl
   |some p =>
    obtain⟨k,a⟩:=p
    obtain⟨t,hk⟩:=hb.1 k a hg
    have:=Zfl rest k a t hk
    omega
  refine⟨x9,H,?_,by simpa[Xp]using h9.sl,hk,hlB⟩
  rw[Fb,hnone,SE]
  have h2:decide ((0:Int)≤-1)=false:=rfl
  simp only[go_sem,h2]
 |succ n ih =>
  intro rest acc x x9 H ht hx h9 hk hlB hL hl hac
  have hb:=Zbx f rest [] none (fun k a e=>(by cases e)) (fun _ l hl=>(by cases hl))
  rw[List.nil_append,List.length_nil]at hb
  cases hg:Yr f rest 0 none with
  |none =>
   have h0:=hb.2 hg
   have:ZC rest=0:=by rw[←QI,List.flatten_eq_nil_iff.2 h0];rfl
   omega
  |some p =>
   obtain⟨k,a⟩:=p
   obtain⟨t,hkt⟩:=hb.1 k a hg
   have hkl:k<rest.length:=(List.getElem?_eq_some_iff.1 hkt).1
   have hts:=Zfl rest k a t hkt
   have hdrop:(rest.getD k []).drop 1=t:=by rw[List.getD_eq_getElem?_getD,hkt];rfl
   have hoH:o+1≤H.length:=by
    rcases hx with ⟨rfl,_⟩|⟨e,es,_,h1,_⟩
    ·simp at hkl
    ·have:=(List.getElem?_eq_some_iff.1 h1).1;omega
   obtain⟨q,b,g1,g2,g3⟩:=Rst.ll hx |>.get hkt
   obtain⟨y1,H1,q1,q2,q3,q4,_⟩:=h9.app hoH 16 (.vs 1 .clip [.str a]) [.str a] rfl (by simp;omega)
   have hx1:=hx.keep q4
   obtain⟨q',b',e1,e2,e3⟩:=hx1.get hkt
   obtain⟨b2,s1,s2⟩:=SS.lo e3 (n:=1) (by simp)
   rw[show ((1:Nat):Int)=1 from rfl]at s1
   simp only[List.drop_one,List.tail_cons]at s2
   obtain⟨p',H2,w1,w2,w3,w4,w5⟩:=hx1.put hkl s2
   have hrow2:RowN (o+1) H2 1 y1 ((acc++[a]).map AV.str):=by
    rw[List.map_append]
    rcases q2 with ⟨r1,r2⟩|⟨t',e',r1,r2,r3⟩
    ·exact .inl ⟨r1,r2⟩
    ·exact .inr ⟨t',e',r1,(w5 t' (by omega)).trans r2,r3⟩
   have hkB:Keep B.length B H2:=fun i hi=>(w5 i (by omega)).trans ((q4 i (by omega)).trans (hk i hi))
   have hL2:K6 (rest.set k t):=fun l hl s hs=>by
    rcases List.mem_or_eq_of_mem_set hl with h|h
    ·exact hL l h s hs
    ·subst h;exact hL _ (List.mem_of_getElem? hkt) s (by simp[hs])
   have hin2:∀ l∈rest.set k t,l.length≤1048576:=fun l hl=>by
    have h3:∀ (ls:List (List Zf)),l∈ls→l.length≤ZC ls:=by
     intro ls
     induction ls with
     |nil=>intro h;cases h
     |cons z ls ih2 =>
      intro h
      rcases List.mem_cons.1 h with h|h
      ·subst h;simp[ZC]
      ·have:=ih2 h;simp[ZC];omega
    have:=h3 _ hl
    omega
   have hlr:=ZeY hK hv w3.ll hL2 (by rw[List.length_set];exact hl) hin2
   obtain⟨y,H',m1,m2,m3,m4⟩:=ih (rest.set k t) (acc++[a]) x y1 H2 (by omega) w3 hrow2 hkB (by omega) hL2 (by rw[List.length_set];exact hl) (by simp;omega)
   have hq':q'=q:=Option.some.inj (e1.symm.trans g1)
   have hp':p'=q:=Option.some.inj (w1.symm.trans g1)
   subst hq' hp'
   refine⟨y,H',?_,?_,m3,m4⟩
   ·have h2:decide ((0:Int)≤(k:Int))=true:=by simp
    have i0:Zl 1 b (.int .i64 0)=some (.vp [.str a]):=SS.idx g3 (i:=0) rfl
    rw[Fb,SF]
    simp only[go_sem,h2,HU,g1,g2,i0,ZD,QX,q1,e2,s1,w2,HV,hlr]
    exact m1
   ·rw[QV hg,hdrop]
    simpa using m2
end
theorem Zk9 {x:AV}{ls:List (List Zf)}{H:Hp}(h:LL H x ls)(hl:ls.length≤1048576):∃ y H',Gw false 1 24 (.vs 1 .clip []) x H=some (y,H')∧Rst H.length H' y ls∧Keep H.length H H'∧H.length≤H'.length:=by
 obtain⟨es,he1,he2⟩:=h.elems
 have hfit:fits (([]:List AV).length+es.length) 24=true:=by
  have:=he2.len
  simp[fits]
  omega
 unfold Gw
 rw[he1]
 dsimp only
 unfold R5
 dsimp only
 rw[if_pos ⟨rfl,hfit⟩]
 by_cases h0:es=[]
 ·subst h0
  have:ls=[]:=List.length_eq_zero_iff.1 (by rw[←he2.len];rfl)
  subst this
  exact⟨_,_,rfl,.inl ⟨rfl,.inr rfl⟩,Keep.refl _ _,Nat.le_refl _⟩
 ·rw[if_neg h0]
  refine⟨_,_,rfl,.inr ⟨0,es,?_,?_,he2⟩,Keep.push H (Nat.le_refl _) _,by simp⟩
  ·rw[List.length_nil,Nat.zero_add,he2.len]
  ·rw[List.nil_append,he2.flat];simp
theorem Zka {x:AV}{ls:List (List Zf)}{H:Hp}(h:LL H x ls)(hl:ls.length≤1048576):∃ y H',XP [x] H=some (y,H')∧Rst H.length H' y ls∧Keep H.length H H'∧H.length≤H'.length:=by
 have one:(ZA 1 [] []).map (AV.vs 1 .clip)=some (.vs 1 .clip []):=rfl
 obtain⟨y,H',p1,p2,p3,p4⟩:=Zk9 h hl
 rw[G2]
 unfold VP
 by_cases hx:x=.nils
 ·subst hx
  have e:Yn (.slice 32) .eql .nils .nils=some (.bool true):=rfl
  have hls:ls=[]:=by
   rcases h with ⟨h,_⟩|⟨t,es,h,_⟩|⟨o,e,es,h,_⟩
   ·exact h
   ·cases h
   ·cases h
  exact⟨.nils,H,by simp only[e,go_sem],.inl ⟨hls,.inl rfl⟩,Keep.refl _ _,Nat.le_refl _⟩
 ·have e:Yn (.slice 32) .eql x .nils=some (.bool false):=by
   rcases h with ⟨_,h|h⟩|⟨t,es,h,_⟩|⟨o,e,es,h,_⟩
   ·exact absurd h hx
   ·rw[h];rfl
   ·rw[h];rfl
   ·rw[h];rfl
  exact⟨y,H',by simp only[e,go_sem,Kv,one,p1],p2,p3,p4⟩
theorem Zob (ls:List (List Zf)):∀ l∈ls,l.length≤ZC ls:=by
 induction ls with
 |nil=>intro l h;cases h
 |cons z ls ih =>
  intro l h
  rcases List.mem_cons.1 h with h|h
  ·subst h;simp[ZC]
  ·have:=ih l h;simp[ZC];omega
theorem Cf (f:Zf→Zf→Int):∀ (n:Nat) (rest:List (List Zf)),∀ s∈Xp f n rest,s∈rest.flatten:=by
 intro n
 induction n with
 |zero=>intro rest s hs;cases hs
 |succ n ih =>
  intro rest s hs
  cases hg:Yr f rest 0 none with
  |none=>rw[Rc hg]at hs;cases hs
  |some p =>
   obtain⟨k,a⟩:=p
   have hb:=Zbx f rest [] none (fun k a e=>(by cases e)) (fun _ l hl=>(by cases hl))
   rw[List.nil_append,List.length_nil]at hb
   obtain⟨t,hkt⟩:=hb.1 k a hg
   rw[QV hg]at hs
   have hdrop:(rest.getD k []).drop 1=t:=by rw[List.getD_eq_getElem?_getD,hkt];rfl
   rw[hdrop]at hs
   rcases List.mem_cons.1 hs with e|hs
   ·exact List.mem_flatten.2 ⟨_,List.mem_of_getElem? hkt,by simp[e]⟩
   ·obtain⟨l,hl,hsl⟩:=List.mem_flatten.1 (ih _ s hs)
    rcases List.mem_or_eq_of_mem_set hl with h|h
    ·exact List.mem_flatten.2 ⟨l,h,hsl⟩
    ·subst h;exact List.mem_flatten.2 ⟨_,List.mem_of_getElem? hkt,by simp[hsl]⟩
theorem Znd {a:AV}{L:Loc}(h:LocAV a L)(hok:LocOk L){q:AV}{p:Spec}(hq:SpecAV q p)(hks:∀ k∈p.keys,KeOk k)(hv0:ZM p=0){x:AV}{ls:List (List Zf)}{B:Hp}(hx:LL B x ls)(hL:K6 ls)(ht:ZC ls≤1048576)(hl:ls.length≤1048576) :
 ∃ y,U1 [a,q,x] B=some (y,B)∧SS y (DG L p ls):=by
 have hck:=fun H=>Dn hq H
 obtain⟨lx,c,e,rfl,hlx,hc,he⟩:=h
 obtain⟨xp,rfl,hxp⟩:=hq
 have g1:(B++[AObj.cells (L.cells lx c e),AObj.cells (p.cells xp)])[B.length]?=some (.cells (L.cells lx c e)):=by simp
 have g2:(B++[AObj.cells (L.cells lx c e),AObj.cells (p.cells xp)])[B.length+1]?=some (.cells (p.cells xp)):=by simp
 have hl5:Z4 true 5 (.ptr (B.length+1) 0) (B++[AObj.cells (L.cells lx c e),AObj.cells (p.cells xp)])=some (.agg (p.cells xp)):=by rw[Vq g2];simp[Go.Am.apart,Spec.cells]
 generalize hH2:B++[AObj.cells (L.cells lx c e),AObj.cells (p.cells xp)]=H2 at g1 g2 hl5
 have hH2l:H2.length=B.length+2:=by rw[←hH2];simp
 have hkB2:Keep B.length B H2:=by rw[←hH2];exact Keep.push B (Nat.le_refl _) _
 have g3:(H2.set B.length .dead)[B.length+1]?=some (.cells (p.cells xp)):=by rw[List.getElem?_set_ne (by omega)];exact g2
 have hfz:∀ (k:AV→Hp→Z3),YU (.ptr B.length 0) H2 k=k (.vp (L.cells lx c e)) (H2.set B.length .dead):=fun k=>Rx g1 k
 have hfz2:∀ (k:AV→Hp→Z3),YU (.ptr (B.length+1) 0) (H2.set B.length .dead) k=k (.vp (p.cells xp)) ((H2.set B.length .dead).set (B.length+1) .dead):=fun k=>Rx g3 k
 generalize hH4:(H2.set B.length .dead).set (B.length+1) .dead=H4 at hfz2
 have hH4l:H4.length=B.length+2:=by rw[←hH4];simp[hH2l]
 have hkB4:Keep B.length B H4:=fun i hi=>by rw[←hH4,List.getElem?_set_ne (by omega),List.getElem?_set_ne (by omega)];exact hkB2 i hi
 have hK1:ClK 66 L p (.fn (.func 66) [] [.vp (L.cells lx c e),.vp (p.cells xp)]):=⟨_,_,rfl,⟨lx,c,e,rfl,hlx,hc,he⟩,⟨xp,rfl,hxp⟩⟩
 have hK2:ClK 71 L p (.fn (.func 71) [] [.vp (L.cells lx c e),.vp (p.cells xp)]):=⟨_,_,rfl,⟨lx,c,e,rfl,hlx,hc,he⟩,⟨xp,rfl,hxp⟩⟩
 obtain⟨y1,H5,c1,c2,c3,c4⟩:=Zka (hx.keep hkB4) hl
 rw[hH4l]at c2 c3 c4
 have hkB5:Keep B.length B H5:=fun i hi=>(c3 i (by omega)).trans (hkB4 i hi)
 have hlr:=ZeY (Zdf L hok p hks) hK1 c2.ll hL hl (fun l hl=>by have:=Zob ls l hl;omega)
 obtain⟨y2,H6,m1,m2,m3,m4⟩:=ZiH (Zdf L hok p hks) hK1 (x3:=.vp (L.cells lx c e)) (x4:=.vp (p.cells xp)) B (o:=B.length+2) (by omega) (ZC ls) ls [] y1 .nils H5 rfl c2 (RowN.nil _ _ _) hkB5 (by omega) hL hl (by simpa using ht)
 rw[List.nil_append]at m2
 have hu1:Z8 3 (.vp (p.cells xp))=some (.vp [.bool p.uniq,.bool p.stab]):=rfl
 have hckb:(ZM p != 0)=false:=by simp[hv0]
 have hML:G5 (Xp (ZP L p) (ZC ls) ls):=fun s hs=>by
  obtain⟨l,h1,h2⟩:=List.mem_flatten.1 (Cf _ _ _ s hs)
  exact hL l h1 s h2
 have hMl:=Zdg (ZP L p) (ZC ls) ls
 have fin:∀ {y:AV} {l:List Zf},SS y l→∃ y',Qn y B H6=some (y',B)∧SS y' l:=fun {y l} hy=>by
  obtain⟨y',r1,r2⟩:=ZeZ m3 m4 hy (fun c hc=>by obtain⟨m,_,rfl⟩:=List.mem_map.1 hc;rfl)
  exact⟨y',by rw[HT,r1],r2⟩
 have hJ2:∃ y,Qm (.vp (L.cells lx c e)) (.vp (p.cells xp)) y2 B H6=some (y,B)∧SS y (DG L p ls):=by
  unfold DG
  rw[HS]
  simp only[go_sem,hu1,ZD]
  cases hu:p.uniq with
  |true =>
   obtain⟨z,o1,o2⟩:=Zf8 (ZkW L hok p hks) hK2 m2 hML (by omega) H6
   obtain⟨y,r1,r2⟩:=fin o2
   exact⟨y,by simp only[go_sem,o1,r1],by simpa using r2⟩
  |false =>
   obtain⟨y,r1,r2⟩:=fin m2
   exact⟨y,by simp only[go_sem,r1],by simpa using r2⟩
 obtain⟨y,j1,j2⟩:=hJ2
 refine⟨y,?_,j2⟩
 rw[Rj]
 unfold D1
 simp only[go_sem,X1,List.length_append,List.length_singleton,List.append_assoc,List.singleton_append,hH2,hl5,hck,hckb,HR,hfz,hfz2,c1,hlr,m1,j1]
section
variable {x:AV}{ls:List (List Zf)}(hx:LsV x ls)(ht:ZC ls≤1048576)(hl:ls.length≤1048576)
include hx ht hl
theorem Zif (H0 H:Hp):∀ (r done:List (List Zf)),ls=done++r→YC x (.int .i64 (ZC done:Int)) x (.int .i64 (ls.length:Int)) (.int .i64 (done.length:Int)) H0 H=Xr x (.int .i64 (ZC ls:Int)) H0 H:=by
 intro r
 induction r with
 |nil =>
  intro done hd
  rw[List.append_nil]at hd
  subst hd
  have hlt:decide ((ls.length:Int)<(ls.length:Int))=false:=by simp
  rw[WC]
  simp only[go_sem,hlt]
 |cons l r ih =>
  intro done hd
  have hlen:ls.length=done.length+(r.length+1):=by rw[hd];simp
  have hlt:decide ((done.length:Int)<(ls.length:Int))=true:=by rw[decide_eq_true_eq];omega
  have hw1:IntKind.i64.wrap ((done.length:Int)+1)=((done.length+1:Nat):Int):=by rw[Zr (by omega) (by omega)];omega
  have hiy:ls[done.length]?=some l:=by rw[hd,List.getElem?_append_right (Nat.le_refl _)];simp
  obtain⟨a,g1,g3⟩:=hx.get' hiy
  have hb:ZC done+l.length≤1048576:=by rw[hd,BT]at ht;simp[ZC]at ht;omega
  have hw2:IntKind.i64.wrap ((ZC done:Int)+(l.length:Int))=((ZC done+l.length:Nat):Int):=by rw[Zr (by omega) (by omega)];omega
  have hlt2:decide (((ZC done+l.length:Nat):Int)<0)=false:=by rw[decide_eq_false_iff_not];omega
  have m:=ih (done++[l]) (by rw[hd];simp)
  have et:ZC (done++[l])=ZC done+l.length:=by rw[BT];simp[ZC]
  rw[List.length_append,List.length_singleton,et]at m
  rw[WC]
  simp only[go_sem,hlt,JS,g1,ZD,g3.len 9,hw2,hlt2,JT,hw1]
  exact m
theorem Zie (H0:Hp):∀ (r done:List (List Zf)) (y:AV) (H:Hp),ls=done++r→RS H y done.flatten →
 ∃ y' H',YB y x (.int .i64 (ls.length:Int)) (.int .i64 (done.length:Int)) H0 H=some (y',H')∧SS y' ls.flatten:=by
 intro r
 induction r with
 |nil =>
  intro done y H hd hy
  rw[List.append_nil]at hd
  subst hd
  have hlt:decide ((ls.length:Int)<(ls.length:Int))=false:=by simp
  refine⟨y,H,?_,hy.sl⟩
  rw[WB]
  simp only[go_sem,hlt,JP]
 |cons l r ih =>
  intro done y H hd hy
  have hlen:ls.length=done.length+(r.length+1):=by rw[hd];simp
  have hlt:decide ((done.length:Int)<(ls.length:Int))=true:=by simp;omega
  have hw1:IntKind.i64.wrap ((done.length:Int)+1)=((done.length+1:Nat):Int):=by rw[Zr (by omega) (by omega)];omega
  have hiy:ls[done.length]?=some l:=by rw[hd,List.getElem?_append_right (Nat.le_refl _)];simp
  obtain⟨a,g1,g3⟩:=hx.get' hiy
  have hb:ZC done+l.length≤1048576:=by rw[hd,BT]at ht;simp[ZC]at ht;omega
  rw[←QI]at hb
  obtain⟨y1,H1,q1,q2⟩:=hy.app g3 (by omega)
  obtain⟨y',H',m1,m2⟩:=ih (done++[l]) y1 H1 (by rw[hd];simp) (by simpa using q2)
  rw[List.length_append,List.length_singleton]at m1
  refine⟨y',H',?_,m2⟩
  rw[WB]
  simp only[go_sem,hlt,JQ,g1,ZD,q1,JR,hw1,m1]
theorem Zke (H:Hp):∃ y H',XA [x] H=some (y,H')∧SS y ls.flatten:=by
 have hn:=hx.len 32
 have hs:=Zif hx ht hl H H ls [] rfl
 obtain⟨y0,H1,g1,g2⟩:∃ y0 H1,growE.run [.nils,.int .i64 (ZC ls:Int)] H=some (y0,H1)∧RS H1 y0 []:=by
  by_cases h0:ZC ls=0
  ·exact⟨.nils,H,by rw[h0];rfl,.inl ⟨rfl,rfl⟩⟩
  ·refine⟨.vs 1 (.own H.length 0) [],H++[.tok 0],?_,.inr ⟨H.length,0,rfl,by simp,Nat.zero_le _⟩⟩
   show (if (ZC ls:Int)=0 then some (AV.nils,H) else if 0<(ZC ls:Int)∧(ZC ls:Int)≤1099511627776 then some (.vs 1 (.own H.length 0) [],H++[.tok 0]) else none)=_
   rw[if_neg (by omega),if_pos (by omega)]
 obtain⟨y,H',m1,m2⟩:=Zie hx ht hl H ls [] y0 H1 rfl g2
 rw[List.length_nil,show ((0:Nat):Int)=0 from rfl]at m1
 rw[List.length_nil,show ((0:Nat):Int)=0 from rfl,show ZC ([]:List (List Zf))=0 from rfl,show ((0:Nat):Int)=0 from rfl]at hs
 refine⟨y,H',?_,m2⟩
 rw[K3]
 unfold Vp
 simp only[hn,go_sem]
 rw[hs,JO]
 simp only[g1,go_sem,hn,m1]
end
theorem ZiK {a q:AV}{L:Loc}{p:Spec}(ha:LocAV a L)(hok:LocOk L)(hq:SpecAV q p)(hks:∀ k∈p.keys,KeOk k){x:AV}{ls:List (List Zf)}(hx:LsV x ls)(hL:K6 ls)(ht:ZC ls≤1048576)(hl:ls.length≤1048576)(H:Hp) :
 ∃ y,Ze U1 [a,q,x] H=some (y,H)∧SS y (ZN L p ls):=by
 obtain⟨a1,h1,h2⟩:=ha.close [] 0 2
 obtain⟨q1,g1,g2⟩:=hq.close [] 0 2
 obtain⟨x1,k1,k2⟩:=hx.close [] 0 3
 suffices hs:∃ y,U1 [a1,q1,x1] []=some (y,[])∧SS y (ZN L p ls) by
  obtain⟨y,r1,r2⟩:=hs
  obtain⟨y',r3,r4⟩:=SS.closed r2 [] 0 4
  exact⟨y',Bb (args':=[a1,q1,x1]) (by simp[h1,g1,k1]) r1 r3,r4⟩
 unfold ZN
 cases hcp:ZM p != 0 with
 |false =>
  obtain⟨y,r1,r2⟩:=Znd h2 hok g2 hks (by simpa using hcp) (k2.ll []) hL ht hl
  exact⟨y,r1,by rw[if_neg (by decide)];exact r2⟩
 |true =>
  have hck:=fun H=>Dn g2 H
  obtain⟨lx,c,e,rfl,hlx,hc,he⟩:=h2
  obtain⟨xp,rfl,hxp⟩:=g2
  have l2:Z4 true 5 (.ptr 1 0) [AObj.cells (L.cells lx c e),.cells (p.cells xp)]=some (.agg (p.cells xp)):=Uc (i:=1) rfl
  have hck2:=hck [AObj.cells (L.cells lx c e),.cells (p.cells xp)]
  obtain⟨z,H1,r1,r2⟩:=Zke k2 ht hl [AObj.cells (L.cells lx c e),.cells (p.cells xp)]
  obtain⟨y,s1,s2⟩:=ZeZ (H0:=[]) (H:=H1) (fun i hi=>by simp at hi) (Nat.zero_le _) r2 (fun c hc=>by obtain⟨m,_,rfl⟩:=List.mem_map.1 hc;rfl)
  refine⟨y,?_,by rw[if_pos rfl];exact s2⟩
  rw[Rj]
  unfold D1
  simp only[X1,go_sem,List.nil_append,List.length_nil,List.length_singleton,List.singleton_append,List.cons_append,Nat.zero_add,l2,hck2,hcp,r1,s1]
theorem Zoe {nm:List Zo}:∀ fs:List Fil,(∀ f∈fs,f.name∈nm)→XO nm fs=Zv fs:=by
 intro fs
 induction fs with
 |nil=>intro _;rfl
 |cons f fs ih =>
  intro h
  rw[XO,Zv,if_pos (h f (by simp)),ih fun g hg=>h g (by simp[hg])]
theorem ZhM {ls:List (List Zf)}(h9:ls.length≤9)(pk:Nat):VC (Xy ls.length) (Ve ls pk)=ZB ls.flatten:=by
 have htk:=W9 h9
 unfold VC
 rw[Zoe _ fun f hf=>by
  have:=List.mem_map_of_mem (f:=Fil.name) hf
  rw[show (Ve ls pk).files=Yc (nms.take ls.length) ls from rfl,P2 _ _ htk]at this
  exact this]
 exact ME _ _ htk
theorem Zfg {ls:List (List Zf)}(h9:ls.length≤9)(hfit:∀ l∈ls,YI l=true)(hcost:ZB ls.flatten≤262144)(pk:Nat){i:Nat}{n:Zo}{l:List Zf}(hn:nms[i]?=some n)(hl:ls[i]?=some l) :
 YI l=true∧(ZG l).length≤262144∧((ZV (Xy ls.length) n=0∧∃ f,ZS (Ve ls pk).files n=some f∧f.text=ZG l)∨(ZV (Xy ls.length) n=5∧l=[])):=by
 have hil:=(List.getElem?_eq_some_iff.1 hl).1
 have hn':(nms.take ls.length)[i]?=some n:=by rw[List.getElem?_take_of_lt hil];exact hn
 have hle:ZB l≤ZB ls.flatten:=by
  have:∀ ls:List (List Zf),l∈ls→ZB l≤ZB ls.flatten:=by
   intro ls
   induction ls with
   |nil=>intro h;cases h
   |cons m ls ih =>
    intro h
    rw[List.flatten_cons,U7]
    rcases List.mem_cons.1 h with h|h
    ·subst h;omega
    ·have:=ih h;omega
  exact this ls (List.mem_of_getElem? hl)
 refine⟨hfit l (List.mem_of_getElem? hl),by rw[Xf];omega,.inl ⟨?_,⟨n,ZG l,(ZG l).length⟩,Zbl _ _ (W9 h9) (nms_nd.sublist (List.take_sublist _ _)) i n l hn' hl,rfl⟩⟩
 unfold ZV
 rw[if_neg (by simp[Xy]),if_pos (show n∈(Xy ls.length).names from List.mem_of_getElem? hn')]
def badP:Spec:=⟨[],-2,0,false,false⟩
theorem ZjY:(ZM badP != 0)=true:=by kernel_rfl
theorem Zdh (L:Loc)(ls:List (List Zf)):ZN L badP ls=ls.flatten:=by unfold ZN;rw[ZjY,if_pos rfl]
theorem ZkY {L:Loc}{p:Spec}{ls:List (List Zf)}:∀ s∈ZN L p ls,s∈ls.flatten:=by
 intro s hs
 unfold ZN DG at hs
 split at hs
 ·exact hs
 ·split at hs
  ·rcases Zf7 _ _ s hs with h|h
   ·cases h
   ·exact Cf _ _ _ s h
  ·exact Cf _ _ _ s hs
section
variable {x2 x3 x7 x8 x9 x11 x12:AV}{w:List Zf}{x13:AV}(hw:SS x13 w)(hwl:w.length≤1048576)(hwL:G5 w)
include hw hwl hwL
theorem Zog (H0 H:Hp):∀ (r d:List Zf) (u:Nat),w=d++r→u+ZB r≤4294967296 →
 Uz x2 x3 x7 x8 x9 (.int .i64 (u:Int)) x11 x12 x13 (.int .i64 (d.length:Int)) H0 H=G4 x2 x3 x7 x8 x9 (.int .i64 ((u+ZB r:Nat):Int)) x11 x12 x13 H0 H:=by
 have hn:=hw.len 9
 intro r
 induction r with
 |nil =>
  intro d u hd hu
  rw[List.append_nil]at hd
  subst hd
  have hlt:decide ((w.length:Int)<(w.length:Int))=false:=by simp
  rw[D6]
  simp only[go_sem,hn,hlt]
  rfl
 |cons s r ih =>
  intro d u hd hu
  have hlen:w.length=d.length+(r.length+1):=by rw[hd];simp
  have hlt:decide ((d.length:Int)<(w.length:Int))=true:=by rw[decide_eq_true_eq];omega
  have hw1:IntKind.i64.wrap ((d.length:Int)+1)=((d.length+1:Nat):Int):=by rw[Zr (by omega) (by omega)];omega
  have his:w[d.length]?=some s:=by rw[hd,List.getElem?_append_right (Nat.le_refl _)];simp
  have hidx:=hw.idx his
  have hc:ZB (s::r)=s.length+6+ZB r:=rfl
  have hw2:IntKind.i64.wrap ((u:Int)+(s.length:Int))=((u+s.length:Nat):Int):=by rw[Zr (by omega) (by omega)];omega
  have hw3:IntKind.i64.wrap (((u+s.length:Nat):Int)+6)=((u+s.length+6:Nat):Int):=by rw[Zr (by omega) (by omega)];omega
  have m:=ih (d++[s]) (u+s.length+6) (by rw[hd];simp) (by rw[hc]at hu;omega)
  rw[List.length_append,List.length_singleton]at m
  rw[D6]
  simp only[go_sem,hn,hlt,Sm,hidx,ZD,hw2,hw3,Sn,hw1]
  rw[m,hc,show u+s.length+6+ZB r=u+(s.length+6+ZB r) by omega]
end
section
variable {a q:AV}{L:Loc}{p:Spec}(ha:LocAV a L)(hok:LocOk L)(hsm:LocSm L)(hq:SpecAV q p)(hks:∀ k∈p.keys,KeOk k)(hkl:p.keys.length≤1048576)
 {x:AV} {ls:List (List Zf)} (hx:LsV x ls) (hL:K6 ls) (ht:ZC ls≤1048576) (hl:ls.length≤1048576)
include ha hok hsm hq hks hkl hx hL ht hl
theorem ZlJ:∃ H',Pr [a,q,x] []=some (.bool true,H'):=by
 have hfew:=ZmG hx hL hl ht
 have ha2:=ha
 have hq2:=hq
 obtain⟨lx,c,e,rfl,hlx,hlc,hle⟩:=ha2
 obtain⟨xp,rfl,hxp⟩:=hq2
 rw[Hv]
 unfold PA
 simp only[X1,go_sem,List.nil_append,List.length_nil,List.length_singleton,List.singleton_append,List.cons_append]
 obtain⟨b,f1',f2⟩:=hfew [AObj.cells (L.cells lx c e),.cells (p.cells xp)]
 cases b with
 |false =>
  have haw:=ZcB [AObj.cells (L.cells lx c e),.cells (p.cells xp)]
  exact⟨[AObj.cells (L.cells lx c e),.cells (p.cells xp)],by simp only[f1',go_sem,Bool.not_false,haw]⟩
 |true =>
  obtain⟨h8,hf⟩:=f2 rfl
  have l1:Z4 true 6 (.ptr 0 0) [AObj.cells (L.cells lx c e),.cells (p.cells xp)]=some (.agg (L.cells lx c e)):=JK (i:=0) rfl
  have l2:Z4 true 5 (.ptr 1 0) [AObj.cells (L.cells lx c e),.cells (p.cells xp)]=some (.agg (p.cells xp)):=Uc (i:=1) rfl
  obtain⟨H1,o,t,A1,pk,xn,m1,m2,m3,m4,m5,m6⟩:=ZeN ha hok hq hks hx hf h8 false rfl rfl [AObj.cells (L.cells lx c e),.cells (p.cells xp)]
  rw[Zle,List.map_id]at m2
  have g0:H1[0]?=some (.cells (L.cells lx c e)):=m5.get rfl (by simp)
  have g1:H1[1]?=some (.cells (p.cells xp)):=m5.get rfl (by simp)
  have hA1:∀ a∈A1,2≤a:=m6
  have htl:=ZeK ls hf
  have hfc:=SW ls hf
  have hmul:ls.length*30≤8*30:=Nat.mul_le_mul_right _ h8
  have hmul2:ls.length*6180≤8*6180:=Nat.mul_le_mul_right _ h8
  have hu1:=ZiY m2 (S7 (by omega)) (NP (by omega) (by omega) m3)
  rw[ZhM (by omega),if_neg (by simp[Xy])]at hu1
  obtain⟨H2,A2,pk2,n1,n2,n3,n4,n5,n6⟩:=Zl1 ha hok hsm hq hks hkl hf h8 m3 m4.1.ss m2
  have hA2:∀ a∈A2,2≤a:=fun b hb=>by
   rcases n5 b hb with k|k
   ·exact hA1 b k
   ·have:=Zg g1;omega
  have hn0:∀ {i:Nat},i<2→i∉A1:=fun hi h=>by have:=hA1 _ h;omega
  have k0:=n4.get g0 (hn0 (by omega))
  have k1:=n4.get g1 (hn0 (by omega))
  obtain⟨y,y1,y2⟩:=ZiK ha hok hq hks hx hL ht hl H2
  have hml:=ZkX L p ls
  have hMm:∀ s∈ZN L p ls,s.length≤200:=fun s hs=>by
   obtain⟨l,h1,h2⟩:=List.mem_flatten.1 (ZkY s hs)
   exact (hf l h1).2 s h2
  have hlenM:(ls++[ZN L p ls]).length=ls.length+1:=by simp
  have hflM:(ls++[ZN L p ls]).flatten=ls.flatten++ZN L p ls:=by simp
  have hu2:=ZiY n2 (S7 (by omega)) (NP (by rw[hlenM];omega) (by rw[hflM,U7];exact n6) n3)
  rw[←hlenM,ZhM (by rw[hlenM];omega),if_neg (by simp[Xy]),hflM,U7]at hu2
  have hcl:ZB (ZN L p ls)≤262144:=by omega
  have hloop:=Zog (x2:=x) (x3:=.ptr 0 0) (x7:=.ptr o 0) (x8:=xn) (x9:=.bool true) (x11:=.str (Zq ZO (ls.length+1))) (x12:=.int .i64 0) y2 (by omega) (fun s hs=>by have:=hMm s hs;omega) [] H2 (ZN L p ls) [] (ZB ls.flatten) rfl (by omega)
  rw[List.length_nil,show ((0:Nat):Int)=0 from rfl]at hloop
  have hne:(((ZB ls.flatten+ZB (ZN L p ls):Nat):Int) != ((ZB ls.flatten+ZB (ZN L p ls):Nat):Int))=false:=by simp
  have e0:((0:Int) != 0)=false:=rfl
  -- the UJ specification
  have hH2:=Zg k1
  have hpl0:(H2++[AObj.cells [.nils,(.int .i64 0),(.int .i64 0),(.bool false),(.bool false)]])[H2.length]?=some (.cells [.nils,(.int .i64 0),(.int .i64 0),(.bool false),(.bool false)]):=by simp
  have s1:=TO hpl0 1 (v:=.int .i64 (-2)) rfl rfl (by simp)
  have hset:[AV.nils,(.int .i64 0),(.int .i64 0),(.bool false),(.bool false)].set 1 (.int .i64 (-2))=badP.cells .nils:=rfl
  rw[hset]at s1
  have gp:=ZF (AObj.cells (badP.cells .nils)) hpl0
  have gl:((H2++[AObj.cells [.nils,(.int .i64 0),(.int .i64 0),(.bool false),(.bool false)]]).set H2.length (.cells (badP.cells .nils)))[0]?=some (.cells (L.cells lx c e)):=Yu _ (by omega) (Yw k0 _)
  have hA2lt:=n2.lt
  have hsys3:SysAt ((H2++[AObj.cells [.nils,(.int .i64 0),(.int .i64 0),(.bool false),(.bool false)]]).set H2.length (.cells (badP.cells .nils))) o t (Xy (ls.length+1)) (Ve (ls++[ZN L p ls]) pk2) A2:=n2.frame fun b hb=>by
   have:=hA2lt b hb
   rw[List.getElem?_set_ne (by omega),List.getElem?_append_left (by omega)]
  generalize hH3:(H2++[AObj.cells [.nils,(.int .i64 0),(.int .i64 0),(.bool false),(.bool false)]]).set H2.length (.cells (badP.cells .nils))=H3 at s1 gp gl hsys3
  have s1':Zi 1 (.ptr H2.length (0+1)) (.int .i64 (-2)) (H2++[AObj.cells [.nils,(.int .i64 0),(.int .i64 0),(.bool false),(.bool false)]])=some (.tuple [],H3):=s1
  have hz0:=fun k=>Rx gl k
  have gp':(H3.set 0 .dead)[H2.length]?=some (.cells (badP.cells .nils)):=Yu _ (by omega) gp
  have hz1:=fun k=>Rx gp' k
  have hsys4:SysAt ((H3.set 0 .dead).set H2.length .dead) o t (Xy (ls.length+1)) (Ve (ls++[ZN L p ls]) pk2) A2:=hsys3.frame fun b hb=>by
   have:=hA2lt b hb
   have:=hA2 b hb
   rw[List.getElem?_set_ne (by omega),List.getElem?_set_ne (by omega)]
  have hv1:YE true 6 (.vp (L.cells lx c e))=some (.agg (L.cells lx c e)):=by simp[YE,Z4,Go.Am.apart,Loc.cells]
  have hv2:YE true 5 (.vp (badP.cells .nils))=some (.agg (badP.cells .nils)):=by simp[YE,Z4,Go.Am.apart,Spec.cells]
  have hlen9:(ls++[ZN L p ls]).length≤9:=by rw[hlenM];omega
  have hfitM:∀ l∈ls++[ZN L p ls],YI l=true:=fun l hl=>by
   rcases List.mem_append.1 hl with h|h
   ·exact (hf l h).fits
   ·rw[List.mem_singleton.1 h]
    exact List.all_eq_true.2 fun s hs=>by have:=hMm s hs;simp;omega
  have hcostM:ZB (ls++[ZN L p ls]).flatten≤262144:=by rw[hflM,U7];exact n6
  have hone:(ZA 1 [(0,.str (Zq ZO (ls.length+1)))] [(.str [])]).map (AV.vs 1 .clip)=some (.vs 1 .clip [.str (Zq ZO (ls.length+1))]):=QX _
  have hsto:=NP (pk:=pk2) hlen9 hcostM n3
  have htmM:=S7 (k:=ls.length+1) (by omega)
  have hrs1:∀ (i:Nat) (n:Zo) (l:List Zf),[Zq ZO (ls.length+1)][i]?=some n→[ZN L p ls][i]?=some l→YI l=true∧(ZG l).length≤262144∧((ZV (Xy (ls.length+1)) n=0∧∃ f,ZS (Ve (ls++[ZN L p ls]) pk2).files n=some f∧f.text=ZG l)∨(ZV (Xy (ls.length+1)) n=5∧l=[])):=fun i n l h1 h2=>by
   cases i with
   |succ i=>simp at h1
   |zero =>
    simp at h1 h2
    subst h1 h2
    have:=Zfg hlen9 hfitM hcostM pk2 (i:=ls.length) (n:=Zq ZO (ls.length+1)) (l:=ZN L p ls) (Zhd (by omega)) (by rw[List.getElem?_append_right (Nat.le_refl _)];simp)
    rw[hlenM]at this
    exact this
  obtain⟨H5,xr,H6,g,r1,r2,H7,xo,r3,r4,r5,r6⟩:=Cg (m:=(ZN L p ls).length) (L:=L) (p:=badP) (ns:=[Zq ZO (ls.length+1)]) (ls:=[ZN L p ls]) htmM hsto rfl rfl ha hok hsm (Zg8 badP rfl) (Zdl rfl) (by decide) (Oc _) rfl (by simp) hrs1 (by simp[ZC]) (by omega) hsys4
  rw[Zdh]at r4
  have r4':SS xo (ZN L p ls):=by simpa using r4
  -- the other files
  have hz2:∀ k:AV→Hp→Z3,YU (.vp (L.cells lx c e)) H7 k=k (.vp (L.cells lx c e)) H7:=fun k=>by simp[YU,Bc]
  have hz3:∀ k:AV→Hp→Z3,YU (.vp (badP.cells .nils)) H7 k=k (.vp (badP.cells .nils)) H7:=fun k=>by simp[YU,Bc]
  have hrs2:∀ (i:Nat) (n:Zo) (l:List Zf),(nms.take ls.length)[i]?=some n→ls[i]?=some l→YI l=true∧(ZG l).length≤262144∧((ZV (Xy (ls.length+1)) n=0∧∃ f,ZS (Ve (ls++[ZN L p ls]) pk2).files n=some f∧f.text=ZG l)∨(ZV (Xy (ls.length+1)) n=5∧l=[])):=fun i n l h1 h2=>by
   have hil:=(List.getElem?_eq_some_iff.1 h2).1
   rw[List.getElem?_take_of_lt hil]at h1
   have:=Zfg hlen9 hfitM hcostM pk2 (i:=i) (n:=n) (l:=l) h1 (by rw[List.getElem?_append_left hil];exact h2)
   rw[hlenM]at this
   exact this
  obtain⟨H8,xr2,H9,g',t1,t2,H10,xo2,t3,t4,t5,t6⟩:=Cg (m:=ZC ls) (L:=L) (p:=badP) (ns:=nms.take ls.length) (ls:=ls) htmM hsto rfl rfl ha hok hsm (Zg8 badP rfl) (Zdl rfl) (by decide) m4.1.ss (W9 (by omega)) (by rw[W9 (by omega)];omega) hrs2 (Nat.le_refl _) (by omega) r5
  rw[Zdh]at t4
  obtain⟨z,j1,j2⟩:=ZaI hx ht hl H9
  obtain⟨z',i1,i2⟩:=ZaI hx ht hl H10
  have hzl:Zk (.slice 9) z=some (.int .i64 (ZC ls:Int)):=by rw[j2.len 9,QI]
  have hyl:Zk (.slice 9) y=some (.int .i64 ((ZN L p ls).length:Int)):=y2.len 9
  have hfl:ls.flatten.length≤1048576:=by rw[QI];exact ht
  have hsame1:=ZdA r4' y2 (by omega) (by omega) H10
  rw[decide_eq_true rfl]at hsame1
  have hsame2:=ZdA t4 i2 hfl hfl H10
  rw[decide_eq_true rfl]at hsame2
  have haw:=ZcB H10
  refine⟨H10,?_⟩
  have l3:=JK g0
  have l4:=Uc g1
  have l5:=JK k0
  have l6:=Uc k1
  simp only[f1',go_sem,Bool.not_true,Si,l1,l2,m1,List.getElem?_cons_zero,List.getElem?_cons_succ,hu1,l3,l4,n1,l5,l6,y1]
  rw[hloop,Sj]
  simp only[go_sem,Bool.not_true,e0,hu2,hne,Sk,s1',hone,hz0,hz1,hv1,hv2,r1,r2,hyl,r3,List.getElem?_cons_zero,List.getElem?_cons_succ,hz2,hz3,t1,t2,j1,hzl,t3,hsame1,i1,hsame2,haw]
end
end Go.Am
