/-
  The example of chapter 23 is answered as it should be.
-/
import Derived.Test.YtehanadfidoodaaGreatDoorNkSox
import Derived.Test.YtehanadfidoodaaGreatDoorNkGAx
import Derived.Test.YtehanadfidoodaaGreatDoorNkGMx
namespace Go.Am
set_option linter.unusedSectionVars false
set_option maxRecDepth 100000
theorem ZgM {L:Loc}{p:Spec}{ls:List (List Zo)}(hf:∀ l∈ls,Few l)(h8:ls.length≤8)(pk:Nat):∀ (i:Nat) (n:Zt) (l:List Zo),(nms.take ls.length)[i]?=some n→ls[i]?=some l →
 XN l=true∧(Y5 l).length≤262144∧((Yj (BD ls.length) n=0∧∃ f,Yb (DV ls pk).files n=some f∧f.text=Y5 l)∨(Yj (BD ls.length) n=5∧l=[])):=by
 intro i n l hn hl
 have hfl:=hf l (List.mem_of_getElem? hl)
 have hc:=hfl.cost
 refine⟨hfl.fits,by rw[Jr];omega,.inl ⟨?_,_,ZsV _ _ (Vm (by omega)) (nms_nd.sublist (List.take_sublist _ _)) i n l hn hl,rfl⟩⟩
 unfold Yj
 rw[if_neg (by simp[BD]),if_pos (show n∈(BD ls.length).names from List.mem_of_getElem? hn)]
def uP:Spec:=⟨[],-1,0,false,true⟩
def exM:List (List Zo):=[[[97],[99]],[[97],[98]]]
theorem Zwk:YU defL uP exM.flatten=[[97],[98],[99]]:=by kernel_rfl
theorem Zwl:Vg (HV 3) (7:Int).toNat=[[0,1,2],[3,4,5],[6]]:=by kernel_rfl
theorem Zx0:LocSm defL:=⟨by simp[defL],by simp[defL],by simp[defL]⟩
theorem ZiI (L:Loc)(p:Spec):XT true L p=YU L p:=(Eq.refl _).trans (Eq.refl _)
theorem Zk9:∃ H',KP [] []=some (.bool true,H'):=by
 obtain⟨a,d1,d2⟩:=AQ []
 have d3:=d2
 obtain⟨lx,lc,le,rfl,hlx,hlc,hle⟩:=d3
 have hkn:(AV.agg (defL.cells lx lc le)).known=true:=by simp[AV.known,Loc.cells,hlx.known,hlc.known,hle.known]
 have s1:Zi 6 (.ptr 0 0) (.agg (defL.cells lx lc le)) [AObj.cells [(.str []),.nils,(.str []),(.str []),.nils,.nils],.cells [.nils,(.int .i64 0),(.int .i64 0),(.bool false),(.bool false)]]=some (.tuple [],[AObj.cells (defL.cells lx lc le),.cells [.nils,(.int .i64 0),(.int .i64 0),(.bool false),(.bool false)]]) :=
  (Wu (v:=.agg (defL.cells lx lc le)) (o:=0) (l:=[(.str []),.nils,(.str []),(.str []),.nils,.nils]) rfl hkn rfl (by show 0+6≤6;omega)).trans rfl
 have s2:Zi 5 (.ptr 1 0) (.agg (uP.cells .nils)) [AObj.cells (defL.cells lx lc le),.cells [.nils,(.int .i64 0),(.int .i64 0),(.bool false),(.bool false)]]=some (.tuple [],[AObj.cells (defL.cells lx lc le),.cells (uP.cells .nils)]) :=
  (Wu (v:=.agg (uP.cells .nils)) (o:=1) (l:=[.nils,(.int .i64 0),(.int .i64 0),(.bool false),(.bool false)]) rfl rfl rfl (by show 0+5≤5;omega)).trans rfl
 have l1:Z3 true 6 (.ptr 0 0) [AObj.cells (defL.cells lx lc le),.cells (uP.cells .nils)]=some (.agg (defL.cells lx lc le)):=Jw (i:=0) rfl
 have l2:Z3 true 5 (.ptr 1 0) [AObj.cells (defL.cells lx lc le),.cells (uP.cells .nils)]=some (.agg (uP.cells .nils)):=VW (i:=1) rfl
 have f0:(Yn [(1,1,(.int .i64 (-1))),(3,1,(.bool true))] [.nils,(.int .i64 0),(.int .i64 0),(.bool false),(.bool false)]).map AV.agg=some (.agg (uP.cells .nils)):=rfl
 have e14:(Zz 1 [(0,(.str [97])),(1,(.str [99]))] [(.str []),(.str [])]).map (AV.vs 1 .clip)=some (AV.vs 1 .clip ([[97],[99]].map AV.str)):=rfl
 have e15:(Zz 1 [(0,(.str [97])),(1,(.str [98]))] [(.str []),(.str [])]).map (AV.vs 1 .clip)=some (AV.vs 1 .clip ([[97],[98]].map AV.str)):=rfl
 have e16:(Zz 1 [(0,AV.vs 1 .clip ([[97],[99]].map AV.str)),(1,AV.vs 1 .clip ([[97],[98]].map AV.str))] [.nils,.nils]).map (AV.vs 1 .clip)=some (AV.vs 1 .clip [AV.vs 1 .clip ([[97],[99]].map AV.str),AV.vs 1 .clip ([[97],[98]].map AV.str)]):=rfl
 have hx:LsV (AV.vs 1 .clip [AV.vs 1 .clip ([[97],[99]].map AV.str),AV.vs 1 .clip ([[97],[98]].map AV.str)]) exM:=.inr ⟨.clip,_,rfl,EE.cons (ZqI _ _) (EE.cons (ZqI _ _) EE.nil)⟩
 have hf:∀ l∈exM,Few l:=fun l hl=>by
  simp[exM]at hl
  rcases hl with rfl|rfl <;> exact⟨by decide,by decide⟩
 obtain⟨H1,o,t,A1,pk,xn,m1,m2,m3,m4,m5,m6⟩:=Zio d2 Zuk (Zus uP rfl) (ZqZ rfl) hx hf (by decide) true rfl rfl [AObj.cells (defL.cells lx lc le),.cells (uP.cells .nils)]
 have g0:H1[0]?=some (.cells (defL.cells lx lc le)):=m5.get rfl (by simp)
 have g1:H1[1]?=some (.cells (uP.cells .nils)):=m5.get rfl (by simp)
 have hz0:=fun k=>M2 g0 k
 have g1':(H1.set 0 .dead)[1]?=some (.cells (uP.cells .nils)):=Yd _ (by decide) g1
 have hz1:=fun k=>M2 g1' k
 have hA1:∀ a∈A1,2≤a:=m6
 have hsys:SysAt ((H1.set 0 .dead).set 1 .dead) o t (BD exM.length) (DV (exM.map (XT true defL uP)) pk) A1:=m2.frame fun b hb=>by
  have:=hA1 b hb
  rw[List.getElem?_set_ne (by omega),List.getElem?_set_ne (by omega)]
 have hlen:(exM.map (XT true defL uP)).length=exM.length:=List.length_map _
 have hfo:∀ l∈exM.map (XT true defL uP),Few l:=fun l hl=>by
  obtain⟨k,hk,rfl⟩:=List.mem_map.1 hl
  exact (hf k hk).out true defL uP
 have hrf:=ZgM (L:=defL) (p:=uP) hfo (by rw[hlen];decide) pk
 rw[hlen]at hrf
 have htot:ZT (exM.map (XT true defL uP))≤9:=by
  rw[ZiI]
  have h1:=Zb2 defL uP [[97],[99]]
  have h2:=Zb2 defL uP [[97],[98]]
  simp only[List.length_cons,List.length_nil]at h1 h2
  simp only[exM,List.map_cons,List.map_nil,ZT]
  omega
 have hcl:Y7 (exM.map (XT true defL uP)).flatten≤262144:=by
  have:=ZdQ _ hfo
  rw[hlen]at this
  have:exM.length=2:=rfl
  omega
 obtain⟨H2,xr,H3,g,r1,r2,H4,xo,r3,r4,r5,r6⟩:=Zgv (m:=9) (a:=.agg (defL.cells lx lc le)) (q:=.agg (uP.cells .nils)) (Zlu (k:=exM.length) (by decide)) (ZgX (by rw[hlen];decide) hcl m3) rfl rfl d2 Zuk Zx0 (Zus uP rfl) (ZqZ rfl) (by decide) m4.1.ss (by rw[hlen];exact Vm (by decide)) (by rw[Vm (by decide)];decide) hrf htot (by decide) hsys
 rw[ZiI,ZkO,Zwk]at r4
 obtain⟨y,p1,p2⟩:=Zr9 7 3 (by decide) H4
 rw[Zwl]at p2
 have hx3:=r4.len 9
 have x0:=SS.idx r4 (i:=0) (s:=[97]) rfl
 have x1:=SS.idx r4 (i:=1) (s:=[98]) rfl
 have x2:=SS.idx r4 (i:=2) (s:=[99]) rfl
 have y3:Zj (.slice 22) y=some (.int .i64 3):=p2.len 22
 obtain⟨b,y2,b0⟩:∃ a,Zl 1 y (.int .i64 2)=some (.vp [a])∧IS a [6]:=p2.get (i:=2) rfl
 have b1:Zj (.slice 3) b=some (.int .i64 1):=b0.len 3
 have b2:Zl 1 b (.int .i64 0)=some (.vp [iv 6]):=b0.idx (i:=0) (n:=6) rfl
 have hx3':Zj (.slice 9) xo=some (.int .i64 3):=hx3
 have x0':Zl 1 xo (.int .i64 0)=some (.vp [.str [97]]):=x0
 have x1':Zl 1 xo (.int .i64 1)=some (.vp [.str [98]]):=x1
 have x2':Zl 1 xo (.int .i64 2)=some (.vp [.str [99]]):=x2
 have hv1:Yi true 6 (.vp (defL.cells lx lc le))=some (.agg (defL.cells lx lc le)):=by simp[Yi,Z3,Go.Am.apart,Loc.cells]
 have hv2:Yi true 5 (.vp (uP.cells .nils))=some (.agg (uP.cells .nils)):=by simp[Yi,Z3,Go.Am.apart,Spec.cells]
 have t1:(([97]:Zt)==[97])=true:=by decide
 have t2:(([98]:Zt)==[98])=true:=by decide
 have t3:(([99]:Zt)==[99])=true:=by decide
 have t4:((3:Int)==3)=true:=rfl
 have t5:((1:Int)==1)=true:=rfl
 have t6:((6:Int)==6)=true:=rfl
 have r3':Rw [.ptr g 0,.int .i64 9] H3=some (.tuple [xo,.bool true],H4):=r3
 refine⟨H4,?_⟩
 rw[Zhb]
 unfold Zcf
 simp only[d1,f0,go_sem,List.length_nil,List.nil_append,List.length_singleton,List.singleton_append,List.cons_append,s1,s2,l1,l2,e14,e15,e16,m1,List.getElem?_cons_zero,List.getElem?_cons_succ,hz0,hz1,hv1,hv2,r1,r2,r3',p1,hx3',t4,x0',x1',x2',Zw,t1,t2,t3,y3,y2,b1,t5,b2,t6]
 rfl
theorem ZfO (H:Hp):Zc KP [] H=some (.bool true,H):=by
 obtain⟨H',h⟩:=Zk9
 exact Ju (args':=[]) (by simp) h (by simp[QU])
def YK (ls:List (List Zo))(ats:List Nat):List (List Zo):=List.zipWith (fun l k=>l.drop k) ls ats
theorem R3 {ls:List (List Zo)}{ats:List Nat}{i k:Nat}{l:List Zo}(h1:ls[i]?=some l)(h2:ats[i]?=some k):(YK ls ats)[i]?=some (l.drop k):=by
 simp[YK,List.getElem?_zipWith,h1,h2]
theorem RT {ls:List (List Zo)}{ats:List Nat}(h:ats.length=ls.length):(YK ls ats).length=ls.length:=by
 simp[YK,h]
theorem ZoO {ls:List (List Zo)}{ats:List Nat}(h:ats.length=ls.length){i k:Nat}{l:List Zo}(h1:ls[i]?=some l)(h2:ats[i]?=some k):(YK ls ats).drop i=l.drop k::(YK ls ats).drop (i+1):=by
 have hi:i<(YK ls ats).length:=by rw[RT h];exact (List.getElem?_eq_some_iff.1 h1).1
 rw[List.drop_eq_getElem_cons hi]
 have:=R3 h1 h2
 rw[List.getElem?_eq_getElem hi]at this
 injection this with this
 rw[this]
theorem ZgN (ls:List (List Zo)):YK ls (List.replicate ls.length 0)=ls:=by
 induction ls with
 |nil=>rfl
 |cons l ls ih=>rw[List.length_cons,List.replicate_succ];show l.drop 0::YK ls _=_;rw[ih];rfl
theorem ZiR {ls:List (List Zo)}{ats:List Nat}(h:ats.length=ls.length){k m:Nat}(hm:ats[k]?=some m):YK ls (ats.set k (m+1))=(YK ls ats).set k (((YK ls ats).getD k []).drop 1):=by
 have hk:=(List.getElem?_eq_some_iff.1 hm).1
 have hl:ls[k]?=some (ls[k]'(by omega)):=List.getElem?_eq_getElem (by omega)
 have hr:=R3 hl hm
 refine List.ext_getElem? fun j=>?_
 by_cases e:j=k
 ·subst e
  rw[List.getElem?_set_self (by rw[RT h];omega),List.getD_eq_getElem?_getD,hr]
  rw[R3 hl (List.getElem?_set_self hk)]
  simp[List.drop_drop,Nat.add_comm]
 ·rw[List.getElem?_set_ne (fun e'=>e e'.symm)]
  simp only[YK,List.getElem?_zipWith]
  rw[List.getElem?_set_ne (fun e'=>e e'.symm)]
def CN:Option (Nat×Zo)→Int
 |none=>-1
 |some (k,_)=>(k:Int)
theorem ZgZ {α:Type}:∀ (ls:List (List α)) (k:Nat) (a:α) (t:List α),ls[k]?=some (a::t)→ZT (ls.set k t)+1=ZT ls:=by
 intro ls
 induction ls with
 |nil=>intro k a t h;simp at h
 |cons x ls ih =>
  intro k a t h
  cases k with
  |zero=>simp at h;subst h;simp[ZT];omega
  |succ k=>simp at h;have:=ih k a t h;simp[ZT];omega
theorem ZjM {o n i:Nat}(h:i<n):Zl 1 (.rs false 1 o 0 n n) (.int .i64 (i:Int))=some (.ptr o i):=by
 unfold Zl
 dsimp only
 rw[if_pos (by omega)]
 simp
section
variable {L:Loc}{lx c e:AV}(hav:LocAV (.agg (L.cells lx c e)) L)(hok:LocOk L){p:Spec}{xp:AV}(hsp:SpecAV (.agg (p.cells xp)) p)(hks:∀ k∈p.keys,KeOk k)
 {x:AV} {ls:List (List Zo)} (hx:LsV x ls) (hL:Zbd ls) (ht:ZT ls≤1048576) (hl:ls.length≤1048576)
include hav hok hsp hks hx hL ht hl
theorem ZcS {i3 i4 o:Nat}{H:Hp}{ats:List Nat}(g3:H[i3]?=some (.cells (L.cells lx c e)))(g4:H[i4]?=some (.cells (p.cells xp)))(go:H[o]?=some (.cells (ats.map fun k:Nat=>AV.int .i64 (k:Int))))(hal:ats.length=ls.length)(x7:AV)(H0:Hp) :
 ∀ (m i:Nat) (b:Option (Nat×Zo)),ls.length-i=m→i≤ls.length→(∀ j d,b=some (j,d)→∃ t,(YK ls ats)[j]?=some (d::t)) →
 Dk x (.ptr i3 0) (.ptr i4 0) x7 (.rs false 1 o 0 ls.length ls.length) (.int .i64 (CN b)) (.int .i64 (i:Int)) H0 H =
  Jm x (.ptr i3 0) (.ptr i4 0) x7 (.rs false 1 o 0 ls.length ls.length) (.int .i64 (CN (YI (ZE L p) ((YK ls ats).drop i) i b))) H0 H:=by
 have hn:=hx.len 32
 have hl6:=Jw g3
 have hl5:=VW g4
 have hat:∀ {i k:Nat},ats[i]?=some k→Z3 false 1 (.ptr o i) H=some (.int .i64 (k:Int)):=fun {i k} h=>Ym go i (by simp[h])
 have hlens:∀ l∈ls,l.length≤1048576:=fun l hm=>by
  have:∀ (ls:List (List Zo)),l∈ls→l.length≤ZT ls:=by
   intro ls
   induction ls with
   |nil=>intro h;cases h
   |cons m ls ih =>
    intro h
    rcases List.mem_cons.1 h with h|h
    ·subst h;simp[ZT]
    ·have:=ih h;simp[ZT];omega
  have:=this ls hm
  omega
 intro m
 induction m with
 |zero =>
  intro i b hm hi hb
  have hlt:decide ((i:Int)<(ls.length:Int))=false:=by rw[decide_eq_false_iff_not];omega
  have e0:(YK ls ats).drop i=[]:=List.drop_eq_nil_iff.2 (by rw[RT hal];omega)
  rw[Dl,e0]
  simp only[hn,go_sem,hlt]
  rfl
 |succ m ih =>
  intro i b hm hi hb
  have hil:i<ls.length:=by omega
  have hlt:decide ((i:Int)<(ls.length:Int))=true:=by rw[decide_eq_true_eq];omega
  have hw1:IntKind.i64.wrap ((i:Int)+1)=((i+1:Nat):Int):=by rw[Zq (by omega) (by omega)];omega
  have h1:ls[i]?=some ls[i]:=List.getElem?_eq_getElem hil
  have h2:ats[i]?=some (ats[i]'(by omega)):=List.getElem?_eq_getElem (by omega)
  generalize hli:ls[i]=l at h1
  generalize hki:(ats[i]'(by omega))=k at h2
  obtain⟨a,q1,q2⟩:=hx.get' h1
  have hal2:=q2.len 9
  have hll:=hlens l (List.mem_of_getElem? h1)
  rw[Dl,ZoO hal h1 h2]
  simp only[hn,go_sem,hlt,Zfw,ZjM hil,hat h2,q1,Zw,hal2]
  have key:∀ b':Option (Nat×Zo),(∀ j d,b'=some (j,d)→∃ t,(YK ls ats)[j]?=some (d::t)) →
   Dg x (.ptr i3 0) (.ptr i4 0) x7 (.rs false 1 o 0 ls.length ls.length) (.int .i64 (CN b')) (.int .i64 (i:Int)) H0 H=Jm x (.ptr i3 0) (.ptr i4 0) x7 (.rs false 1 o 0 ls.length ls.length) (.int .i64 (CN (YI (ZE L p) ((YK ls ats).drop (i+1)) (i+1) b'))) H0 H:=fun b' hb'=>by
   rw[Zfx]
   simp only[go_sem,hw1]
   exact ih (i+1) b' (by omega) (by omega) hb'
  by_cases hk:k<l.length
  ·have e1:decide ((k:Int)<(l.length:Int))=true:=by rw[decide_eq_true_eq];omega
   have hc:l.drop k=l[k]::l.drop (k+1):=List.drop_eq_getElem_cons hk
   have hnew:∀ j d,some (i,l[k])=some (j,d)→∃ t,(YK ls ats)[j]?=some (d::t):=fun j d e'=>by
    injection e' with e'
    injection e' with e2 e3
    subst e2 e3
    exact⟨l.drop (k+1),by rw[R3 h1 h2,hc]⟩
   rw[hc]
   cases b with
   |none =>
    have e2:decide ((-1:Int)<0)=true:=rfl
    rw[ES]
    simp only[e1,CN,e2,go_sem]
    exact key (some (i,l[k])) hnew
   |some q =>
    obtain⟨j,d⟩:=q
    have e2:decide ((j:Int)<0)=false:=by rw[decide_eq_false_iff_not];omega
    obtain⟨t,hjt⟩:=hb j d rfl
    have hjl:j<ls.length:=by
     have:=(List.getElem?_eq_some_iff.1 hjt).1
     rwa [RT hal]at this
    have h3:ls[j]?=some ls[j]:=List.getElem?_eq_getElem hjl
    have h4:ats[j]?=some (ats[j]'(by omega)):=List.getElem?_eq_getElem (by omega)
    generalize hlj:ls[j]=l' at h3
    generalize hkj:(ats[j]'(by omega))=k' at h4
    obtain⟨a',u1,u2⟩:=hx.get' h3
    rw[R3 h3 h4]at hjt
    injection hjt with hjt
    have hd:l'[k']?=some d:=by
     have:(l'.drop k')[0]?=some d:=by rw[hjt];rfl
     rwa [List.getElem?_drop,Nat.add_zero]at this
    have i1:=SS.idx u2 hd
    have i2:=SS.idx q2 (List.getElem?_eq_getElem hk)
    have ho:=Zrr hav hok hsp hks d l[k] (hL l' (List.mem_of_getElem? h3) d (List.mem_of_getElem? hd)) (hL l (List.mem_of_getElem? h1) _ (List.getElem_mem hk)) H
    rw[Rr]
    simp only[e1,CN,e2,go_sem,hl6,hl5,u1,Zw,ZjM hjl,hat h4,i1,q1,ZjM hil,hat h2,i2,ho]
    by_cases hg:0<ZE L p d l[k]
    ·have e3:decide (0<ZE L p d l[k])=true:=decide_eq_true hg
     simp only[e3,go_sem,if_pos hg]
     exact key (some (i,l[k])) hnew
    ·have e3:decide (0<ZE L p d l[k])=false:=decide_eq_false hg
     simp only[e3,go_sem,if_neg hg]
     exact key (some (j,d)) hb
  ·have e1:decide ((k:Int)<(l.length:Int))=false:=by rw[decide_eq_false_iff_not];omega
   have hc:l.drop k=[]:=List.drop_eq_nil_iff.2 (by omega)
   rw[hc,Hd]
   simp only[e1,go_sem]
   exact key b hb
theorem Zmx {i3 i4 o:Nat}(h34:i3≠o∧i4≠o):∀ (n:Nat) (ats:List Nat) (acc:List Zo) (x7:AV) (H:Hp),ZT (YK ls ats)=n→ats.length=ls.length→acc.length+n≤1048576→U9 acc→RS H x7 acc →
 H[i3]?=some (.cells (L.cells lx c e))→H[i4]?=some (.cells (p.cells xp))→H[o]?=some (.cells (ats.map fun k:Nat=>AV.int .i64 (k:Int))) →
 ∃ y,Dj x (.ptr i3 0) (.ptr i4 0) x7 (.rs false 1 o 0 ls.length ls.length) [] H=some (y,[])∧SS y (if p.uniq then X0 (Ya L p) [] (acc++XC (ZE L p) n (YK ls ats)) else acc++XC (ZE L p) n (YK ls ats)):=by
 have hend:∀ (acc:List Zo) (x7:AV) (H:Hp),acc.length≤1048576→U9 acc→RS H x7 acc→H[i3]?=some (.cells (L.cells lx c e))→H[i4]?=some (.cells (p.cells xp)) →
  ∃ y,Jm x (.ptr i3 0) (.ptr i4 0) x7 (.rs false 1 o 0 ls.length ls.length) (.int .i64 (-1)) [] H=some (y,[])∧SS y (if p.uniq then X0 (Ya L p) [] acc else acc):=by
  intro acc x7 H ha hLa h7 g3 g4
  obtain⟨z,r1,r2⟩:=ZgS hav hok hsp hks h7.sl hLa ha H
  have e2:decide ((-1:Int)<0)=true:=rfl
  obtain⟨y,s1,s2⟩:=ZaK (H0:=[]) (H:=H) (fun i hi=>by simp at hi) (Nat.zero_le _) r2 (fun c hc=>by obtain⟨m,_,rfl⟩:=List.mem_map.1 hc;rfl)
  refine⟨y,?_,s2⟩
  rw[Df]
  simp only[go_sem,e2,Jw g3,VW g4,r1,s1]
 intro n
 induction n with
 |zero =>
  intro ats acc x7 H hn hal hc hLa h7 g3 g4 go
  have hlp:=ZcS hav hok hsp hks hx hL ht hl g3 g4 go hal x7 [] ls.length 0 none (by omega) (Nat.zero_le _) (fun j d e'=>by cases e')
  have hnone:YI (ZE L p) (YK ls ats) 0 none=none:=by
   cases hg:YI (ZE L p) (YK ls ats) 0 none with
   |none=>rfl
   |some q =>
    obtain⟨k,a⟩:=q
    obtain⟨t,hkt⟩:=(ZkK (ZE L p) (YK ls ats) [] none (fun k a e=>(by cases e)) (fun _ l hl=>(by cases hl))).1 k a hg
    rw[List.nil_append]at hkt
    have:=ZgZ _ k a t hkt
    omega
  rw[List.drop_zero,hnone]at hlp
  obtain⟨y,r1,r2⟩:=hend acc x7 H (by omega) hLa h7 g3 g4
  refine⟨y,?_,by rw[show XC (ZE L p) 0 (YK ls ats)=[] from rfl,List.append_nil];exact r2⟩
  rw[QS]
  exact hlp.trans r1
 |succ n ih =>
  intro ats acc x7 H hn hal hc hLa h7 g3 g4 go
  have hlp:=ZcS hav hok hsp hks hx hL ht hl g3 g4 go hal x7 [] ls.length 0 none (by omega) (Nat.zero_le _) (fun j d e'=>by cases e')
  rw[List.drop_zero]at hlp
  cases hg:YI (ZE L p) (YK ls ats) 0 none with
  |none =>
   rw[hg]at hlp
   obtain⟨y,r1,r2⟩:=hend acc x7 H (by omega) hLa h7 g3 g4
   refine⟨y,?_,by rw[Rs hg,List.append_nil];exact r2⟩
   rw[QS]
   exact hlp.trans r1
  |some q =>
   obtain⟨k,a⟩:=q
   rw[hg]at hlp
   obtain⟨t,hkt⟩:=(ZkK (ZE L p) (YK ls ats) [] none (fun k a e=>(by cases e)) (fun _ l hl=>(by cases hl))).1 k a hg
   rw[List.nil_append]at hkt
   have hkl:k<ls.length:=by
    have:=(List.getElem?_eq_some_iff.1 hkt).1
    rwa [RT hal]at this
   have h1:ls[k]?=some ls[k]:=List.getElem?_eq_getElem hkl
   have h2:ats[k]?=some (ats[k]'(by omega)):=List.getElem?_eq_getElem (by omega)
   generalize hlk:ls[k]=l at h1
   generalize hmk:(ats[k]'(by omega))=m at h2
   have hkt2:=hkt
   rw[R3 h1 h2]at hkt2
   injection hkt2 with hkt2
   have hd:l[m]?=some a:=by
    have:(l.drop m)[0]?=some a:=by rw[hkt2];rfl
    rwa [List.getElem?_drop,Nat.add_zero]at this
   have hml:=(List.getElem?_eq_some_iff.1 hd).1
   have hll:l.length≤1048576:=by
    have:∀ (ls:List (List Zo)),l∈ls→l.length≤ZT ls:=by
     intro ls
     induction ls with
     |nil=>intro h;cases h
     |cons m ls ih =>
      intro h
      rcases List.mem_cons.1 h with h|h
      ·subst h;simp[ZT]
      ·have:=ih h;simp[ZT];omega
    have:=this ls (List.mem_of_getElem? h1)
    omega
   obtain⟨b,u1,u2⟩:=hx.get' h1
   have i1:=SS.idx u2 hd
   have hat:Z3 false 1 (.ptr o k) H=some (.int .i64 (m:Int)):=Ym go k (by simp[h2])
   obtain⟨x',H1,w1,w2,w3,w4,w5⟩:=RowN.app h7 (Nat.zero_le _) 16 (.vs 1 .clip [.str a]) [.str a] rfl (by simp;omega)
   have g3':=w5 _ _ g3
   have g4':=w5 _ _ g4
   have go':=w5 _ _ go
   have hat':Z3 false 1 (.ptr o k) H1=some (.int .i64 (m:Int)):=Ym go' k (by simp[h2])
   have hw1:IntKind.i64.wrap ((m:Int)+1)=((m+1:Nat):Int):=by rw[Zq (by omega) (by omega)];omega
   have hst:=Pb go' k (v:=.int .i64 ((m+1:Nat):Int)) rfl rfl (by simp;omega)
   have hset:(ats.map fun k:Nat=>AV.int .i64 (k:Int)).set k (.int .i64 ((m+1:Nat):Int))=(ats.set k (m+1)).map fun k:Nat=>AV.int .i64 (k:Int):=by rw[List.map_set]
   rw[hset]at hst
   have go2:(H1.set o (.cells ((ats.set k (m+1)).map fun k:Nat=>AV.int .i64 (k:Int))))[o]?=some (.cells ((ats.set k (m+1)).map fun k:Nat=>AV.int .i64 (k:Int))):=ZB _ go'
   have g32:=Yd (AObj.cells ((ats.set k (m+1)).map fun k:Nat=>AV.int .i64 (k:Int))) (Ne.symm h34.1) g3'
   have g42:=Yd (AObj.cells ((ats.set k (m+1)).map fun k:Nat=>AV.int .i64 (k:Int))) (Ne.symm h34.2) g4'
   have h7':RS (H1.set o (.cells ((ats.set k (m+1)).map fun k:Nat=>AV.int .i64 (k:Int)))) x' (acc++[a]):=by
    rcases w2 with ⟨e1,e2⟩|⟨u,v,e1,e2,e3⟩
    ·simp at e2
    ·refine .inr ⟨u,v,by rw[e1];simp,?_,e3⟩
     rw[List.getElem?_set_ne (fun e'=>by subst e';rw[go']at e2;cases e2)]
     exact e2
   have htot:ZT (YK ls (ats.set k (m+1)))=n:=by
    rw[ZiR hal h2,List.getD_eq_getElem?_getD,hkt]
    have:=ZgZ _ k a t hkt
    show ZT ((YK ls ats).set k t)=n
    omega
   obtain⟨y,r1,r2⟩:=ih (ats.set k (m+1)) (acc++[a]) x' _ htot (by rw[List.length_set];exact hal) (by simp;omega) (fun s hs=>by
    rcases List.mem_append.1 hs with h|h
    ·exact hLa s h
    ·rw[List.mem_singleton.1 h];exact hL l (List.mem_of_getElem? h1) a (List.mem_of_getElem? hd)) h7' g32 g42 go2
   refine⟨y,?_,?_⟩
   ·rw[QS]
    refine hlp.trans ?_
    have e2:decide ((k:Int)<0)=false:=by rw[decide_eq_false_iff_not];omega
    rw[Df]
    simp only[CN,go_sem,e2,Zfv,u1,Zw,ZjM hkl,hat,i1,UL,w1,hat',hw1,hst]
    exact r1
   ·rw[Gd hg,←ZiR hal h2]
    simpa using r2
end
section
variable {a q:AV}{L:Loc}{p:Spec}(ha:LocAV a L)(hok:LocOk L)(hq:SpecAV q p)(hks:∀ k∈p.keys,KeOk k)
 {x:AV} {ls:List (List Zo)} (hx:LsV x ls) (hL:Zbd ls) (ht:ZT ls≤1048576) (hl:ls.length≤1048576)
include hx ht hl
theorem Zl1 (H0:Hp)(h0:H0=[]):∀ (r done:List (List Zo)) (y:AV) (H:Hp),ls=done++r→RS H y done.flatten →
 ∃ y',Dm x y (.int .i64 (done.length:Int)) H0 H=some (y',[])∧SS y' ls.flatten:=by
 subst h0
 intro r
 induction r with
 |nil =>
  intro done y H hd hy
  rw[List.append_nil]at hd
  subst hd
  have hlt:decide ((ls.length:Int)<(ls.length:Int))=false:=by simp
  obtain⟨y',s1,s2⟩:=ZaK (H0:=[]) (H:=H) (fun i hi=>by simp at hi) (Nat.zero_le _) hy.sl (fun c hc=>by obtain⟨m,_,rfl⟩:=List.mem_map.1 hc;rfl)
  refine⟨y',?_,s2⟩
  rw[Lx]
  simp only[go_sem,hx.len 32,hlt,Zfy,s1]
 |cons l r ih =>
  intro done y H hd hy
  have hlen:ls.length=done.length+(r.length+1):=by rw[hd];simp
  have hlt:decide ((done.length:Int)<(ls.length:Int))=true:=by simp;omega
  have hw1:IntKind.i64.wrap ((done.length:Int)+1)=((done.length+1:Nat):Int):=by rw[Zq (by omega) (by omega)];omega
  have hiy:ls[done.length]?=some l:=by rw[hd,List.getElem?_append_right (Nat.le_refl _)];simp
  obtain⟨a,g1,g3⟩:=hx.get' hiy
  have hb:ZT done+l.length≤1048576:=by rw[hd,Ea]at ht;simp[ZT]at ht;omega
  rw[←DY]at hb
  obtain⟨y1,H1,q1,q2⟩:=hy.app g3 (by omega)
  obtain⟨y',m1,m2⟩:=ih (done++[l]) y1 H1 (by rw[hd];simp) (by simpa using q2)
  rw[List.length_append,List.length_singleton]at m1
  refine⟨y',?_,m2⟩
  rw[Lx]
  simp only[go_sem,hx.len 32,hlt,Zfz,g1,Zw,q1,ZfA,hw1,m1]
include ha hok hq hks hL
theorem Zmw (H:Hp):∃ y,Zc Rc [a,q,x] H=some (y,H)∧SS y (Ge L p ls):=by
 obtain⟨a1,h1,h2⟩:=ha.close [] 0 2
 obtain⟨q1,g1,g2⟩:=hq.close [] 0 2
 obtain⟨x1,k1,k2⟩:=hx.close [] 0 3
 have hav:=h2
 have hsp:=g2
 have hck:=fun H=>ZcR g2 H
 obtain⟨lx,c,e,rfl,hlx,hc,he⟩:=h2
 obtain⟨xp,rfl,hxp⟩:=g2
 suffices hs:∃ y,Rc [.agg (L.cells lx c e),.agg (p.cells xp),x1] []=some (y,[])∧SS y (Ge L p ls) by
  obtain⟨y,r1,r2⟩:=hs
  obtain⟨y',r3,r4⟩:=SS.closed r2 [] 0 4
  exact⟨y',GZ (args':=[.agg (L.cells lx c e),.agg (p.cells xp),x1]) (by simp[h1,g1,k1]) r1 r3,r4⟩
 have l2:Z3 true 5 (.ptr 1 0) [AObj.cells (L.cells lx c e),.cells (p.cells xp)]=some (.agg (p.cells xp)):=VW (i:=1) rfl
 have hck2:=hck [AObj.cells (L.cells lx c e),.cells (p.cells xp)]
 rw[Zhp]
 unfold Zcs Ge
 simp only[YP,go_sem,List.nil_append,List.length_nil,List.length_singleton,List.singleton_append,List.cons_append,Nat.zero_add,l2,hck2]
 cases hcp:ZO p != 0 with
 |true =>
  obtain⟨y,m1,m2⟩:=Zl1 k2 ht hl [] rfl ls [] .nils [AObj.cells (L.cells lx c e),.cells (p.cells xp)] rfl (RowN.nil _ _ _)
  rw[List.length_nil,show ((0:Nat):Int)=0 from rfl]at m1
  exact⟨y,by simp only[go_sem,m1],by rw[if_pos rfl];exact m2⟩
 |false =>
  rw[if_neg (by decide)]
  simp only[go_sem,Zfu,k2.len 32]
  by_cases h0:ls=[]
  ·subst h0
   obtain⟨z,r1,r2⟩:=ZgS hav hok hsp hks (x:=.nils) (l:=[]) (.inl ⟨rfl,rfl⟩) (fun s hs=>by cases hs) (Nat.zero_le _) ([AObj.cells (L.cells lx c e),.cells (p.cells xp)]++[.tok 0])
   obtain⟨y,s1,s2⟩:=ZaK (H0:=[]) (H:=[AObj.cells (L.cells lx c e),.cells (p.cells xp)]++[.tok 0]) (fun i hi=>by simp at hi) (Nat.zero_le _) r2 (fun c hc=>by obtain⟨m,_,rfl⟩:=List.mem_map.1 hc;rfl)
   have hmk:VN 1 8 false (.int .i64 0) (.int .i64 (([]:List (List Zo)).length:Int)) (.int .i64 (([]:List (List Zo)).length:Int)) [AObj.cells (L.cells lx c e),.cells (p.cells xp)]=some (.vs 1 (.own 2 0) [],[AObj.cells (L.cells lx c e),.cells (p.cells xp)]++[.tok 0]):=rfl
   have k3:Zj (.slice 32) x1=some (.int .i64 0):=k2.len 32
   have e2:decide ((-1:Int)<0)=true:=rfl
   have e3:decide ((0:Int)<0)=false:=rfl
   have g3:([AObj.cells (L.cells lx c e),.cells (p.cells xp)]++[.tok 0])[0]?=some (.cells (L.cells lx c e)):=rfl
   have g4:([AObj.cells (L.cells lx c e),.cells (p.cells xp)]++[.tok 0])[1]?=some (.cells (p.cells xp)):=rfl
   refine⟨y,?_,?_⟩
   ·rw[hmk]
    simp only[go_sem,QS,Dl,k3,e3,Df,e2,Jw g3,VW g4,r1,s1]
   ·have:C4 L p []=if p.uniq then X0 (Ya L p) [] [] else []:=rfl
    rw[this];exact s2
  ·have hpos:0<ls.length:=List.length_pos_iff.2 h0
   have hmk:VN 1 8 false (.int .i64 0) (.int .i64 (ls.length:Int)) (.int .i64 (ls.length:Int)) [AObj.cells (L.cells lx c e),.cells (p.cells xp)]=some (.rs false 1 2 0 ls.length ls.length,[AObj.cells (L.cells lx c e),.cells (p.cells xp)]++[.cells ((List.replicate ls.length 0).map fun k:Nat=>AV.int .i64 (k:Int))]):=by
    unfold VN
    dsimp only
    have hfit:fits ((ls.length:Int)).toNat 8=true:=by simp[fits];omega
    rw[if_pos ⟨by omega,by omega,rfl,rfl,by omega,hfit⟩,if_neg (by omega)]
    have:(List.replicate ((ls.length:Int)).toNat (AV.int .i64 0).cells).flatten=(List.replicate ls.length 0).map fun k:Nat=>AV.int .i64 (k:Int):=by
     rw[Int.toNat_natCast,List.map_replicate]
     show (List.replicate ls.length [AV.int .i64 0]).flatten=_
     rw[List.flatten_replicate_singleton]
     rfl
    rw[this,Int.toNat_natCast]
    rfl
   rw[hmk]
   obtain⟨y,m1,m2⟩:=Zmx hav hok hsp hks k2 hL ht hl (i3:=0) (i4:=1) (o:=2) ⟨by decide,by decide⟩ (ZT ls) (List.replicate ls.length 0) [] .nils ([AObj.cells (L.cells lx c e),.cells (p.cells xp)]++[.cells ((List.replicate ls.length 0).map fun k:Nat=>AV.int .i64 (k:Int))]) (by rw[ZgN]) (by simp) (by simpa using ht) (fun s hs=>by cases hs) (RowN.nil _ _ _) rfl rfl rfl
   rw[ZgN,List.nil_append]at m2
   exact⟨y,by simp only[go_sem,m1],m2⟩
end
theorem ZgD (L:Loc)(p:Spec):XT false L p=id:=(Eq.refl _).trans (Eq.refl _)
theorem Zos (f:Zo→Zo→Int):∀ (n:Nat) (rest:List (List Zo)),(XC f n rest).length≤n:=by
 intro n
 induction n with
 |zero=>intro rest;exact Nat.le_refl _
 |succ n ih =>
  intro rest
  cases hg:YI f rest 0 none with
  |none=>rw[Rs hg];simp
  |some p =>
   obtain⟨k,a⟩:=p
   rw[Gd hg]
   have:=ih (rest.set k ((rest.getD k []).drop 1))
   rw[List.length_cons];omega
theorem Zot (L:Loc)(p:Spec)(ls:List (List Zo)):(Ge L p ls).length≤ZT ls:=by
 have h:=Zos (ZE L p) (ZT ls) ls
 have k:=ZiF (g:=Ya L p) (XC (ZE L p) (ZT ls) ls) []
 unfold Ge C4
 split
 ·rw[DY];exact Nat.le_refl _
 ·split
  ·simp at k;omega
  ·exact h
section
variable {a q:AV}{L:Loc}{p:Spec}(ha:LocAV a L)(hok:LocOk L)(hsm:LocSm L)(hq:SpecAV q p)(hks:∀ k∈p.keys,KeOk k)(hkl:p.keys.length≤1048576)
 {x:AV} {ls:List (List Zo)} (hx:LsV x ls) (hL:Zbd ls) (ht:ZT ls≤1048576) (hl:ls.length≤1048576)
include ha hok hsm hq hks hkl hx hL ht hl
theorem Zpi:∃ H',PR [a,q,x] []=some (.bool true,H'):=by
 have hfew:=Zqd hx hL hl ht
 have ha2:=ha
 have hq2:=hq
 obtain⟨lx,c,e,rfl,hlx,hlc,hle⟩:=ha2
 obtain⟨xp,rfl,hxp⟩:=hq2
 rw[I0]
 unfold N4
 simp only[YP,go_sem,List.nil_append,List.length_nil,List.length_singleton,List.singleton_append,List.cons_append]
 obtain⟨b,f1',f2⟩:=hfew [AObj.cells (L.cells lx c e),.cells (p.cells xp)]
 cases b with
 |false =>
  have haw:=ZfO [AObj.cells (L.cells lx c e),.cells (p.cells xp)]
  exact⟨[AObj.cells (L.cells lx c e),.cells (p.cells xp)],by simp only[f1',go_sem,Bool.not_false,haw]⟩
 |true =>
  obtain⟨h8,hf⟩:=f2 rfl
  have l1:Z3 true 6 (.ptr 0 0) [AObj.cells (L.cells lx c e),.cells (p.cells xp)]=some (.agg (L.cells lx c e)):=Jw (i:=0) rfl
  have l2:Z3 true 5 (.ptr 1 0) [AObj.cells (L.cells lx c e),.cells (p.cells xp)]=some (.agg (p.cells xp)):=VW (i:=1) rfl
  obtain⟨H1,o,t,A1,pk,xn,m1,m2,m3,m4,m5,m6⟩:=Zio ha hok hq hks hx hf h8 false rfl rfl [AObj.cells (L.cells lx c e),.cells (p.cells xp)]
  have g0:H1[0]?=some (.cells (L.cells lx c e)):=m5.get rfl (by simp)
  have g1:H1[1]?=some (.cells (p.cells xp)):=m5.get rfl (by simp)
  have hz0:=fun k=>M2 g0 k
  have g1':(H1.set 0 .dead)[1]?=some (.cells (p.cells xp)):=Yd _ (by decide) g1
  have hz1:=fun k=>M2 g1' k
  have hA1:∀ a∈A1,2≤a:=m6
  have hsys:SysAt ((H1.set 0 .dead).set 1 .dead) o t (BD ls.length) (DV (ls.map (XT false L p)) pk) A1:=m2.frame fun b hb=>by
   have:=hA1 b hb
   rw[List.getElem?_set_ne (by omega),List.getElem?_set_ne (by omega)]
  have hlen:(ls.map (XT false L p)).length=ls.length:=List.length_map _
  have hfo:∀ l∈ls.map (XT false L p),Few l:=fun l hl=>by
   obtain⟨k,hk,rfl⟩:=List.mem_map.1 hl
   exact (hf k hk).out false L p
  have hrf:=ZgM (L:=L) (p:=p) hfo (by rw[hlen];exact h8) pk
  rw[hlen]at hrf
  have htl:=Zqf ls hf
  have hmul:ls.length*30≤8*30:=Nat.mul_le_mul_right _ h8
  have htot:ZT (ls.map (XT false L p))≤ZT ls:=by rw[ZgD,List.map_id];exact Nat.le_refl _
  have hcl:Y7 (ls.map (XT false L p)).flatten≤262144:=by
   have:=ZdQ _ hfo
   rw[hlen]at this
   have:ls.length*6180≤8*6180:=Nat.mul_le_mul_right _ h8
   omega
  obtain⟨H2,xr,H3,g,r1,r2,H4,xo,r3,r4,r5,r6⟩:=Zgv (m:=ZT ls) (Zlu (k:=ls.length) (by omega)) (ZgX (by rw[hlen];omega) hcl m3) rfl rfl ha hok hsm hq hks hkl m4.1.ss (by rw[hlen];exact Vm (by omega)) (by rw[Vm (by omega)];omega) hrf htot (by omega) hsys
  rw[ZgD,List.map_id]at r4
  obtain⟨y,j1,j2⟩:=Zmi hx ht hl H3
  have hyl:Zj (.slice 9) y=some (.int .i64 (ZT ls:Int)):=by rw[j2.len 9,DY]
  obtain⟨z,s1,s2⟩:=Zmw ha hok hq hks hx hL ht hl H4
  have hml:=Zot L p ls
  have hsame:=Zp0 r4 s2 (by omega) (by omega) H4
  rw[decide_eq_true rfl]at hsame
  have hv1:Yi true 6 (.vp (L.cells lx c e))=some (.agg (L.cells lx c e)):=by simp[Yi,Z3,Go.Am.apart,Loc.cells]
  have hv2:Yi true 5 (.vp (p.cells xp))=some (.agg (p.cells xp)):=by simp[Yi,Z3,Go.Am.apart,Spec.cells]
  have hv3:Z3 true 6 (.vp (L.cells lx c e)) H4=some (.agg (L.cells lx c e)):=Xy 6 _ rfl H4
  have hv4:Z3 true 5 (.vp (p.cells xp)) H4=some (.agg (p.cells xp)):=Xy 5 _ rfl H4
  have haw:=ZfO H4
  exact⟨H4,by simp only[f1',go_sem,Bool.not_true,Cv,l1,l2,m1,List.getElem?_cons_zero,List.getElem?_cons_succ,hz0,hz1,hv1,hv2,r1,r2,j1,hyl,r3,hv3,hv4,s1,hsame,haw]⟩
end
end Go.Am
