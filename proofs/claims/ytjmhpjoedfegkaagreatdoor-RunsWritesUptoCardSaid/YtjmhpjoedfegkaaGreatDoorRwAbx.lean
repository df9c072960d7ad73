/- The example of chapter 22 is answered as it should be -/
import Derived.Test.YtjmhpjoedfegkaaGreatDoorRwQcx
import Derived.Test.YtjmhpjoedfegkaaGreatDoorRwGAx
import Derived.Test.YtjmhpjoedfegkaaGreatDoorRwWcx
open Option renaming some->N
open Bool renaming true->K,false->O
open List renaming length->Z
open Go.Am.AV renaming int->Q
open Go.IntKind renaming i64->J
open List renaming getElem?_append_left->zA,mem_cons->zB,getElem?_append_right->zC,getElem?_cons_zero->zF,getElem?_cons_succ->zG,append_assoc->zI,length_map->zJ
open Nat renaming le_refl->zK,zero_le->zL
open Bool renaming not_true->zE,not_false->zH
open Go.Am.AObj renaming cells->zD
namespace Go.Am
set_option maxRecDepth 100000
def D9:Zj:=[46,116,109,112,46,97,46,49]
def exL:List ZW:=[[98],[97]]
def exS:List ZW:=[[97],[98]]
def exT:Tmp:=⟨[97],[],[],1000,0,O⟩
def dZ:Sto:=⟨1000,0,[],O,0⟩
theorem ZmS:Ye defL plainP exL=exS:=dz
theorem ZzR:D9=Yr exT.owner (exT.last+1):=dz
theorem ZhU:UN D9=K:=dz
theorem ZyI:ZlU (YK cS 35 ([[97],[98,98],[99]]:List ZW))=[[[97],[98,98]],[[99]]]:=dz
theorem Ztj:StoOk dZ:=⟨di,di,di,by simp[dZ],by simp[dZ],by simp[dZ],by simp[dZ],di⟩
theorem ZzS:TmpOk exT:=⟨di,di,di,di⟩
def aU:Tmp:={ exT with last:=1,names:=[D9] }
def Ph:Sto:={ dZ with files:=[⟨D9,[],0⟩] }
def LV:Sto:={ Ph with files:=[⟨D9,Ym exS,0⟩],peak:=max 0 (0+Yo exS) }
def exO3:Sto:={ LV with files:=[⟨D9,Ym exS,(Ym exS).length⟩] }
def ZmT:Tmp:={ aU with sld:=[D9] }
theorem ZyJ:TmpOk aU:=⟨di,di,di,di⟩
theorem Zpx:TmpOk ZmT:=⟨di,di,di,di⟩
theorem Zmu:∃ H',DQ [] []=N (.bool K,H'):=by
 have ab:(Ym exS).length<=100:=di
 have aa:Yo exS<=100:=di
 have w:Wq exS=K:=di
 have o1:StoOk Ph:=⟨show (1000:Nat)<=262144 by decide,by simp[Ph,Zs],show (0:Nat)<=1000 by decide,by simp[Ph,ZhU],by simp[Ph],by simp[Ph],by simp[Ph],show (0:Nat)<=9223372036854775807 by decide⟩;have o2:StoOk LV:=⟨show (1000:Nat)<=262144 by decide,by simp[LV,Ph,dZ,Zs];omega,by simp[LV,Ph,dZ];omega,by simp[LV,ZhU],by simp[LV],by simp[LV],by simp[LV],show (0:Nat)<=9223372036854775807 by decide⟩;have R:StoOk exO3:=⟨show (1000:Nat)<=262144 by decide,by simp[exO3,LV,Ph,dZ,Zs];omega,by simp[exO3,LV,Ph,dZ];omega,by simp[exO3,ZhU],by simp[exO3],by simp[exO3],by simp[exO3],show (0:Nat)<=9223372036854775807 by decide⟩;have hN:Zi exT dZ=((D9,0),(aU,Ph)):=Zzf rfl rfl rfl ZzR ZhU rfl di;have hW:ZO aU Ph D9 exS=(0,LV):=ZuY (fs:=[]) rfl rfl rfl (by simp[aU]) (by simp[aU,exT]) rfl rfl w (by simp[Zs,Ph,dZ];omega) (by simp[Zs,aU,exT];omega);have E:ZM aU LV D9=(0,(ZmT,exO3)):=Zxx (fs:=[]) rfl rfl rfl (by simp[aU]) rfl rfl;obtain⟨y,y1,D⟩:=Zsa (mem:=35) (Zu0 [[97],[98,98],[99]] .clip) di di [];rw[ZyI]at D;obtain⟨H1,q1,S,q3⟩:=Zps 1000 b5 [];have H:(⟨(min (max 1000 0) 262144:Int).toNat,0,[],O,0⟩:Sto)=dZ:=rfl;rw[H]at S;obtain⟨V,A2,r1,T,r3,r4⟩:=Zob S Ztj rfl [97] di di 1000;have L:(⟨[97],[],[],(max 0 1000:Int).toNat,0,O⟩:Tmp)=exT:=rfl;rw[L]at T;obtain⟨a,d1,d2⟩:=R2 V;obtain⟨B,A3,t1,P⟩:=Zso (l:=exL) T ZzS Ztj di d2 ZqH (ZAI plainP rfl) (ZA5 rfl) (Zu0 exL .clip) di di (by rw[ZmS];omega) (by rw[ZmS];decide) hN ZyJ o1 (by rw[ZmS];exact hW) o2 E;have F:=Zkc (Z H1+1) D9 B;have A:Z B∉A3:=λh=>by have:=P.at'.lt _ h;omega
 have g:(B++[zD (JG (Z H1+1) D9 0 O O [])])[Z B]?=N (.cells (JG (Z H1+1) D9 0 O O [])):=dh
 have G:Rdr (B++[zD (JG (Z H1+1) D9 0 O O [])]) (Z B) (Z H1+1) D9 (Ym exS) exS:=.inr (.inr ⟨[],g,rfl⟩);have C:SysAt (B++[zD (JG (Z H1+1) D9 0 O O [])]) (Z H1+1) ((0:Nat)+1) ZmT exO3 A3:=P.at'.frame λa ha=>zA (P.at'.lt a ha);have j:ZI ZmT D9=0:=by simp[ZI,ZmT,aU,exT]
 have z:Y2 exO3.files D9=N ⟨D9,Ym exS,(Ym exS).length⟩:=by simp[Y2,exO3]
 obtain⟨H4,n1,n2,n3,n4⟩:=Zvt C Zpx R (f:=⟨D9,Ym exS,(Ym exS).length⟩) G A j rfl rfl z w (by show (Ym exS).length<=262144;omega);obtain⟨W,p1,_⟩:=Zmf n2 Zpx R (f:=⟨D9,Ym exS,(Ym exS).length⟩) n4 A j rfl rfl z di (by show (Ym exS).length<=262144;omega);obtain⟨X,g1,g2⟩:∃ a,Zr 1 y (Q J 0)=N (.vp [a])/\SS a [[97],[98,98]]:=D.get' (i:=0) rfl;obtain⟨b1,g3,g4⟩:∃ a,Zr 1 y (Q J 1)=N (.vp [a])/\SS a [[99]]:=D.get' (i:=1) rfl;have h2:Zf (.slice 27) y=N (Q J 2):=D.len 27;have l0:Zf (.slice 9) X=N (Q J 2):=g2.len 9;have i1:Zr 1 b1 (Q J 0)=N (.vp [.str [99]]):=SS.idx g4 (i:=0) (s:=[99]) rfl;have s1:(ZB 1 [(0,(.str [97])),(1,(.str [98,98])),(2,(.str [99]))] [(.str []),(.str []),(.str [])]).map (AV.vs 1 .clip)=N (AV.vs 1 .clip ([[97],[98,98],[99]].map AV.str)):=rfl;have s2:(ZB 1 [(0,(.str [98])),(1,(.str [97]))] [(.str []),(.str [])]).map (AV.vs 1 .clip)=N (AV.vs 1 .clip (exL.map AV.str)):=rfl;have s3:(Yb [(1,1,(Q J (-1)))] [.nils,(Q J 0),(Q J 0),(.bool O),(.bool O)]).map AV.agg=N (.agg (plainP.cells .nils)):=rfl;have e0:((0:Int) != 0)=O:=rfl;have e1:((0:Int)==0)=K:=rfl;have e2:((2:Int) != 2)=O:=rfl;have e3:(([99]:Zj)==[99])=K:=di
 have e4:(D9==[46,116,109,112,46,97,46,49])=K:=di
 have e5:(([97]:Zj)==[97])=K:=di
 have e6:(([98]:Zj)==[98])=K:=di
 have c0:exS.headD []=[97]:=rfl;have c1:exS.isEmpty=O:=rfl;have c2:exS.tail.headD []=[98]:=rfl;have c3:exS.tail.isEmpty=O:=rfl;refine⟨W,?_⟩;rw[ZiY];unfold ZdA;simp only[s1,y1,q1,go_sem,r1,zF,zG,d1,s2,s3,t1,F,n1,p1,h2,g1,g3,l0,i1,ZE,e0,e1,e2,e3,e4,e5,e6,c0,c1,c2,c3,zH,zE,ZgB]
theorem ZhE (H:Hp):Ze DQ [] H=N (.bool K,H):=by
 obtain⟨H',h⟩:=Zmu;exact Kg (args':=[]) dh h (by simp[Gw])
set_option linter.unusedSectionVars false
theorem ZzK:∀ (l:List Zj),(∀ s∈l,Z s<=5000)->Yo l<=Z l*5006:=by
 intro l
 induction l with
 |nil=>intro _;exact zK _
 |cons s l w =>
  intro h;have z:=h s dh;have A:=w λt j=>h t (by simp[j]);simp only[Yo,List.length_cons];omega
theorem Zxn (a a':Zj)(m h:Bool)(n j:Int):Qg Go.Proofs.Tryz.prog cfg.eqok .neq 63 (.agg [.str a,.bool m,Q J n]) (.agg [.str a',.bool h,Q J j]) =
 (match (match N (a==a') with
  |some K=>(match N (m==h) with
   |some K=>(match N (n==j) with
    |some K=>N K
    |r=>r)
   |r=>r)
  |r=>r:Option Bool) with
 |some b=>N (.bool (!b))
 |none=>none):=dz
theorem ZuL (R:aJ):Qg Go.Proofs.Tryz.prog cfg.eqok .neq 63 (.agg (WS R)) (.agg (WS R))=N (.bool O):=by
 unfold WS;rw[Zxn];simp
theorem Zq0 (o:Nat)(n:Zj)(H:Hp):fG [.ptr o 0,.str n] H=N (.ptr (Z H) 0,H++[.cells (JH o n 0 O O [])]):=by
 have h:∀ c,Y5 (.pointer c) .eql (.ptr o 0) .nilp=N (.bool O):=λ_=>rfl;have w:(Yb [(0,1,.ptr o 0),(1,1,.str n)] [.nilp,(.str []),(Q J 0),(.str []),(.bool O),(.bool O)]).map AV.agg=N (.agg (JH o n 0 O O [])):=rfl;have j:ZY (.agg (JH o n 0 O O [])) H=N (.ptr (Z H) 0,H++[.cells (JH o n 0 O O [])]):=VE rfl;rw[Zlg];unfold Zgy;simp only[h,go_sem,ZjD,w,j]
section
variable {p:Spec}{xp x y:AV}{cs:List Cw}{t u o o' ra rb:Nat}{n:Zj}(hy:Sl 3 y (cs.map Cw.av))(hc:∀ c∈cs,ZiX c)(h40:Z cs<=40)
include hy hc h40
theorem Zpr (H0:Hp):∀ (r d:List Cw) (H:Hp) (w:Wst) (A B:dv),cs=d++r->MAt H t (.ptr o 0) (N w.tm) w.s A->RAt H ra o n w.q->ra∉A->RMAt H u (.ptr o' 0) (N w.tm) w.s B (Z d+4)->RBt H rb o' n w.q->rb∉B->(∀ a∈ra::A,a∉rb::B)->WI w (Z d+4) ->
 ∃ H',VO (.vp (JJ p xp x y)) (.ptr t 0) (.ptr u 0) (.ptr o 0) (.ptr o' 0) (.str n) (.str n) (.ptr ra 0) (.ptr rb 0) (Q J (Z d:Int)) H0 H=N (.bool K,H'):=by
 have f6:Z6 6 (.vp (JJ p xp x y))=N (.vp [y]):=rfl;have l6:∀ H,Z4 O 1 (.vp [y]) H=N y:=λ_=>rfl;have v6:Xy O 1 (.vp [y])=N y:=rfl;have aa:∀ e,Zf (.slice e) y=N (Q J (Z cs:Int)):=λe=>by have:=Sl.len hy e;rwa [zJ]at this
 have hz:∀ (k:AV->Hp->Z3) (H:Hp),XN (.vp (JJ p xp x y)) H k=k (.vp (JJ p xp x y)) H:=λk H=>by simp[XN,Rm]
 intro r
 induction r with
 |nil =>
  intro d H w A B C _ _ _ _ _ _ _ _;rw[List.append_nil]at C;subst C;have D:decide ((Z cs:Int)<(Z cs:Int))=O:=dh
  refine⟨H,?_⟩;rw[Wz];simp only[f6,go_sem,l6,aa,D,Tp,ZhE]
 |cons c r ih =>
  intro d H w A B C h1 h2 h3 h4 h5 h6 h7 hI;have al:Z cs=Z d+(Z r+1):=by rw[C];simp
  have D:decide ((Z d:Int)<(Z cs:Int))=K:=by simp;omega
  have ak:IntKind.i64.wrap ((Z d:Int)+1)=((Z d+1:Nat):Int):=by rw[Zl b5 b5];omega
  have af:c∈cs:=by rw[C];simp
  have V:Zr 3 y (Q J (Z d:Int))=N (.vp c.cells):=Sl.idx hy (i:=Z d) (c:=c.av) (by rw[C,List.map_append,zC dh];simp[Cw.av]);have lc:∀ H,Z4 K 3 (.vp c.cells) H=N (.agg c.cells):=λ_=>rfl;have vc:Xy K 3 (.vp c.cells)=N (.agg c.cells):=rfl;have hA:=h1.lt;have hB:=h4.lt;have ap:=h2.lt;have aq:=h5.lt;obtain⟨H1,A1,p1,G,p3⟩:=wdo h1 hI b5 h2 h3 c;have j:=ZyF (n:=n) (hc c af) hI b5;have am:=G.stp.len;have fB:∀ a∈rb::B,H1[a]?=H[a]?:=λa h=>G.stp.at' a (by rcases zB.1 h with e|e;omega;exact hB a e) (λT=>h7 a T h);have ad:=h4.frame λa h=>fB a (by simp[h]);have ae:=h5.frame (fB rb dh);obtain⟨H2,B2,q1,E,q3⟩:=vdo ad hI b5 ae h6 c;have an:=E.stp.len;have P:=G.at'.lt
  have ah:ra∉A1:=λT=>by
   rcases G.own ra T with k|k
   ·exact h3 k
   ·omega
  have ai:rb∉B2:=λT=>by
   rcases E.own rb T with k|k
   ·exact h6 k
   ·omega
  have z:∀ a∈ra::A1,a∉rb::B:=λa h R=>by
   rcases zB.1 h with e|e
   ·exact h7 a (by simp[e]) R
   ·rcases G.own a e with k|k
    ·exact h7 a (by simp[k]) R
    ·rcases zB.1 R with F|F
     ·omega
     ·have:=hB a F;omega
  have ag:∀ a∈ra::A1,a∉rb::B2:=λa h R=>by
   have ao:a<Z H1:=by
    rcases zB.1 h with e|e
    ·omega
    ·exact P a e
   rcases zB.1 R with F|F
   ·exact z a h (by simp[F])
   ·rcases E.own a F with k|k
    ·exact z a h (by simp[k])
    ·omega
  have L:=G.at'.frame (H':=H2) λa h=>E.stp.at' a (P a h) (z a (by simp[h]));have ac:=p3.frame (H':=H2) (E.stp.at' ra b5 (z ra dh));obtain⟨S6,X,_⟩:=L.store;obtain⟨R6,W,_⟩:=E.at'.sto;obtain⟨x1,a1,a2⟩:=cH X j.s.sto;obtain⟨x2,b1,b2⟩:=Ar W j.s;have aj:=ZiF a2 b2 j.s.len H2;have S:=ZuL (IS n c w).2;have e1:Z d+4+1=(d++[c]).length+4:=dh
  rw[e1]at j;have ab:=E.at';rw[e1]at ab;obtain⟨H',k⟩:=ih (d++[c]) H2 (IS n c w).1 A1 B2 (by rw[C];simp) L ac ah ab q3 ai ag j;rw[List.length_append,List.length_singleton]at k;refine⟨H',?_⟩;rw[Wz];simp only[f6,go_sem,l6,aa,D,Tq,hz,V,lc,p1,v6,vc,q1,S,a1,b1,aj,zE,gB,ak];exact k
end
theorem ZtK (lim st:Int):FY [97] lim ⟨(min (max st 0) 262144).toNat,0,[],O,0⟩=(0,(N ⟨[97],[],[],(max 0 lim).toNat,0,O⟩,⟨(min (max st 0) 262144).toNat,0,[],O,0⟩)):=by
 have h:X1 [97]=K:=di
 unfold FY;rw[if_pos h];have j:Xo [97] ⟨(min (max st 0) 262144).toNat,0,[],O,0⟩=[]:=rfl;rw[j];rfl
theorem MAt.ptr {H:Hp}{t:Nat}{p:AV}{tm:Tmp}{s:Sto}{A:dv}(h:MAt H t p (N tm) s A):∃ o,p=.ptr o 0:=by obtain⟨o,h,_⟩:=h;exact⟨o,h⟩
theorem RMAt.ptr {H:Hp}{t k:Nat}{p:AV}{tm:Tmp}{s:Sto}{A:dv}(h:RMAt H t p (N tm) s A k):∃ o,p=.ptr o 0:=by obtain⟨o,h,_⟩:=h;exact⟨o,h⟩
theorem Zq1 {st lim fl:Int}(ck:-9223372036854775808<=st/\st<=9223372036854775807)(bg:-9223372036854775808<=lim/\lim<=9223372036854775807)(cd:fl<=9223372036854775807){p:Spec}{xp x y:AV}{l:List ZW}{cs:List Cw}(bm:Sl 5 xp (p.keys.map Ke.av))(bf:∀ k∈p.keys,KeOk k)(de:Z p.keys<=1048576)(hx:SS x l)(hL:XK l)(hl:Z l<=1048576)(hy:Sl 3 y (cs.map Cw.av))(hc:∀ c∈cs,ZiX c)(dd:Z cs<=1048576) :
 ∃ H',Cg [.agg [Q J st,Q J lim,Q J fl],.agg (JJ p xp x y)] []=N (.bool K,H'):=by
 have ca:ZY (.agg [Q J st,Q J lim,Q J fl]) []=N (.ptr 0 0,[.cells [Q J st,Q J lim,Q J fl]]):=rfl
 have af:(AV.agg (JJ p xp x y)).known=K:=by
  rcases bm with ⟨rfl,_⟩|⟨_,rfl⟩ <;> rcases hx with ⟨rfl,_⟩|⟨_,rfl⟩ <;> rcases hy with ⟨rfl,_⟩|⟨_,rfl⟩ <;> rfl
 have cb:ZY (.agg (JJ p xp x y)) [.cells [Q J st,Q J lim,Q J fl]]=N (.ptr 1 0,[.cells [Q J st,Q J lim,Q J fl],.cells (JJ p xp x y)]):=by rw[VE af];rfl
 obtain⟨W,hW⟩:∃ W:Hp,W=[zD [Q J st,Q J lim,Q J fl],.cells (JJ p xp x y)]:=⟨_,rfl⟩;have g0:W[0]?=N (.cells [Q J st,Q J lim,Q J fl]):=by rw[hW];rfl
 have S:W[1]?=N (.cells (JJ p xp x y)):=by rw[hW];rfl
 have C:∀ {V:Hp},V[1]?=N (.cells (JJ p xp x y))->Z4 O 1 (.ptr 1 (0+5)) V=N x:=λh=>by rw[Wg h];rfl
 have ag:∀ {V:Hp},V[1]?=N (.cells (JJ p xp x y))->Z4 O 1 (.ptr 1 (0+6)) V=N y:=λh=>by rw[Wg h];rfl
 have G:∀ {V:Hp},V[1]?=N (.cells (JJ p xp x y))->Z4 K 5 (.ptr 1 (0+0)) V=N (.agg (p.cells xp)):=λh=>by rw[Wg h];rfl
 have F:∀ e,Zf (.slice e) y=N (Q J (Z cs:Int)):=λe=>by have:=Sl.len hy e;rwa [zJ]at this
 have hq:SpecAV (.agg (p.cells xp)) p:=⟨xp,rfl,bm⟩;obtain⟨b,k1,k2⟩:=Zs7 hx hl hL W;obtain⟨b',k3⟩:=Zrf hq W;have ad:=ZhE;rw[nM];unfold Ct;simp only[ca,cb,Xz,<-hW]
 cases b with
 |false=>exact⟨W,by simp only[go_sem,C S,k1,zH,ad]⟩
 |true =>
 obtain⟨cw,h5⟩:=k2 rfl
 cases b' with
 |false=>exact⟨W,by simp only[go_sem,C S,k1,zE,G S,k3,zH,ad]⟩
 |true =>
 by_cases h40:(40:Int)<(Z cs:Int)
 ·have c1:=decide_eq_true h40;exact⟨W,by simp only[go_sem,C S,k1,zE,G S,k3,ag S,F,c1,ad]⟩
 have c1:=decide_eq_false h40;simp only[go_sem,C S,k1,zE,G S,k3,ag S,F,c1]
 -- both stores
 have ce:∀ k:AV->Hp->Z3,XN (.ptr 0 0) W k=k (.vp [Q J st,Q J lim,Q J fl]) (W.set 0 .dead):=λk=>Zia g0 k;obtain⟨V,hV⟩:∃ V:Hp,V=W.set 0 .dead:=⟨_,rfl⟩;have bd:Z V=2:=by rw[hV,hW];rfl
 have gV:V[1]?=N (.cells (JJ p xp x y)):=by rw[hV,hW];rfl
 have bo:Z6 0 (.vp [Q J st,Q J lim,Q J fl])=N (.vp [Q J st,Q J lim,Q J fl]):=rfl;have bp:Z6 1 (.vp [Q J st,Q J lim,Q J fl])=N (.vp [Q J lim,Q J fl]):=rfl;have bq:Z6 2 (.vp [Q J st,Q J lim,Q J fl])=N (.vp [Q J fl]):=rfl;have cl:∀ H,Z4 O 1 (.vp [Q J st,Q J lim,Q J fl]) H=N (Q J st):=λ_=>rfl;have cm:∀ H,Z4 O 1 (.vp [Q J lim,Q J fl]) H=N (Q J lim):=λ_=>rfl;have cn:∀ H,Z4 O 1 (.vp [Q J fl]) H=N (Q J fl):=λ_=>rfl;have cq:Xy O 1 (.vp [Q J st,Q J lim,Q J fl])=N (Q J st):=rfl;obtain⟨H1,q1,q2,q3⟩:=Zps st ck V;obtain⟨H2,r1,r2,r3⟩:=Zxe st H1;have bh:(min (max st 0) 262144).toNat<=262144:=b5
 have ae:=ZtK lim st;generalize ci:(⟨(min (max st 0) 262144).toNat,0,[],O,0⟩:Sto)=s0 at q2 r2 ae;have o0:ROk s0:=by rw[<-ci];exact⟨⟨bh,by simp[Zs],zL _,dh,dh,dh,dh,zL _⟩,λ_=>rfl⟩
 have am:Z H1=4:=by rw[q3];simp[bd]
 rw[bd]at q1 q2
 have hS:StoreAt H2 (2+1) s0 [2+1,2]:=q2.frame λa j=>by
  have:=q2.lt a j;rw[r3,zA this]
 rw[am]at r1 r2;have cu:Z H2=5:=by rw[r3];simp[am]
 have br:H2[1]?=N (.cells (JJ p xp x y)):=by
  rw[r3,zA b5,q3,zA b5];exact gV
 obtain⟨H3,A3,p3,a1,L⟩:=ZAA (p:=.nilp) (m:=none) ⟨rfl,hS⟩ o0 [97] di lim;have r4:RMAt H3 4 .nilp none s0 [4] 0:=⟨rfl,r2.stp L.stp λa j hb=>by simp at j hb;omega⟩;obtain⟨H4,B4,p4,b1,R⟩:=ZAc (k2:=0) r4 o0 [97] di lim;rw[ae]at a1 L b1 R;generalize df:(⟨[97],[],[],(max 0 lim).toNat,0,O⟩:Tmp)=ba at ae L R
 have ar:TInv ba 0:=by
  have:=ZtJ [97] lim bg.2 s0 0;rw[ae]at this;exact this ba rfl
 obtain⟨o,rfl⟩:=L.at'.ptr;obtain⟨o',rfl⟩:=R.at'.ptr;have ah:=L.at'.lt;have cx:=L.stp.len;have cy:=R.stp.len
 have T:∀ a∈A3,a≠1/\a∉[4]:=λa j=>by
  rcases L.own a j with k|k
  ·simp at k;exact⟨b5,by simp;omega⟩
  ·exact⟨b5,by simp;omega⟩
 have m4:=L.at'.frame (H':=H4) λa j=>R.stp.at' a (ah a j) (T a j).2
 have ab:∀ a∈B4,a≠1/\a∉A3:=λa j=>by
  rcases R.own a j with k|k
  ·simp at k;exact⟨b5,λw=>by have:=(T a w).2;simp at this;omega⟩
  ·exact⟨b5,λw=>by have:=ah a w;omega⟩
 have bs:=L.stp.get br dh;have bt:=R.stp.get bs dh;have np:∀ c,Y5 (.pointer c) .eql (.ptr o 0) .nilp=N (.bool O):=λ_=>rfl;have co:∀ c,Y5 (.pointer c) .eql (.ptr o' 0) .nilp=N (.bool O):=λ_=>rfl;have bn:((0:Int) != 0)=O:=rfl
 -- a crash to come
 obtain⟨S4,bl,bi⟩:=m4.store';obtain⟨H5,f1,f2⟩:=Zmb bl fl;obtain⟨A5,f3⟩:=bi f2;have ct:=m4.lt;have ak:=R.at'.lt;have cz:=f3.stp.len;have n5:=R.at'.frame (H':=H5) λa j=>f3.stp.at' a (ak a j) (ab a j).2;obtain⟨R5,ax,_,aw⟩:=n5.sto;obtain⟨H6,j1,j2⟩:=ZkU ax fl;obtain⟨B6,j3⟩:=aw j2;have da:=j3.stp.len
 have aa:∀ a∈A5,a≠1/\a∉B4:=λa j=>by
  rcases f3.own a j with k|k
  ·exact⟨(T a k).1,λw=>(ab a w).2 k⟩
  ·exact⟨b5,λw=>by have:=ak a w;omega⟩
 have ai:=f3.at'.lt;have m6:=f3.at'.frame (H':=H6) λa j=>j3.stp.at' a (ai a j) (aa a j).2
 have ac:∀ a∈B6,a≠1/\a∉A5:=λa j=>by
  rcases j3.own a j with k|k
  ·exact⟨(ab a k).1,λw=>(aa a w).2 k⟩
  ·exact⟨b5,λw=>by have:=ai a w;omega⟩
 have bu:=f3.stp.get bt (λw=>(T 1 w).1 rfl);have an:=j3.stp.get bu (λw=>(ab 1 w).1 rfl);have o6:=ZmZ o0 fl cd
 -- the run is written
 obtain⟨d,d1,d2⟩:=R2 H6;have B:∀ s∈Ye defL p l,Z s<=5000:=λs hs=>h5 s (Zv5 _ _ _ s hs)
 have E:Yo (Ye defL p l)<=1048576:=by
  have h1:=ZzK _ B;have h2:=Zv4 defL p l;have:(Ye defL p l).length*5006<=12*5006:=Nat.mul_le_mul_right _ b5;omega
 obtain⟨H7,A7,w1,w2⟩:=ZAo m6 (ar.up) o6 b5 d2 ZqH hq bf hx hL hl E B;have al:=j3.at'.lt;have aj:=w2.at'.lt;have db:=w2.stp.len;have n7:=j3.at'.frame (H':=H7) λa j=>w2.stp.at' a (al a j) (λw=>(ac a j).2 w);have ao:=w2.stp.get an (λw=>(aa 1 w).1 rfl);obtain⟨d',d3,d4⟩:=R2 H7;obtain⟨z,B8,x1,x2⟩:=ZAm n7 (ar.up) o6 b5 d4 ZqH hq bf hx hL hl E B;obtain⟨i1,i2⟩:=Zsm ar.up o6 b5 (Ye defL p l);have dc:=x2.stp.len
 have aq:∀ a∈A7,a≠1/\a∉B6:=λa j=>by
  rcases w2.own a j with k|k
  ·exact⟨(aa a k).1,λw=>(ac a w).2 k⟩
  ·exact⟨b5,λw=>by have:=al a w;omega⟩
 have m8:=w2.at'.frame (H':=z) λa j=>x2.stp.at' a (aj a j) (aq a j).2
 have bc:∀ a∈B8,a≠1/\a∉A7:=λa j=>by
  rcases x2.own a j with k|k
  ·exact⟨(ac a k).1,λw=>(aq a w).2 k⟩
  ·exact⟨b5,λw=>by have:=aj a w;omega⟩
 have bb:=x2.stp.get ao (λw=>(ac 1 w).1 rfl);have n8:=x2.at';generalize QE ba (s0.fail fl) (Ye defL p l)=P at w1 w2 x1 x2 i1 i2 m8 n8;have cg:(P.1.1==P.1.1)=K:=dh
 have cc:(P.1.2 != P.1.2)=O:=dh
 obtain⟨S6,bk,_⟩:=m8.store;obtain⟨R6,bj,_⟩:=n8.sto;obtain⟨y1,c2,c3⟩:=cH bk i2.sto;obtain⟨y2,c4,c5⟩:=Ar bj i2;have cj:=ZiF c3 c5 i2.len z
 -- the readers
 have A:=m8.lt;have D:=n8.lt;have cp:=Zkc o P.1.1 z;have az:=Zq0 o' P.1.1 (z++[zD (JG o P.1.1 0 O O [])]);obtain⟨X,hX⟩:∃ X:Hp,X=(z++[zD (JG o P.1.1 0 O O [])])++[zD (JH o' P.1.1 0 O O [])]:=⟨_,rfl⟩;rw[<-hX]at az;have cf:(z++[zD (JG o P.1.1 0 O O [])]).length=Z z+1:=dh
 rw[cf]at az;have fX:∀ a,a<Z z->X[a]?=z[a]?:=λa j=>by rw[hX,zI,zA j]
 have bw:X[Z z]?=N (.cells (Rn o P.1.1 0 O O [])):=by rw[hX,zI,zC (zK _)];simp
 have bx:X[Z z+1]?=N (.cells (JH o' P.1.1 0 O O [])):=by rw[hX,zC dh];simp
 have bz:=Zq bb;have ap:=(fX 1 bz).trans bb;have ch:∀ c,Y5 (.pointer c) .eql (.ptr (Z z) 0) .nilp=N (.bool O):=λ_=>rfl
 have ay:∃ H',VO (.ptr 1 0) (.ptr (2+1) 0) (.ptr 4 0) (.ptr o 0) (.ptr o' 0) (.str P.1.1) (.str P.1.1) (.ptr (Z z) 0) (.ptr (Z z+1) 0) (Q J 0) [] X=N (.bool K,H'):=by
  cases be:cs with
  |nil =>
   rw[be]at F;have au:decide ((0:Int)<(([]:List Cw).length:Int))=O:=rfl;refine⟨X,?_⟩;rw[Wz];simp only[go_sem,ag ap,F,au,Tp,ad]
  |cons c cr =>
   have cv:0<Z cs:=by rw[be];simp
   have au:decide ((0:Int)<(Z cs:Int))=K:=decide_eq_true b5;have f6:Z6 6 (.vp (JJ p xp x y))=N (.vp [y]):=rfl;have l6:∀ H,Z4 O 1 (.vp [y]) H=N y:=λ_=>rfl;have hz:∀ (k:AV->Hp->Z3) (H:Hp),XN (.vp (JJ p xp x y)) H k=k (.vp (JJ p xp x y)) H:=λk H=>by simp[XN,Rm]
   have fZ:∀ a,a≠1->(X.set 1 .dead)[a]?=X[a]?:=λa j=>List.getElem?_set_ne (Ne.symm j)
   obtain⟨H',hk⟩:=Zpr (x:=x) (xp:=xp) (p:=p) (t:=2+1) (u:=4) (o:=o) (o':=o') (ra:=Z z) (rb:=Z z+1) (n:=P.1.1) hy hc b5 [] cs [] (X.set 1 .dead) ⟨P.2.1,P.2.2,⟨0,none,O⟩⟩ A7 B8 rfl
    (m8.frame λa j=>(fZ a (aq a j).1).trans (fX a (A a j))) ⟨[],(fZ _ b5).trans bw,λx hx=>by cases hx⟩ (λw=>by have:=A _ w;omega)
    (n8.frame λa j=>(fZ a (bc a j).1).trans (fX a (D a j))) ⟨[],(fZ _ b5).trans bx,(λx hx=>by cases hx),λh=>by cases h⟩ (λw=>by have:=D _ w;omega)
    (λa j hb=>by
     rcases zB.1 j with e|e
     ·rcases zB.1 hb with e2|e2
      ·omega
      ·have:=D a e2;omega
     ·rcases zB.1 hb with e2|e2
      ·have:=A a e;omega
      ·exact (bc a e2).2 e)
    ⟨i1,i2,Int.le_refl _,by show (0:Int)<=(((0:Nat)+4:Nat):Int)*4102;decide⟩
   refine⟨H',?_⟩;rw[<-hk];have i0:((([]:List Cw).length:Nat):Int)=0:=rfl;rw[i0,Wz,Wz];simp only[go_sem,ag ap,f6,l6,F,au,Tq,Zia ap,hz]
 obtain⟨H',hk⟩:=ay;refine⟨H',?_⟩;rw[fV];simp only[ce,<-hV,bo,bp,bq,go_sem,cl,cm,cn,cq,q1,r1,a1,b1,zF,zG,bn,np,co,fW,f1,j1,d1,G an,C an,w1,d3,G ao,C ao,x1,cg,cc,c2,c4,cj,zE,fY,cp,az,ch,gA];exact hk
end Go.Am
