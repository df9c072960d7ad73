/- Runs are written -/
import Derived.Test.YtjmhpjoedfegkaaGreatDoorRwWax
import Derived.Test.YtjmhpjoedfegkaaGreatDoorRwSmx
import Derived.Test.YtjmhpjoedfegkaaGreatDoorRwQcx
import Derived.Test.YtjmhpjoedfegkaaGreatDoorRwGLx
import Derived.Test.YtjmhpjoedfegkaaGreatDoorRwYrx
open Option renaming some->K
open Bool renaming true->Y,false->X
open List renaming length->O
open Go.Am.AV renaming int->Q
open Go.IntKind renaming i64->J
open List renaming getElem?_cons_zero->zB,getElem?_cons_succ->zC,getElem?_set_ne->zF,getElem?_append_left->zG,getElem?_append_right->zH,append_assoc->zJ,mem_cons->zL
open Nat renaming zero_add->zD,le_trans->zI,le_refl->zK
open Int renaming reduceBEq->zE
open Go.Am.AObj renaming cells->zA
open Go.Am.AV renaming agg->zM
namespace Go.Am
set_option linter.unusedSectionVars false
set_option maxRecDepth 100000
def QE (tm:Tmp)(s:Sto)(h:List Zj):(Zj×Int)×(Tmp×Sto) :=
 if (Zi tm s).1.2≠0 then (([],(Zi tm s).1.2),(Zi tm s).2)
 else if (ZO (Zi tm s).2.1 (Zi tm s).2.2 (Zi tm s).1.1 h).1≠0 then (([],(ZO (Zi tm s).2.1 (Zi tm s).2.2 (Zi tm s).1.1 h).1),((Zi tm s).2.1,(ZO (Zi tm s).2.1 (Zi tm s).2.2 (Zi tm s).1.1 h).2))
 else if (ZM (Zi tm s).2.1 (ZO (Zi tm s).2.1 (Zi tm s).2.2 (Zi tm s).1.1 h).2 (Zi tm s).1.1).1≠0 then (([],(ZM (Zi tm s).2.1 (ZO (Zi tm s).2.1 (Zi tm s).2.2 (Zi tm s).1.1 h).2 (Zi tm s).1.1).1),(ZM (Zi tm s).2.1 (ZO (Zi tm s).2.1 (Zi tm s).2.2 (Zi tm s).1.1 h).2 (Zi tm s).1.1).2)
 else (((Zi tm s).1.1,0),(ZM (Zi tm s).2.1 (ZO (Zi tm s).2.1 (Zi tm s).2.2 (Zi tm s).1.1 h).2 (Zi tm s).1.1).2)
theorem Zsm {tm:Tmp}{s:Sto}{k:Nat}(h:TInv tm k)(B:ROk s)(C:k<40)(j:List Zj):TInv (QE tm s j).2.1 (k+3)/\ROk (QE tm s j).2.2:=by
 have u:=Zgh h b5 s;have y:=Zgi (tm:=tm) B;have z:=kV (tm:=(Zi tm s).2.1) y (Zi tm s).1.1 j;have w:=Zvf u (ZO (Zi tm s).2.1 (Zi tm s).2.2 (Zi tm s).1.1 j).2 (Zi tm s).1.1;have A:=Zvg (tm:=(Zi tm s).2.1) z (Zi tm s).1.1;unfold QE;split
 ·exact⟨u.up.up,y⟩
 ·split
  ·exact⟨u.up.up,z⟩
  ·split
   ·exact⟨w.up,A⟩
   ·exact⟨w.up,A⟩
theorem MRes.trans {H H1 z:Hp}{t:Nat}{p:AV}{D B:Option Tmp}{E C:Sto}{A w y:dv}(h:MRes H H1 t p D E A w)(k:MRes H1 z t p B C w y):MRes H z t p B C A y :=
 ⟨k.at',h.stp.trans k.stp (λ_ h=>h) (λa u=>h.own a u),λa u=>(k.own a u).elim (λj=>h.own a j) λj=>.inr (zI h.stp.len j)⟩
theorem MRes.pre {H w H1:Hp}{t:Nat}{p:AV}{z:Option Tmp}{B:Sto}{A u:dv}(y:Stp A H w)(k:MRes w H1 t p z B A u):MRes H H1 t p z B A u :=
 ⟨k.at',y.trans k.stp (λ_ h=>h) (λa j=>.inl j),λa j=>(k.own a j).imp id λC=>zI y.len C⟩
theorem RMRes.trans {H H1 z:Hp}{t:Nat}{p:AV}{E B:Option Tmp}{F C:Sto}{A w y:dv}{D k2:Nat}(h:RMRes H H1 t p E F A w D)(k:RMRes H1 z t p B C w y k2):RMRes H z t p B C A y k2 :=
 ⟨k.at',h.stp.trans k.stp (λ_ h=>h) (λa u=>h.own a u),λa u=>(k.own a u).elim (λj=>h.own a j) λj=>.inr (zI h.stp.len j)⟩
theorem RMRes.pre {H w H1:Hp}{t:Nat}{p:AV}{B:Option Tmp}{C:Sto}{A u:dv}{z:Nat}(y:Stp A H w)(k:RMRes w H1 t p B C A u z):RMRes H H1 t p B C A u z :=
 ⟨k.at',y.trans k.stp (λ_ h=>h) (λa j=>.inl j),λa j=>(k.own a j).imp id λD=>zI y.len D⟩
theorem RMRes.up {H H1:Hp}{t:Nat}{p:AV}{w:Option Tmp}{y:Sto}{A j:dv}{u:Nat}(h:RMRes H H1 t p w y A j u):RMRes H H1 t p w y A j (u+1):=⟨h.at'.up,h.stp,h.own⟩
theorem WR {tm:Tmp}{k:Nat}(h:TInv tm k):Zjk (K tm) k:=λt e=>by injection e with e;rw[<-e];exact h
theorem ZAo {H:Hp}{t o k:Nat}{tm:Tmp}{s:Sto}{A:dv}(h:MAt H t (.ptr o 0) (K tm) s A)(hm:TInv tm k)(hs:ROk s)(hk:k<40){a q x:AV}{L:Loc}{p:Spec}{l:List ZW}(M:LocAV a L)(ad:LocOk L)(hq:SpecAV q p)(ac:∀ k∈p.keys,KeOk k)(hx:SS x l)(hL:XK l)(hl:O l<=1048576)
 (G:Yo (Ye L p l)<=1048576) (aa:∀ s∈Ye L p l,O s<=5000) :
 ∃ H' A',GO [.ptr o 0,a,q,x] H=K (.tuple [.str (QE tm s (Ye L p l)).1.1,Q J (QE tm s (Ye L p l)).1.2],H')/\MRes H H' t (.ptr o 0) (K (QE tm s (Ye L p l)).2.1) (QE tm s (Ye L p l)).2.2 A A':=by
 have ab:=M;have ae:=hq;obtain⟨D,lc,le,rfl,ai,ag,ah⟩:=M;obtain⟨xp,rfl,aj⟩:=hq;have j:∀ c,Y5 (.pointer c) .eql (.ptr o 0) .nilp=K (.bool X):=λ_=>rfl;have C:=h.lt;have g1:(H++[zA (L.cells D lc le),.cells (p.cells xp)])[O H]?=K (.cells (L.cells D lc le)):=dh
 have g2:(H++[zA (L.cells D lc le),.cells (p.cells xp)])[O H+1]?=K (.cells (p.cells xp)):=dh
 have u:Stp A H (H++[zA (L.cells D lc le),.cells (p.cells xp)]):=Stp.push _ _;have z:=h.frame (H':=H++[zA (L.cells D lc le),.cells (p.cells xp)]) λa M=>zG (C a M);have w:ZY (.agg (p.cells xp)) (H++[zA (L.cells D lc le)])=K (.ptr (O H+1) 0,H++[zA (L.cells D lc le),.cells (p.cells xp)]):=by rw[Yn];simp
 generalize af:H++[zA (L.cells D lc le),.cells (p.cells xp)]=H0 at g1 g2 u z w;have T:∀ i,O H<=i->i∉A:=λi hi M=>by have:=C i M;omega
 obtain⟨H1,A1,N,B⟩:=ZB6 z (WR hm) hs b5;have N:XJ [.ptr o 0] H0=K (.tuple [.str (Zi tm s).1.1,Q J (Zi tm s).1.2],H1):=N;have B:MRes H0 H1 t (.ptr o 0) (K (Zi tm s).2.1) (Zi tm s).2.2 A A1:=B;have h1:=Zgh hm b5 s;have r1:=Zgi (tm:=tm) hs;have E:=B.stp.get g1 (T _ (zK _));have F:=B.stp.get g2 (T _ b5);obtain⟨y,q1,q2⟩:=Zl4 ab ad ae ac hx hL hl H1;obtain⟨R,A2,Z,P⟩:=ZA3 B.at' (WR h1) r1 b5 (Zi tm s).1.1 q2 (λs hs=>by have:=aa s hs;omega) G;have Z:Xh [.ptr o 0,.str (Zi tm s).1.1,y] H1=K (Q J (ZO (Zi tm s).2.1 (Zi tm s).2.2 (Zi tm s).1.1 (Ye L p l)).1,R):=Z;have P:MRes H1 R t (.ptr o 0) (K (Zi tm s).2.1) (ZO (Zi tm s).2.1 (Zi tm s).2.2 (Zi tm s).1.1 (Ye L p l)).2 A1 A2:=P;have r2:=kV (tm:=(Zi tm s).2.1) r1 (Zi tm s).1.1 (Ye L p l);obtain⟨H3,A3,z1,z2⟩:=ZAC P.at' (WR h1) r2 b5 (Zi tm s).1.1;have z1:Xq [.ptr o 0,.str (Zi tm s).1.1] R=K (Q J (ZM (Zi tm s).2.1 (ZO (Zi tm s).2.1 (Zi tm s).2.2 (Zi tm s).1.1 (Ye L p l)).2 (Zi tm s).1.1).1,H3):=z1;have z2:MRes R H3 t (.ptr o 0) (K (ZM (Zi tm s).2.1 (ZO (Zi tm s).2.1 (Zi tm s).2.2 (Zi tm s).1.1 (Ye L p l)).2 (Zi tm s).1.1).2.1) (ZM (Zi tm s).2.1 (ZO (Zi tm s).2.1 (Zi tm s).2.2 (Zi tm s).1.1 (Ye L p l)).2 (Zi tm s).1.1).2.2 A2 A3:=z2;rw[Iu];unfold CK QE;by_cases e1:(Zi tm s).1.2≠0
 ·rw[if_pos e1];have S:((Zi tm s).1.2 != 0)=Y:=by simpa using e1
  refine⟨H1,A1,?_,(MRes.pre u B)⟩;simp only[Yn,go_sem,w,j,Uy,N,zB,zC,S]
 ·rw[if_neg e1];have S:((Zi tm s).1.2 != 0)=X:=by simpa using e1
  by_cases e2:(ZO (Zi tm s).2.1 (Zi tm s).2.2 (Zi tm s).1.1 (Ye L p l)).1≠0
  ·rw[if_pos e2];have b2:((ZO (Zi tm s).2.1 (Zi tm s).2.2 (Zi tm s).1.1 (Ye L p l)).1 != 0)=Y:=by simpa using e2
   refine⟨R,A2,?_,(MRes.pre u (B.trans P))⟩;simp only[Yn,go_sem,w,j,Uy,N,zB,zC,S,Ku,Bm E,Km F,q1,Z,b2]
  ·rw[if_neg e2];have b2:((ZO (Zi tm s).2.1 (Zi tm s).2.2 (Zi tm s).1.1 (Ye L p l)).1 != 0)=X:=by simpa using e2
   by_cases e3:(ZM (Zi tm s).2.1 (ZO (Zi tm s).2.1 (Zi tm s).2.2 (Zi tm s).1.1 (Ye L p l)).2 (Zi tm s).1.1).1≠0
   ·rw[if_pos e3];have b3:((ZM (Zi tm s).2.1 (ZO (Zi tm s).2.1 (Zi tm s).2.2 (Zi tm s).1.1 (Ye L p l)).2 (Zi tm s).1.1).1 != 0)=Y:=by simpa using e3
    refine⟨H3,A3,?_,MRes.pre u ((B.trans P).trans z2)⟩;simp only[Yn,go_sem,w,j,Uy,N,zB,zC,S,Ku,Bm E,Km F,q1,Z,b2,Rs,z1,b3]
   ·rw[if_neg e3];have b3:((ZM (Zi tm s).2.1 (ZO (Zi tm s).2.1 (Zi tm s).2.2 (Zi tm s).1.1 (Ye L p l)).2 (Zi tm s).1.1).1 != 0)=X:=by simpa using e3
    refine⟨H3,A3,?_,MRes.pre u ((B.trans P).trans z2)⟩;simp only[Yn,go_sem,w,j,Uy,N,zB,zC,S,Ku,Bm E,Km F,q1,Z,b2,Rs,z1,b3,Au]
theorem ZAm {H:Hp}{t o k:Nat}{tm:Tmp}{s:Sto}{A:dv}(h:RMAt H t (.ptr o 0) (K tm) s A k)(hm:TInv tm k)(hs:ROk s)(hk:k<40){a q x:AV}{L:Loc}{p:Spec}{l:List ZW}(M:LocAV a L)(ad:LocOk L)(hq:SpecAV q p)(ac:∀ k∈p.keys,KeOk k)(hx:SS x l)(hL:XK l)(hl:O l<=1048576)
 (G:Yo (Ye L p l)<=1048576) (aa:∀ s∈Ye L p l,O s<=5000) :
 ∃ H' A',OG [.ptr o 0,a,q,x] H=K (.tuple [.str (QE tm s (Ye L p l)).1.1,Q J (QE tm s (Ye L p l)).1.2],H')/\RMRes H H' t (.ptr o 0) (K (QE tm s (Ye L p l)).2.1) (QE tm s (Ye L p l)).2.2 A A' (k+3):=by
 have ab:=M;have ae:=hq;obtain⟨D,lc,le,rfl,ai,ag,ah⟩:=M;obtain⟨xp,rfl,aj⟩:=hq;have j:∀ c,Y5 (.pointer c) .eql (.ptr o 0) .nilp=K (.bool X):=λ_=>rfl;have C:=h.lt;have g1:(H++[zA (L.cells D lc le),.cells (p.cells xp)])[O H]?=K (.cells (L.cells D lc le)):=dh
 have g2:(H++[zA (L.cells D lc le),.cells (p.cells xp)])[O H+1]?=K (.cells (p.cells xp)):=dh
 have u:Stp A H (H++[zA (L.cells D lc le),.cells (p.cells xp)]):=Stp.push _ _;have z:=h.frame (H':=H++[zA (L.cells D lc le),.cells (p.cells xp)]) λa M=>zG (C a M);have w:ZY (.agg (p.cells xp)) (H++[zA (L.cells D lc le)])=K (.ptr (O H+1) 0,H++[zA (L.cells D lc le),.cells (p.cells xp)]):=by rw[Yn];simp
 generalize af:H++[zA (L.cells D lc le),.cells (p.cells xp)]=H0 at g1 g2 u z w;have T:∀ i,O H<=i->i∉A:=λi hi M=>by have:=C i M;omega
 obtain⟨H1,A1,N,B⟩:=ZAF z (WR hm) hs b5;have N:Vx [.ptr o 0] H0=K (.tuple [.str (Zi tm s).1.1,Q J (Zi tm s).1.2],H1):=N;have B:RMRes H0 H1 t (.ptr o 0) (K (Zi tm s).2.1) (Zi tm s).2.2 A A1 (k+1):=B;have h1:=Zgh hm b5 s;have r1:=Zgi (tm:=tm) hs;have E:=B.stp.get g1 (T _ (zK _));have F:=B.stp.get g2 (T _ b5);obtain⟨y,q1,q2⟩:=Zs0 ab ad ae ac hx hL hl H1;obtain⟨R,A2,Z,P⟩:=Zzc B.at' (WR h1) r1 b5 (Zi tm s).1.1 q2 (λs hs=>by have:=aa s hs;omega) G;have Z:WO [.ptr o 0,.str (Zi tm s).1.1,y] H1=K (Q J (ZO (Zi tm s).2.1 (Zi tm s).2.2 (Zi tm s).1.1 (Ye L p l)).1,R):=Z;have P:RMRes H1 R t (.ptr o 0) (K (Zi tm s).2.1) (ZO (Zi tm s).2.1 (Zi tm s).2.2 (Zi tm s).1.1 (Ye L p l)).2 A1 A2 (k+2):=P;have r2:=kV (tm:=(Zi tm s).2.1) r1 (Zi tm s).1.1 (Ye L p l);obtain⟨H3,A3,z1,z2⟩:=ZAe P.at' (WR h1.up) r2 b5 (Zi tm s).1.1;have z1:V6 [.ptr o 0,.str (Zi tm s).1.1] R=K (Q J (ZM (Zi tm s).2.1 (ZO (Zi tm s).2.1 (Zi tm s).2.2 (Zi tm s).1.1 (Ye L p l)).2 (Zi tm s).1.1).1,H3):=z1;have z2:RMRes R H3 t (.ptr o 0) (K (ZM (Zi tm s).2.1 (ZO (Zi tm s).2.1 (Zi tm s).2.2 (Zi tm s).1.1 (Ye L p l)).2 (Zi tm s).1.1).2.1) (ZM (Zi tm s).2.1 (ZO (Zi tm s).2.1 (Zi tm s).2.2 (Zi tm s).1.1 (Ye L p l)).2 (Zi tm s).1.1).2.2 A2 A3 (k+3):=z2;rw[Zje];unfold ZdP QE;by_cases e1:(Zi tm s).1.2≠0
 ·rw[if_pos e1];have S:((Zi tm s).1.2 != 0)=Y:=by simpa using e1
  refine⟨H1,A1,?_,(RMRes.pre u B).up.up⟩;simp only[Yn,go_sem,w,j,Gv,N,zB,zC,S]
 ·rw[if_neg e1];have S:((Zi tm s).1.2 != 0)=X:=by simpa using e1
  by_cases e2:(ZO (Zi tm s).2.1 (Zi tm s).2.2 (Zi tm s).1.1 (Ye L p l)).1≠0
  ·rw[if_pos e2];have b2:((ZO (Zi tm s).2.1 (Zi tm s).2.2 (Zi tm s).1.1 (Ye L p l)).1 != 0)=Y:=by simpa using e2
   refine⟨R,A2,?_,(RMRes.pre u (B.trans P)).up⟩;simp only[Yn,go_sem,w,j,Gv,N,zB,zC,S,P1,Bm E,Km F,q1,Z,b2]
  ·rw[if_neg e2];have b2:((ZO (Zi tm s).2.1 (Zi tm s).2.2 (Zi tm s).1.1 (Ye L p l)).1 != 0)=X:=by simpa using e2
   by_cases e3:(ZM (Zi tm s).2.1 (ZO (Zi tm s).2.1 (Zi tm s).2.2 (Zi tm s).1.1 (Ye L p l)).2 (Zi tm s).1.1).1≠0
   ·rw[if_pos e3];have b3:((ZM (Zi tm s).2.1 (ZO (Zi tm s).2.1 (Zi tm s).2.2 (Zi tm s).1.1 (Ye L p l)).2 (Zi tm s).1.1).1 != 0)=Y:=by simpa using e3
    refine⟨H3,A3,?_,RMRes.pre u ((B.trans P).trans z2)⟩;simp only[Yn,go_sem,w,j,Gv,N,zB,zC,S,P1,Bm E,Km F,q1,Z,b2,IM,z1,b3]
   ·rw[if_neg e3];have b3:((ZM (Zi tm s).2.1 (ZO (Zi tm s).2.1 (Zi tm s).2.2 (Zi tm s).1.1 (Ye L p l)).2 (Zi tm s).1.1).1 != 0)=X:=by simpa using e3
    refine⟨H3,A3,?_,RMRes.pre u ((B.trans P).trans z2)⟩;simp only[Yn,go_sem,w,j,Gv,N,zB,zC,S,P1,Bm E,Km F,q1,Z,b2,IM,z1,b3,Zhp]
theorem Zs8 {x:AV}{l:List ZW}(P:SS x l)(hl:O l<=1048576)(T:XK l)(S H:Hp):∀ (r d:List ZW) (n:Int),l=d++r->(∀ s∈d,O s<=5000)->O d<=12->0<=n->n<=(O d:Int)*5000 ->
 ∃ b,Tr x (Q J n) (Q J (O d:Int)) S H=K (.bool b,H)/\(b=Y->O l<=12/\∀ s∈l,O s<=5000):=by
 have N:=SS.len P 9;intro r
 induction r with
 |nil =>
  intro d n w u z E F;rw[List.append_nil]at w;subst w;have y:decide ((O l:Int)<(O l:Int))=X:=dh
  rw[IA];simp only[go_sem,N,y,ZgD];exact⟨_,rfl,λ_=>⟨z,u⟩⟩
 |cons s r Z =>
  intro d n w u z E F;have M:O l=O d+(O r+1):=by rw[w];simp
  have y:decide ((O d:Int)<(O l:Int))=Y:=by rw[decide_eq_true_eq];omega
  have G:IntKind.i64.wrap ((O d:Int)+1)=((O d+1:Nat):Int):=by rw[Zl b5 b5];omega
  have D:l[O d]?=K s:=by rw[w,zH (zK _)];simp
  have j:=SS.idx P D;have hs:=T s (by rw[w];simp);rw[IA];simp only[go_sem,N,y,ZgE];by_cases h2:12<=O d
  ·have B:decide ((12:Int)<=(O d:Int))=Y:=by rw[decide_eq_true_eq];omega
   simp only[B,go_sem];exact⟨X,rfl,λh=>by cases h⟩
  ·have B:decide ((12:Int)<=(O d:Int))=X:=by rw[decide_eq_false_iff_not];omega
   simp only[B,go_sem,j,ZE];by_cases h5:5000<O s
   ·have C:decide ((5000:Int)<(O s:Int))=Y:=by rw[decide_eq_true_eq];omega
    simp only[C,go_sem];exact⟨X,rfl,λh=>by cases h⟩
   ·have C:decide ((5000:Int)<(O s:Int))=X:=by rw[decide_eq_false_iff_not];omega
    have L:IntKind.i64.wrap (n+(O s:Int))=n+(O s:Int):=Zl b5 b5;obtain⟨b,R,m2⟩:=Z (d++[s]) (n+(O s:Int)) (by rw[w];simp) (λa A=>by rcases List.mem_append.1 A with A|A;exact u a A;rw[List.mem_singleton.1 A];omega) (by simp;omega) b5 (by simp;omega);rw[List.length_append,List.length_singleton]at R;refine⟨b,?_,m2⟩;simp only[C,go_sem,ZgG,j,ZE,L,ZgF,G];exact R
theorem Zs7 {x:AV}{l:List ZW}(u:SS x l)(j:O l<=1048576)(h:XK l)(H:Hp):∃ b,Ze OD [x] H=K (.bool b,H)/\(b=Y->O l<=12/\∀ s∈l,O s<=5000):=by
 obtain⟨A,w,k2⟩:=SS.closed u [] 0 7;obtain⟨b,y,z⟩:=Zs8 k2 j h [] [] l [] 0 rfl dh dh b5 dh;refine⟨b,YG w (H1:=[]) ?_ rfl,z⟩;rw[Zj1];unfold ZdD;exact y
theorem Zrf {q:AV}{p:Spec}(y:SpecAV q p)(H:Hp):∃ b,Ze OB [q] H=K (.bool b,H):=by
 obtain⟨A,j,u⟩:=y.close [] 0 5;obtain⟨xp,rfl,h⟩:=u;have w:=Sl.len h 142;refine⟨decide (((p.keys.map Ke.av).length:Int)<=4),YG j (H1:=[.cells (p.cells xp)]) ?_ rfl⟩;have g:([zA (p.cells xp)]:Hp)[0]?=K (.cells (p.cells xp)):=rfl;have z:=ZZ g 0 (v:=xp) rfl;rw[ZiZ];unfold ZdB;simp only[Yn,go_sem,List.nil_append,List.length_nil,zD,z,w]
abbrev WS (R:aJ):du:=[.str R.1,.bool R.2.1,Q J R.2.2]
theorem Ziw {H:Hp}{o:Nat}{l:du}(h:H[o]?=K (.cells l))(j:O l=3)(R:aJ) :
 Zg 3 (.ptr o 0) (.agg (WS R)) H=K (.tuple [],H.set o (.cells (WS R)))/\Z4 Y 3 (.ptr o 0) (H.set o (.cells (WS R)))=K (.agg (WS R)):=by
 constructor
 ·rw[Uc (v:=.agg (WS R)) (sz:=3) h rfl rfl b5];congr 3;obtain⟨a,b,c,rfl⟩:∃ a b c,l=[a,b,c]:=match l,j with|[a,b,c],_=>⟨a,b,c,rfl⟩
  rfl
 ·rw[Wg (Zu _ h)];simp[Go.Am.apart]
structure Wst where
 tm:Tmp
 s:Sto
 q:Rp
def IS (n:Zj)(c:Cw)(w:Wst):Wst×aJ :=
 if c.op=0 then (⟨w.tm,(YY w.tm w.s n w.q).1.2,(YY w.tm w.s n w.q).1.1⟩,(YY w.tm w.s n w.q).2)
 else if c.op=1 then (⟨w.tm,(Vk w.tm w.s n w.q).1.2,(Vk w.tm w.s n w.q).1.1⟩,(Vk w.tm w.s n w.q).2)
 else if c.op=2 then (⟨w.tm,w.s.fail c.n,w.q⟩,([],X,0))
 else if c.op=3 then (⟨w.tm,w.s.restart c.kept,w.q⟩,([],X,0))
 else if c.op=4 then (⟨(ZU w.tm w.s n).2.1,(ZU w.tm w.s n).2.2,w.q⟩,([],X,(ZU w.tm w.s n).1))
 else (w,([],X,0))
structure WI (w:Wst)(k:Nat):Prop where
 tm:TInv w.tm k
 s:ROk w.s
 pos:0<=w.q.pos/\w.q.pos<=(k:Int)*4102
theorem ZyF {n:Zj}{c:Cw}(A:ZiX c){w:Wst}{k:Nat}(h:WI w k)(B:k<48):WI (IS n c w).1 (k+1):=by
 have e:((k+1:Nat):Int)*4102=(k:Int)*4102+4102:=b5
 have j:0<=w.q.pos/\w.q.pos<=((k+1:Nat):Int)*4102:=by rw[e];exact⟨h.pos.1,by have:=h.pos.2;omega⟩
 unfold IS;split
 ·obtain⟨u,y,z⟩:=ZkR (tm:=w.tm) (n:=n) h.s h.pos;exact⟨h.tm.up,u,y,by rw[e];exact z⟩
 ·split
  ·obtain⟨u,y,z⟩:=Zue (tm:=w.tm) (n:=n) h.s h.pos;exact⟨h.tm.up,u,y,by rw[e];exact z⟩
  ·split
   ·exact⟨h.tm.up,ZmZ h.s _ A,j⟩
   ·split
    ·exact⟨h.tm.up,Zpf h.s _,j⟩
    ·split
     ·exact⟨Zpo h.tm w.s n,ZAb h.s n,j⟩
     ·exact⟨h.tm.up,h.s,j⟩
theorem Zm1 {H B j:Hp}{t r:Nat}{p:AV}{tm':Tmp}{s':Sto}{A A3:dv}{l:du}(y:∀ a∈A,a<O H)(S:r<O H)(M:O B=O H+2)(G:Stp [] H B)(E:B[O H+1]?=K (.cells l))(F:O l=3)
 (w:WRes B j t p tm' s' A A3 r) (R:aJ) :
 Zg 3 (.ptr (O H+1) 0) (.agg (WS R)) j=K (.tuple [],j.set (O H+1) (.cells (WS R)))/\Z4 Y 3 (.ptr (O H+1) 0) (j.set (O H+1) (.cells (WS R)))=K (.agg (WS R))/\WRes H (j.set (O H+1) (.cells (WS R))) t p tm' s' A A3 r/\(j.set (O H+1) (.cells (WS R)))[r]?=j[r]?:=by
 have P:O H+1∉r::A:=λL=>by
  rcases zL.1 L with h|h
  ·omega
  ·have:=y _ h;omega
 obtain⟨C,D⟩:=Ziw (w.stp.get E P) F R;have T:=w.stp.len;refine⟨C,D,⟨w.at'.frame λa u=>zF (λe=>?_),⟨by simp;omega,λa u N=>?_⟩,λa u=>?_⟩,zF b5⟩
 ·rcases w.own a u with z|z
  ·have:=y a z;omega
  ·omega
 ·rw[zF b5,w.stp.at' a b5 N,G.at' a u dh]
 ·rcases w.own a u with z|z
  ·exact .inl z
  ·exact .inr b5
theorem wdo {H:Hp}{t o r k:Nat}{A:dv}{n:Zj}{w:Wst}(h:MAt H t (.ptr o 0) (K w.tm) w.s A)(M:WI w k)(hk:k<48)(hr:RAt H r o n w.q)(E:r∉A)(c:Cw) :
 ∃ H' A',ZeM [.ptr t 0,.ptr o 0,.ptr r 0,.str n,.agg c.cells] H=K (.agg (WS (IS n c w).2),H')/\WRes H H' t (.ptr o 0) (IS n c w).1.tm (IS n c w).1.s A A' r/\RAt H' r o n (IS n c w).1.q:=by
 have P:0<=w.q.pos/\w.q.pos<=1000000:=⟨M.pos.1,by have:=M.pos.2;omega⟩;have j:=h.lt;have F:=hr.lt;have z:ZY (.agg c.cells) H=K (.ptr (O H) 0,H++[.cells c.cells]):=rfl;have B:(H++[zA c.cells]).length=O H+1:=dh
 have g0:(H++[zA c.cells]++[zA [(.str []),(.bool X),(Q J 0)]])[O H]?=K (.cells c.cells):=dh
 have g1:(H++[zA c.cells]++[zA [(.str []),(.bool X),(Q J 0)]])[O H+1]?=K (.cells [(.str []),(.bool X),(Q J 0)]):=by rw[zH dh];simp
 have fr:∀ a,a<O H->(H++[zA c.cells]++[zA [(.str []),(.bool X),(Q J 0)]])[a]?=H[a]?:=λa y=>by rw[zJ,zG y]
 have D:(H++[zA c.cells]++[zA [(.str []),(.bool X),(Q J 0)]]).length=O H+2:=dh
 have hS:Stp [] H (H++[zA c.cells]++[zA [(.str []),(.bool X),(Q J 0)]]):=⟨dh,λa y _=>fr a y⟩;have hM:=h.frame (H':=H++[zA c.cells]++[zA [(.str []),(.bool X),(Q J 0)]]) λa y=>fr a (j a y);have hR:=hr.frame (H':=H++[zA c.cells]++[zA [(.str []),(.bool X),(Q J 0)]]) (fr r F);generalize u:H++[zA c.cells]++[zA [(.str []),(.bool X),(Q J 0)]]=H2 at g0 g1 fr D hS hM hR;have G:=ZZ g0 0 (v:=Q J c.op) rfl;have l1:=ZZ g0 1 (v:=Q J c.n) rfl;have l2:=ZZ g0 2 (v:=.int .u64 (c.kept:Int)) rfl;have fb:∀ R:aJ,(Yb [(0,1,.str R.1),(1,1,.bool R.2.1),(2,1,Q J R.2.2)] [(.str []),(.bool X),(Q J 0)]).map zM=K (.agg (WS R)):=λ_=>rfl;have fe:∀ e:Int,(Yb [(2,1,Q J e)] [(.str []),(.bool X),(Q J 0)]).map zM=K (.agg (WS ([],X,e))):=λ_=>rfl
 have j1:∀ {tm':Tmp} {s':Sto} {C:Hp} {A3:dv},WRes H2 C t (.ptr o 0) tm' s' A A3 r->RAt C r o n w.q->∃ H',MS (.ptr (O H+1) 0) H C=K (.agg (WS ([],X,0)),H')/\WRes H H' t (.ptr o 0) tm' s' A A3 r/\RAt H' r o n w.q:=λ{tm' s' C A3} hw hr3=>by
  obtain⟨s1,s2,s3,s4⟩:=Zm1 j F D hS g1 rfl hw ([],X,0);refine⟨_,?_,s3,hr3.frame s4⟩;rw[Zmc];simp only[go_sem,s1,s2]
 rw[Zo7];unfold Zm4 IS;by_cases h0:c.op=0
 ·rw[if_pos h0];rw[h0]at G;obtain⟨C,A3,q1,L,q3⟩:=Zyb hM (WR M.tm) M.s hk hR E P;obtain⟨s1,s2,s3,s4⟩:=Zm1 j F D hS g1 rfl L (YY w.tm w.s n w.q).2;refine⟨_,A3,?_,s3,q3.frame s4⟩;simp only[z,go_sem,B,u,zD,G,zE,q1,zB,zC,fb,s1,s2]
 rw[if_neg h0];have b0:(c.op==0)=X:=by simpa using h0
 by_cases h1:c.op=1
 ·rw[if_pos h1];rw[h1]at G;obtain⟨C,A3,q1,L,q3⟩:=ZAL hM (WR M.tm) M.s hk hR E P;obtain⟨s1,s2,s3,s4⟩:=Zm1 j F D hS g1 rfl L (Vk w.tm w.s n w.q).2;refine⟨_,A3,?_,s3,q3.frame s4⟩;simp only[z,go_sem,B,u,zD,G,zE,q1,zB,zC,fb,s1,s2]
 rw[if_neg h1];have b1:(c.op==1)=X:=by simpa using h1
 obtain⟨S,Z,T⟩:=hM.store';by_cases h2:c.op=2
 ·rw[if_pos h2];rw[h2]at G;obtain⟨C,r1,r2⟩:=Zmb Z c.n;obtain⟨A3,N⟩:=T r2;obtain⟨H',k1,k2,k3⟩:=j1 ⟨N.at',N.stp.mono λa y=>by simp[y],N.own⟩ (hR.frame (N.stp.at' r b5 E));exact⟨H',A3,by simp only[z,go_sem,B,u,zD,G,l1,zE,r1];exact k1,k2,k3⟩
 rw[if_neg h2];have b2:(c.op==2)=X:=by simpa using h2
 by_cases h3:c.op=3
 ·rw[if_pos h3];rw[h3]at G;obtain⟨C,S3,r1,r2,_⟩:=Zoa Z M.s.sto c.kept;obtain⟨A3,N⟩:=T r2;obtain⟨H',k1,k2,k3⟩:=j1 ⟨N.at',N.stp.mono λa y=>by simp[y],N.own⟩ (hR.frame (N.stp.at' r b5 E));exact⟨H',A3,by simp only[z,go_sem,B,u,zD,G,l2,zE,r1];exact k1,k2,k3⟩
 rw[if_neg h3];have b3:(c.op==3)=X:=by simpa using h3
 by_cases h4:c.op=4
 ·rw[if_pos h4];rw[h4]at G;obtain⟨C,A3,q1,L⟩:=ZyX hM (WR M.tm) M.s hk n;have q1:YM [.ptr o 0,.str n] H2=K (Q J (ZU w.tm w.s n).1,C):=q1;have L:MRes H2 C t (.ptr o 0) (K (ZU w.tm w.s n).2.1) (ZU w.tm w.s n).2.2 A A3:=L;obtain⟨s1,s2,s3,s4⟩:=Zm1 j F D hS g1 rfl (⟨L.at',L.stp.mono λa y=>by simp[y],L.own⟩:WRes H2 C t (.ptr o 0) (ZU w.tm w.s n).2.1 (ZU w.tm w.s n).2.2 A A3 r) ([],X,(ZU w.tm w.s n).1);refine⟨_,A3,?_,s3,(hR.frame (L.stp.at' r b5 E)).frame s4⟩;simp only[z,go_sem,B,u,zD,G,zE,q1,fe,s1,s2]
 rw[if_neg h4];have b4:(c.op==4)=X:=by simpa using h4
 obtain⟨H',k1,k2,k3⟩:=j1 (tm':=w.tm) (s':=w.s) (A3:=A) ⟨hM,Stp.refl _ _,λa y=>.inl y⟩ hR;exact⟨H',A,by simp only[z,go_sem,B,u,zD,G,b0,b1,b2,b3,b4];exact k1,k2,k3⟩
theorem Zm0 {H B j:Hp}{t r k:Nat}{p:AV}{tm':Tmp}{s':Sto}{A A3:dv}{l:du}(y:∀ a∈A,a<O H)(S:r<O H)(M:O B=O H+2)(G:Stp [] H B)(E:B[O H+1]?=K (.cells l))(F:O l=3)
 (w:VRes B j t p tm' s' A A3 r k) (R:aJ) :
 Zg 3 (.ptr (O H+1) 0) (.agg (WS R)) j=K (.tuple [],j.set (O H+1) (.cells (WS R)))/\Z4 Y 3 (.ptr (O H+1) 0) (j.set (O H+1) (.cells (WS R)))=K (.agg (WS R))/\VRes H (j.set (O H+1) (.cells (WS R))) t p tm' s' A A3 r k/\(j.set (O H+1) (.cells (WS R)))[r]?=j[r]?:=by
 have P:O H+1∉r::A:=λL=>by
  rcases zL.1 L with h|h
  ·omega
  ·have:=y _ h;omega
 obtain⟨C,D⟩:=Ziw (w.stp.get E P) F R;have T:=w.stp.len;refine⟨C,D,⟨w.at'.frame λa u=>zF (λe=>?_),⟨by simp;omega,λa u N=>?_⟩,λa u=>?_⟩,zF b5⟩
 ·rcases w.own a u with z|z
  ·have:=y a z;omega
  ·omega
 ·rw[zF b5,w.stp.at' a b5 N,G.at' a u dh]
 ·rcases w.own a u with z|z
  ·exact .inl z
  ·exact .inr b5
theorem vdo {H:Hp}{t o r k:Nat}{A:dv}{n:Zj}{w:Wst}(h:RMAt H t (.ptr o 0) (K w.tm) w.s A k)(M:WI w k)(hk:k<48)(hr:RBt H r o n w.q)(E:r∉A)(c:Cw) :
 ∃ H' A',OC [.ptr t 0,.ptr o 0,.ptr r 0,.str n,.agg c.cells] H=K (.agg (WS (IS n c w).2),H')/\VRes H H' t (.ptr o 0) (IS n c w).1.tm (IS n c w).1.s A A' r (k+1)/\RBt H' r o n (IS n c w).1.q:=by
 have P:0<=w.q.pos/\w.q.pos<=1000000:=⟨M.pos.1,by have:=M.pos.2;omega⟩;have j:=h.lt;have F:=hr.lt;have z:ZY (.agg c.cells) H=K (.ptr (O H) 0,H++[.cells c.cells]):=rfl;have B:(H++[zA c.cells]).length=O H+1:=dh
 have g0:(H++[zA c.cells]++[zA [(.str []),(.bool X),(Q J 0)]])[O H]?=K (.cells c.cells):=dh
 have g1:(H++[zA c.cells]++[zA [(.str []),(.bool X),(Q J 0)]])[O H+1]?=K (.cells [(.str []),(.bool X),(Q J 0)]):=by rw[zH dh];simp
 have fr:∀ a,a<O H->(H++[zA c.cells]++[zA [(.str []),(.bool X),(Q J 0)]])[a]?=H[a]?:=λa y=>by rw[zJ,zG y]
 have D:(H++[zA c.cells]++[zA [(.str []),(.bool X),(Q J 0)]]).length=O H+2:=dh
 have hS:Stp [] H (H++[zA c.cells]++[zA [(.str []),(.bool X),(Q J 0)]]):=⟨dh,λa y _=>fr a y⟩;have hM:=h.frame (H':=H++[zA c.cells]++[zA [(.str []),(.bool X),(Q J 0)]]) λa y=>fr a (j a y);have hR:=hr.frame (H':=H++[zA c.cells]++[zA [(.str []),(.bool X),(Q J 0)]]) (fr r F);generalize u:H++[zA c.cells]++[zA [(.str []),(.bool X),(Q J 0)]]=H2 at g0 g1 fr D hS hM hR;have G:=ZZ g0 0 (v:=Q J c.op) rfl;have l1:=ZZ g0 1 (v:=Q J c.n) rfl;have l2:=ZZ g0 2 (v:=.int .u64 (c.kept:Int)) rfl;have fb:∀ R:aJ,(Yb [(0,1,.str R.1),(1,1,.bool R.2.1),(2,1,Q J R.2.2)] [(.str []),(.bool X),(Q J 0)]).map zM=K (.agg (WS R)):=λ_=>rfl;have fe:∀ e:Int,(Yb [(2,1,Q J e)] [(.str []),(.bool X),(Q J 0)]).map zM=K (.agg (WS ([],X,e))):=λ_=>rfl
 have j1:∀ {tm':Tmp} {s':Sto} {C:Hp} {A3:dv},VRes H2 C t (.ptr o 0) tm' s' A A3 r (k+1)->RBt C r o n w.q->∃ H',GZ (.ptr (O H+1) 0) H C=K (.agg (WS ([],X,0)),H')/\VRes H H' t (.ptr o 0) tm' s' A A3 r (k+1)/\RBt H' r o n w.q:=λ{tm' s' C A3} hw hr3=>by
  obtain⟨s1,s2,s3,s4⟩:=Zm0 j F D hS g1 rfl hw ([],X,0);refine⟨_,?_,s3,hr3.frame s4⟩;rw[ZgC];simp only[go_sem,s1,s2]
 rw[Zj0];unfold ZdC IS;by_cases h0:c.op=0
 ·rw[if_pos h0];rw[h0]at G;obtain⟨C,A3,q1,L,q3⟩:=Zy9 hM (WR M.tm) M.s hk hR E P;obtain⟨s1,s2,s3,s4⟩:=Zm0 j F D hS g1 rfl L (YY w.tm w.s n w.q).2;refine⟨_,A3,?_,s3,q3.frame s4⟩;simp only[z,go_sem,B,u,zD,G,zE,q1,zB,zC,fb,s1,s2]
 rw[if_neg h0];have b0:(c.op==0)=X:=by simpa using h0
 by_cases h1:c.op=1
 ·rw[if_pos h1];rw[h1]at G;obtain⟨C,A3,q1,L,q3⟩:=ZAJ hM (WR M.tm) M.s hk hR E P;obtain⟨s1,s2,s3,s4⟩:=Zm0 j F D hS g1 rfl L (Vk w.tm w.s n w.q).2;refine⟨_,A3,?_,s3,q3.frame s4⟩;simp only[z,go_sem,B,u,zD,G,zE,q1,zB,zC,fb,s1,s2]
 rw[if_neg h1];have b1:(c.op==1)=X:=by simpa using h1
 obtain⟨S,Z,_,T⟩:=hM.sto;by_cases h2:c.op=2
 ·rw[if_pos h2];rw[h2]at G;obtain⟨C,r1,r2⟩:=ZkU Z c.n;obtain⟨A3,N⟩:=T r2;obtain⟨H',k1,k2,k3⟩:=j1 ⟨N.at',N.stp.mono λa y=>by simp[y],N.own⟩ (hR.frame (N.stp.at' r b5 E));exact⟨H',A3,by simp only[z,go_sem,B,u,zD,G,l1,zE,r1];exact k1,k2,k3⟩
 rw[if_neg h2];have b2:(c.op==2)=X:=by simpa using h2
 by_cases h3:c.op=3
 ·rw[if_pos h3];rw[h3]at G;obtain⟨C,r1,r2⟩:=Znv Z M.s c.kept;obtain⟨A3,N⟩:=T r2;obtain⟨H',k1,k2,k3⟩:=j1 ⟨N.at',N.stp.mono λa y=>by simp[y],N.own⟩ (hR.frame (N.stp.at' r b5 E));exact⟨H',A3,by simp only[z,go_sem,B,u,zD,G,l2,zE,r1];exact k1,k2,k3⟩
 rw[if_neg h3];have b3:(c.op==3)=X:=by simpa using h3
 by_cases h4:c.op=4
 ·rw[if_pos h4];rw[h4]at G;obtain⟨C,A3,q1,L⟩:=Zxq hM (WR M.tm) M.s hk n;have q1:Wh [.ptr o 0,.str n] H2=K (Q J (ZU w.tm w.s n).1,C):=q1;have L:RMRes H2 C t (.ptr o 0) (K (ZU w.tm w.s n).2.1) (ZU w.tm w.s n).2.2 A A3 (k+1):=L;obtain⟨s1,s2,s3,s4⟩:=Zm0 j F D hS g1 rfl (⟨L.at',L.stp.mono λa y=>by simp[y],L.own⟩:VRes H2 C t (.ptr o 0) (ZU w.tm w.s n).2.1 (ZU w.tm w.s n).2.2 A A3 r (k+1)) ([],X,(ZU w.tm w.s n).1);refine⟨_,A3,?_,s3,(hR.frame (L.stp.at' r b5 E)).frame s4⟩;simp only[z,go_sem,B,u,zD,G,zE,q1,fe,s1,s2]
 rw[if_neg h4];have b4:(c.op==4)=X:=by simpa using h4
 obtain⟨H',k1,k2,k3⟩:=j1 (tm':=w.tm) (s':=w.s) (A3:=A) ⟨hM.up,Stp.refl _ _,λa y=>.inl y⟩ hR;exact⟨H',A,by simp only[z,go_sem,B,u,zD,G,b0,b1,b2,b3,b4];exact k1,k2,k3⟩
end Go.Am
