/- Lists of lists of strings -/
import Derived.Test.YtnaneekpogohaaaGreatDoorXeQcx
import Derived.Test.YtnaneekpogohaaaGreatDoorXeLax
import Derived.Test.YtnaneekpogohaaaGreatDoorXeSmx
open List renaming getElem?_set_ne->zA,getElem?_append_left->zC,getElem?_append_right->zD,mem_of_getElem?->zF,getElem?_eq_some_iff->zG,pairwise_cons->zH,append_nil->zI,length_nil->zJ,nil_append->zK,length_map->zM,length_singleton->zN,mapM_cons->zO,length_append->zP,mem_singleton->zQ,map_append->zU,length_set->zV,mem_cons->zX,mem_map->zZ
open Nat renaming le_refl->zE,le_trans->zR
open Bool renaming not_true->zL
open Option.some renaming inj->zW
open Go.Am.AObj renaming cells->zB,free->zY
open Go.Am.AV renaming str->zS,int->zT
namespace Go.Am
set_option linter.unusedSectionVars false
set_option maxRecDepth 100000
def CV:Option (Nat×Zg)->Int
 |none=>-1
 |some (k,_)=>(k:Int)
theorem OJ:CV none=-1:=rfl
theorem OK (k:Nat)(a:Zg):CV (some (k,a))=(k:Int):=rfl
theorem ZkG {α:Type}:∀ (g:List (List α)) (k:Nat) (a:α) (t:List α),g[k]?=some (a::t)->Yr (g.set k t)+1=Yr g:=by
 intro g
 induction g with
 |nil=>intro k a t h;simp at h
 |cons x g j =>
  intro k a t h
  cases k with
  |zero=>simp at h;subst h;simp[Yr];omega
  |succ k=>simp at h;have:=j k a t h;simp[Yr];omega
abbrev Zh4 (g:List (List Zg)):Prop:=∀ l∈g,Xg l
section
variable {K:AV->Prop}{f:Zg->Zg->Int}(hK:Fv K fun a b=>decide (0<f a b)){v:AV}(hv:K v)
include hK hv
theorem Zr1 {x:AV}{g:List (List Zg)}{H:Hp}(S:LL H x g)(O:Zh4 g)(hl:g.length<=1048576)(aa:∀ l∈g,l.length<=1048576)(J:Hp):∀ (r done:List (List Zg)) (b:Option (Nat×Zg)),g=done++r ->
 (∀ k a,b=some (k,a)->∃ t,g[k]?=some (a::t)) ->
 Jt x v (.int .i64 (CV b)) x (.int .i64 (g.length:Int)) (.int .i64 (done.length:Int)) J H=some (.int .i64 (CV (YO f r done.length b)),H):=by
 intro r
 induction r with
 |nil =>
  intro done b A B;rw[zI]at A;subst A;have z:decide ((g.length:Int)<(g.length:Int))=false:=by simp
  rw[TN];simp only[go_sem,z,ZbF];rfl
 |cons y r ih =>
  intro done b A B;have R:g.length=done.length+(r.length+1):=by rw[A];simp
  have z:decide ((done.length:Int)<(g.length:Int))=true:=by simp;omega
  have F:IntKind.i64.wrap ((done.length:Int)+1)=((done.length+1:Nat):Int):=by rw[Zr (by omega) (by omega)];omega
  have w:g[done.length]?=some y:=by rw[A,zD (zE _)];simp
  have E:y∈g:=zF w;obtain⟨q,U,g1,g2,M⟩:=S.get w
  have next:∀ b',(∀ k a,b'=some (k,a)->∃ t,g[k]?=some (a::t))->Jr x v (.int .i64 (CV b')) x (.int .i64 (g.length:Int)) (.int .i64 (done.length:Int)) J H=some (.int .i64 (CV (YO f r (done.length+1) b')),H):=fun b' D=>by
   have:=ih (done++[y]) b' (by rw[A];simp) D;rw[zP,zN]at this;rw[ZbH];simp only[go_sem,F,this]
  have hn:=SS.len M 9;rw[TN];simp only[go_sem,z,ZbG,g1,g2,hn]
  cases y with
  |nil =>
   have h0:decide ((0:Int)<((([]:List Zg).length:Nat):Int))=false:=rfl;simp only[h0,go_sem,Zaa];exact next b B
  |cons a t =>
   have N:decide ((0:Int)<(((a::t).length:Nat):Int))=true:=by simp
   have ha:a.length<=1048576:=O _ E a (by simp)
   have I:=next (some (done.length,a)) fun k a' e=>by
    injection e with e;injection e with V W;subst V W;exact⟨t,w⟩
   rw[OK]at I;have i0:Zn 1 U (.int .i64 0)=some (.vp [.str a]):=SS.idx M (i:=0) rfl
   cases b with
   |none =>
    rw[AG,OJ];have C:decide ((-1:Int)<0)=true:=rfl;simp only[N,C,go_sem];exact I
   |some p =>
    obtain⟨k,c⟩:=p;obtain⟨t',Q⟩:=B k c rfl;obtain⟨q',T,X,Y,Z⟩:=S.get Q;have hc:c.length<=1048576:=O _ (zF Q) c (by simp);have j0:Zn 1 T (.int .i64 0)=some (.vp [.str c]):=SS.idx Z (i:=0) rfl;have u:=hK.run v hv c a hc ha H;have C:decide ((k:Int)<0)=false:=by simp
    have no:=next (some (k,c)) B
    rw[N8];rw[OK]at no ⊢;simp only[N,C,go_sem,X,Y,j0,i0,ZE,u];by_cases j:0<f c a
    ·simp only[decide_eq_true j,go_sem,if_pos j];exact I
    ·simp only[decide_eq_false j,go_sem,if_neg j];exact no
theorem Zkj {x:AV}{g:List (List Zg)}{H:Hp}(u:LL H x g)(w:Zh4 g)(y:g.length<=1048576)(j:∀ l∈g,l.length<=1048576) :
 Kf [x,v] H=some (.int .i64 (CV (YO f g 0 none)),H):=by
 have h:=Zr1 hK hv u w y j H g [] none rfl (fun k a e=>by cases e);rw[zJ,show ((0:Nat):Int)=0 from rfl,OJ]at h;rw[Zcl];unfold Cx;simp only[go_sem,u.len,h]
theorem Zou {x3 x4:AV}(B:Hp){o:Nat}(ho:B.length<=o):∀ (n:Nat) (rest:List (List Zg)) (g:List Zg) (x R:AV) (H:Hp),Yr rest=n->Rst o H x rest->RowN (o+1) H 1 R (g.map zS)->Keep B.length B H->B.length<=H.length->Zh4 rest->rest.length<=1048576->g.length+n<=1048576 ->
 ∃ y H',Jq x3 x4 v x R (.int .i64 (CV (YO f rest 0 none))) B H=Jn x3 x4 y B H'/\SS y (g++XK f n rest)/\Keep B.length B H'/\B.length<=H'.length:=by
 intro n
 induction n with
 |zero =>
  intro rest g x R H ht S W J N X u Y;have D:=Zgl f rest [] none (fun k a e=>(by cases e)) (fun _ l u=>(by cases u));rw[zK,zJ]at D
  have A:YO f rest 0 none=none:=by
   cases F:YO f rest 0 none with
   |none=>rfl
   |some p =>
    obtain⟨k,a⟩:=p;obtain⟨t,J⟩:=D.1 k a F;have:=ZkG rest k a t J;omega
  refine⟨R,H,?_,by simpa[XK]using W.sl,J,N⟩;rw[TI,A,OJ];have V:decide ((0:Int)<=-1)=false:=rfl;simp only[go_sem,V]
 |succ n ih =>
  intro rest g x R H ht S W J N X u Y;have D:=Zgl f rest [] none (fun k a e=>(by cases e)) (fun _ l u=>(by cases u));rw[zK,zJ]at D
  cases F:YO f rest 0 none with
  |none =>
   have h0:=D.2 F;have:Yr rest=0:=by rw[<-LT,List.flatten_eq_nil_iff.2 h0];rfl
   omega
  |some p =>
   obtain⟨k,a⟩:=p;obtain⟨t,j⟩:=D.1 k a F;have M:k<rest.length:=(zG.1 j).1;have af:=ZkG rest k a t j;have w:(rest.getD k []).drop 1=t:=by rw[List.getD_eq_getElem?_getD,j];rfl
   have ab:o+1<=H.length:=by
    rcases S with ⟨rfl,_⟩|⟨e,es,_,h1,_⟩
    ·simp at M
    ·have:=(zG.1 h1).1;omega
   obtain⟨q,b,U,g2,g3⟩:=Rst.ll S |>.get j;obtain⟨y1,H1,q1,q2,q3,q4,_⟩:=W.app ab 16 (.vs 1 .clip [.str a]) [.str a] rfl (by simp;omega);have O:=S.keep q4;obtain⟨q',b',e1,e2,e3⟩:=O.get j;obtain⟨b2,s1,s2⟩:=SS.lo e3 (n:=1) (by simp);rw[show ((1:Nat):Int)=1 from rfl]at s1;simp only[List.drop_one,List.tail_cons]at s2;obtain⟨p',T,w1,w2,w3,w4,w5⟩:=O.put M s2
   have C:RowN (o+1) T 1 y1 ((g++[a]).map zS):=by
    rw[zU];rcases q2 with ⟨r1,r2⟩|⟨t',e',r1,r2,r3⟩
    ·exact .inl ⟨r1,r2⟩
    ·exact .inr ⟨t',e',r1,(w5 t' (by omega)).trans r2,r3⟩
   have Z:Keep B.length B T:=fun i hi=>(w5 i (by omega)).trans ((q4 i (by omega)).trans (J i hi))
   have E:Zh4 (rest.set k t):=fun l u s hs=>by
    rcases List.mem_or_eq_of_mem_set u with h|h
    ·exact X l h s hs
    ·subst h;exact X _ (zF j) s (by simp[hs])
   have I:∀ l∈rest.set k t,l.length<=1048576:=fun l u=>by
    have h3:∀ (Q:List (List Zg)),l∈Q->l.length<=Yr Q:=by
     intro Q
     induction Q with
     |nil=>intro h;cases h
     |cons z Q ae =>
      intro h;rcases zX.1 h with h|h
      ·subst h;simp[Yr]
      ·have:=ae h;simp[Yr];omega
    have:=h3 _ u;omega
   have aa:=Zkj hK hv w3.ll E (by rw[zV];exact u) I;obtain⟨y,H',m1,m2,m3,m4⟩:=ih (rest.set k t) (g++[a]) x y1 T (by omega) w3 C Z (by omega) E (by rw[zV];exact u) (by simp;omega);have ad:q'=q:=zW (e1.symm.trans U);have ac:p'=q:=zW (w1.symm.trans U);subst ad ac;refine⟨y,H',?_,?_,m3,m4⟩
   ·have V:decide ((0:Int)<=(k:Int))=true:=by simp
    have i0:Zn 1 b (.int .i64 0)=some (.vp [.str a]):=SS.idx g3 (i:=0) rfl;rw[TI,OK];simp only[go_sem,V,ZbD,U,g2,i0,ZE,PL,q1,e2,s1,w2,ZbE,aa];exact m1
   ·rw[K5 F,w];simpa using m2
end
section
variable {L:Loc}{p:Spec}(hv:ZI p=0)
include hv
theorem Zxm (l:List Zg):ZrR L p (ZJ L p l)=-1:=by
 obtain⟨w,y,_⟩:=Sw (L:=L) hv l
 have key:∀ (r:List Zg) (z:Zg) (i:Nat),Df (ZL L p) (z::r)->(p.uniq=true->Strict (ZL L p) (z::r))->ZgS L p i z r=-1:=by
  intro r
  induction r with
  |nil=>intro z i _ _;rfl
  |cons a r D =>
   intro z i j u;rw[ZkI];have E:=(zH.1 j).1 a (by simp);have A:decide (0<ZL L p z a)=false:=by simp;omega
   have B:(p.uniq&&ZL L p z a==0)=false:=by
    cases g:p.uniq with
    |false=>rfl
    |true =>
     have:=(zH.1 (u g)).1 a (by simp);simp;omega
   rw[A,B];exact D a (i+1) (zH.1 j).2 fun g=>(zH.1 (u g)).2
 unfold ZrR;rw[if_neg (by simp[hv])]
 cases C:ZJ L p l with
 |nil=>rfl
 |cons z r=>rw[C]at w y;exact key r z 1 w y
end
theorem Zqc {x:AV}{u:List (List Zg)}{H:Hp}(h:LL H x u)(B:u.length<=1048576):∃ y H',Wk false 1 24 (.vs 1 .clip []) x H=some (y,H')/\Rst H.length H' y u/\Keep H.length H H'/\H.length<=H'.length:=by
 obtain⟨w,z,g⟩:=h.elems
 have j:YD (([]:List AV).length+w.length) 24=true:=by
  have:=g.len;simp[YD];omega
 unfold Wk;rw[z];dsimp only;unfold VH;dsimp only;rw[if_pos ⟨rfl,j⟩];by_cases A:w=[]
 ·subst A;have:u=[]:=List.length_eq_zero_iff.1 (by rw[<-g.len];rfl);subst this;exact⟨_,_,rfl,.inl ⟨rfl,.inr rfl⟩,Keep.refl _ _,zE _⟩
 ·rw[if_neg A];refine⟨_,_,rfl,.inr ⟨0,w,?_,?_,g⟩,Keep.push H (zE _) _,by simp⟩
  ·rw[zJ,Nat.zero_add,g.len]
  ·rw[zK,g.flat];simp
theorem Zqd {x:AV}{g:List (List Zg)}{H:Hp}(h:LL H x g)(z:g.length<=1048576):∃ y H',XY [x] H=some (y,H')/\Rst H.length H' y g/\Keep H.length H H'/\H.length<=H'.length:=by
 have one:(ZA 1 [] []).map (AV.vs 1 .clip)=some (.vs 1 .clip []):=rfl;obtain⟨y,H',A,B,C,D⟩:=Zqc h z;rw[Gi];unfold Ua;by_cases w:x=.nils
 ·subst w;have e:Ys (.slice 29) .eql .nils .nils=some (.bool true):=rfl
  have u:g=[]:=by
   rcases h with ⟨h,_⟩|⟨t,j,h,_⟩|⟨o,e,j,h,_⟩
   ·exact h
   ·cases h
   ·cases h
  exact⟨.nils,H,by simp only[e,go_sem],.inl ⟨u,.inl rfl⟩,Keep.refl _ _,zE _⟩
 ·have e:Ys (.slice 29) .eql x .nils=some (.bool false):=by
   rcases h with ⟨_,h|h⟩|⟨t,j,h,_⟩|⟨o,e,j,h,_⟩
   ·exact absurd h w
   ·rw[h];rfl
   ·rw[h];rfl
   ·rw[h];rfl
  exact⟨y,H',by simp only[e,go_sem,G4,one,A],B,C,D⟩
theorem ZuS (g:List (List Zg)):∀ l∈g,l.length<=Yr g:=by
 induction g with
 |nil=>intro l h;cases h
 |cons z g j =>
  intro l h;rcases zX.1 h with h|h
  ·subst h;simp[Yr]
  ·have:=j l h;simp[Yr];omega
theorem ZtR {a:AV}{L:Loc}(h:LocAV a L)(D:LocOk L){q:AV}{p:Spec}(hq:SpecAV q p)(C:∀ k∈p.keys,KeOk k)(ah:ZI p=0){x:AV}{g:List (List Zg)}{B:Hp}(hx:LL B x g)(hL:Zh4 g)(ht:Yr g<=1048576)(R:g.length<=1048576) :
 ∃ y,Rg [a,q,x] B=some (y,B)/\SS y (T9 L p g):=by
 have ad:=fun H=>Gl hq H;obtain⟨lx,c,e,rfl,T,X,he⟩:=h;obtain⟨xp,rfl,U⟩:=hq;have g1:(B++[zB (L.cells lx c e),zB (p.cells xp)])[B.length]?=some (.cells (L.cells lx c e)):=by simp
 have g2:(B++[zB (L.cells lx c e),zB (p.cells xp)])[B.length+1]?=some (.cells (p.cells xp)):=by simp
 have S:Z3 true 5 (.ptr (B.length+1) 0) (B++[zB (L.cells lx c e),zB (p.cells xp)])=some (.agg (p.cells xp)):=by rw[YE g2];simp[Go.Am.apart,Spec.cells]
 generalize A:B++[zB (L.cells lx c e),zB (p.cells xp)]=j at g1 g2 S;have F:j.length=B.length+2:=by rw[<-A];simp
 have O:Keep B.length B j:=by rw[<-A];exact Keep.push B (zE _) _
 have g3:(j.set B.length .dead)[B.length+1]?=some (.cells (p.cells xp)):=by rw[zA (by omega)];exact g2
 have ae:∀ (k:AV->Hp->Z4),XG (.ptr B.length 0) j k=k (.vp (L.cells lx c e)) (j.set B.length .dead):=fun k=>IC g1 k;have u:∀ (k:AV->Hp->Z4),XG (.ptr (B.length+1) 0) (j.set B.length .dead) k=k (.vp (p.cells xp)) ((j.set B.length .dead).set (B.length+1) .dead):=fun k=>IC g3 k;generalize I:(j.set B.length .dead).set (B.length+1) .dead=H4 at u;have J:H4.length=B.length+2:=by rw[<-I];simp[F]
 have w:Keep B.length B H4:=fun i hi=>by rw[<-I,zA (by omega),zA (by omega)];exact O i hi
 have M:ClK 61 L p (.fn (.func 61) [] [.vp (L.cells lx c e),.vp (p.cells xp)]):=⟨_,_,rfl,⟨lx,c,e,rfl,T,X,he⟩,⟨xp,rfl,U⟩⟩;have ab:ClK 64 L p (.fn (.func 64) [] [.vp (L.cells lx c e),.vp (p.cells xp)]):=⟨_,_,rfl,⟨lx,c,e,rfl,T,X,he⟩,⟨xp,rfl,U⟩⟩;obtain⟨y1,H5,c1,c2,c3,c4⟩:=Zqd (hx.keep w) R;rw[J]at c2 c3 c4;have Q:Keep B.length B H5:=fun i hi=>(c3 i (by omega)).trans (w i hi);have af:=Zkj (Zig L D p C) M c2.ll hL R (fun l R=>by have:=ZuS g l R;omega);obtain⟨y2,Z,m1,m2,m3,m4⟩:=Zou (Zig L D p C) M (x3:=.vp (L.cells lx c e)) (x4:=.vp (p.cells xp)) B (o:=B.length+2) (by omega) (Yr g) g [] y1 .nils H5 rfl c2 (RowN.nil _ _ _) Q (by omega) hL R (by simpa using ht);rw[zK]at m2;have ag:Z7 3 (.vp (p.cells xp))=some (.vp [.bool p.uniq,.bool p.stab]):=rfl;have N:(ZI p != 0)=false:=by simp[ah]
 have ac:Xg (XK (ZL L p) (Yr g) g):=fun s hs=>by
  obtain⟨l,h1,h2⟩:=List.mem_flatten.1 (Zam _ _ _ s hs);exact hL l h1 s h2
 have ai:=Zih (ZL L p) (Yr g) g
 have E:∀ {y:AV} {l:List Zg},SS y l->∃ Y,Jo y B Z=some (Y,B)/\SS Y l:=fun {y l} hy=>by
  obtain⟨Y,V,W⟩:=ZtJ m3 m4 hy (fun c X=>by obtain⟨m,_,rfl⟩:=zZ.1 X;rfl);exact⟨Y,by rw[ZbC,V],W⟩
 have aa:∃ y,Jn (.vp (L.cells lx c e)) (.vp (p.cells xp)) y2 B Z=some (y,B)/\SS y (T9 L p g):=by
  unfold T9;rw[ZbB];simp only[go_sem,ag,ZE]
  cases hu:p.uniq with
  |true =>
   obtain⟨z,o1,o2⟩:=Zkt (Zr7 L D p C) ab m2 ac (by omega) Z;obtain⟨y,V,W⟩:=E o2;exact⟨y,by simp only[go_sem,o1,V],by simpa using W⟩
  |false =>
   obtain⟨y,V,W⟩:=E m2;exact⟨y,by simp only[go_sem,V],by simpa using W⟩
 obtain⟨y,j1,j2⟩:=aa;refine⟨y,?_,j2⟩;rw[Zck];unfold Cw;simp only[go_sem,Yf,zP,zN,List.append_assoc,List.singleton_append,A,S,ad,N,ZbA,ae,u,c1,af,m1,j1]
theorem ZzY {y:AV}{l:List Zg}(h:SS y l):(ZA 1 [(0,y)] [.nils]).map (AV.vs 1 .clip)=some (.vs 1 .clip [y]):=by
 rcases h with ⟨rfl,_⟩|⟨t,rfl⟩ <;> rfl
def Gst (o:Nat)(H:Hp)(x:AV)(g:List (List Zg)):Prop :=
 g=[]/\x=.nils/\H.length=o\/∃ e j,x=.ws false 1 o e g.length/\H[o]?=some (.row e j)/\EE j g
theorem Gst.app {o:Nat}{H:Hp}{x:AV}{z:List (List Zg)}(h:Gst o H x z){y:AV}{l:List Zg}(B:SS y l)(I:z.length+1<=1048576):∃ E H',Wk false 1 24 x (.vs 1 .clip [y]) H=some (E,H')/\Gst o H' E (z++[l])/\∀ j,j<o->H'[j]?=H[j]?:=by
 have A:elems 1 (.vs 1 .clip [y]) H=some [y]:=rfl;have u:([y].map AV.cells).flatten=[y]:=ZhX fun e w=>by rw[zQ.1 w];exact B.cell.1
 unfold Wk;rw[A];dsimp only;rcases h with ⟨rfl,rfl,rfl⟩|⟨e,F,rfl,D,w⟩
 ·have g:YD [y].length 24=true:=rfl;unfold VH;dsimp only;rw[if_neg (by simp),if_pos g,u];exact⟨_,_,rfl,.inr ⟨0,[y],rfl,by simp,EE.nil.app B⟩,fun j C=>zC C⟩
 ·have g:YD (z.length+[y].length) 24=true:=by simp[YD];omega
  unfold VH;dsimp only;rw[if_pos ⟨rfl,rfl,g⟩,if_neg (by simp),D];dsimp only;rw[if_pos ⟨rfl,by rw[w.len];omega⟩,u,Nat.mul_one,Zek,List.take_of_length_le (Nat.le_of_eq w.len)];exact⟨_,_,rfl,.inr ⟨e+1,F++[y],by simp,List.getElem?_set_self (zG.1 D).1,w.app B⟩,fun j C=>zA (by omega)⟩
theorem Ztc {x:AV}{l:List Zg}(I:SS x l)(U:l.length<=1048576)(S:Xg l)(J H:Hp):∀ (r d:List Zg),l=d++r->(∀ s∈d,s.length<=200)->∃ b,UD x (.int .i64 (d.length:Int)) J H=some (.bool b,H)/\(b=true->Zxy l):=by
 have z:=SS.len I 9;intro r
 induction r with
 |nil =>
  intro d w D;rw[zI]at w;subst w;have g:decide ((l.length:Int)<(l.length:Int))=false:=by simp
  refine⟨decide ((l.length:Int)<=40),?_,fun B=>⟨by rw[decide_eq_true_eq]at B;omega,D⟩⟩;rw[V6];simp only[go_sem,z,g,DQ]
 |cons s r R =>
  intro d w D;have F:l.length=d.length+(r.length+1):=by rw[w];simp
  have g:decide ((d.length:Int)<(l.length:Int))=true:=by rw[decide_eq_true_eq];omega
  have C:l[d.length]?=some s:=by rw[w,zD (zE _)];simp
  have u:=SS.idx I C;have E:IntKind.i64.wrap ((d.length:Int)+1)=((d++[s]).length:Int):=by rw[Zr (by omega) (by omega)];simp
  by_cases O:d.length<41
  ·have j:decide ((d.length:Int)<41)=true:=by rw[decide_eq_true_eq];omega
   by_cases T:200<s.length
   ·have A:decide ((200:Int)<(s.length:Int))=true:=by rw[decide_eq_true_eq];omega
    refine⟨false,?_,fun h=>by cases h⟩;rw[V6];simp only[go_sem,z,g,j,DR,u,ZE,A]
   ·have A:decide ((200:Int)<(s.length:Int))=false:=by rw[decide_eq_false_iff_not];omega
    obtain⟨b,M,N⟩:=R (d++[s]) (by rw[w];simp) (fun y Q=>by
     rcases List.mem_append.1 Q with h|h
     ·exact D y h
     ·rw[zQ.1 h];omega)
    refine⟨b,?_,N⟩;rw[V6];simp only[go_sem,z,g,j,DR,u,ZE,A,I3,E];exact M
  ·have j:decide ((d.length:Int)<41)=false:=by rw[decide_eq_false_iff_not];omega
   refine⟨decide ((l.length:Int)<=40),?_,fun B=>by rw[decide_eq_true_eq]at B;omega⟩;rw[V6];simp only[go_sem,z,g,j,DQ]
theorem Ztb {x:AV}{l:List Zg}(z:SS x l)(w:l.length<=1048576)(u:Xg l)(H:Hp):∃ b,Ze KQ [x] H=some (.bool b,H)/\(b=true->Zxy l):=by
 obtain⟨C,g,j⟩:=SS.closed z [] 0 7;obtain⟨b,A,B⟩:=Ztc j w u [] [] l [] rfl (fun s y=>by cases y);refine⟨b,Vt (args':=[C]) (H1:=[]) (by rw[zO,g];rfl) ?_ rfl,B⟩;rw[Ir];unfold No;exact A
theorem Zor {x y:AV}{l:List Zg}(E:SS x l)(I:SS y l)(M:l.length<=1048576)(F H:Hp):∀ (r d:List Zg),l=d++r->Vq x y (.int .i64 (d.length:Int)) F H=some (.bool true,H):=by
 have D:=SS.len E 9;intro r
 induction r with
 |nil =>
  intro d j;rw[zI]at j;subst j;have g:decide ((l.length:Int)<(l.length:Int))=false:=by simp
  rw[Gd];simp only[go_sem,D,g,C0]
 |cons s r J =>
  intro d j;have C:l.length=d.length+(r.length+1):=by rw[j];simp
  have g:decide ((d.length:Int)<(l.length:Int))=true:=by rw[decide_eq_true_eq];omega
  have u:l[d.length]?=some s:=by rw[j,zD (zE _)];simp
  have w:=SS.idx E u;have z:=SS.idx I u;have B:IntKind.i64.wrap ((d.length:Int)+1)=((d++[s]).length:Int):=by rw[Zr (by omega) (by omega)];simp
  have A:(s==s)=true:=beq_self_eq_true _;have:=J (d++[s]) (by rw[j];simp);rw[Gd];simp only[go_sem,D,g,C1,w,z,ZE,A,zL,C2,B];exact this
theorem AH {x y:AV}{l:List Zg}(C:SS x l)(D:SS y l)(z:l.length<=1048576)(H:Hp):Ze Wh [x,y] H=some (.bool true,H):=by
 obtain⟨F,w,j⟩:=SS.closed C [] 0 7;obtain⟨I,E,u⟩:=SS.closed D [] 0 7;have B:=SS.len j 9;have A:=SS.len u 9;have g:((l.length:Int) != (l.length:Int))=false:=by simp
 refine Vt (args':=[F,I]) (H1:=[]) (by rw[zO,w,zO,E];rfl) ?_ rfl;rw[C9];unfold Rp;simp only[go_sem,B,A,g,SZ];exact Zor j u z [] [] l [] rfl
theorem exT:ZJ defL plainP [[98],[97]]=[[97],[98]]:=by kernel_rfl
theorem LM (H:Hp):Ze Vj [] H=some (.bool true,H):=by
 refine Vt (args':=[]) (H1:=[]) rfl ?_ rfl;obtain⟨a,A,B⟩:=Mt [];have D:Xg [[98],[97]]:=fun s g=>by simp at g;rcases g with h|h <;> subst h <;> decide
 obtain⟨y,C,j⟩:=HP B Zel (ZAw plainP rfl) (ZzV rfl) (ZtM [[98],[97]] .clip) D (by decide) [];rw[exT]at j;have u:(X5 [(1,1,(.int .i64 (-1)))] [.nils,(.int .i64 0),(.int .i64 0),(.bool false),(.bool false)]).map AV.agg=some (.agg (plainP.cells .nils)):=rfl;have w:(ZA 1 [(0,(.str [98])),(1,(.str [97]))] [(.str []),(.str [])]).map (AV.vs 1 .clip)=some (.vs 1 .clip ([[98],[97]].map zS)):=rfl;have z:(ZA 1 [(0,(.str [97])),(1,(.str [98]))] [(.str []),(.str [])]).map (AV.vs 1 .clip)=some (.vs 1 .clip ([[97],[98]].map zS)):=rfl;have g:=AH j (ZtM [[97],[98]] .clip) (by decide) [];rw[Ek];unfold FQ;simp only[A,go_sem,u,w,C,z,g]
theorem ZoL {a x5:AV}{L:Loc}{lx c e:AV}(ha:LocAV (.agg (L.cells lx c e)) L)(R:LocOk L){p:Spec}{xp:AV}{mem w:Int}(hq:SpecAV (.agg (p.cells xp)) p)(O:∀ k∈p.keys,KeOk k)
 {x1 x6 x7:AV} {j:List (List Zg)} (Z:LsV x7 j) (aa:j.length<=40) (I:∀ c∈j,c.length<=40/\∀ s∈c,s.length<=200) {o:Nat} (ho:2<=o) (T:Hp):∀ (r d:List (List Zg)) (D:AV) (H:Hp),j=d++r->Gst o H D (d.map (ZJ L p)) ->
 H[0]?=some (.cells (Uc p xp mem w))->H[1]?=some (.cells (L.cells lx c e))->o<=H.length ->
 ∃ u H',Wy x1 (.ptr 0 0) (.ptr 1 0) x6 x7 D (.int .i64 (d.length:Int)) T H=Uk x1 (.ptr 0 0) (.ptr 1 0) x6 u T H'/\Gst o H' u (j.map (ZJ L p)) /\
  H'[0]?=some (.cells (Uc p xp mem w))/\H'[1]?=some (.cells (L.cells lx c e))/\o<=H'.length:=by
 have Y:=Z.len 29;intro r
 induction r with
 |nil =>
  intro d D H B J E F W;rw[zI]at B;subst B;have A:decide ((j.length:Int)<(j.length:Int))=false:=by simp
  exact⟨D,H,by rw[QX];simp only[go_sem,Y,A],J,E,F,W⟩
 |cons k r ih =>
  intro d D H B J E F W;have X:j.length=d.length+(r.length+1):=by rw[B];simp
  have A:decide ((d.length:Int)<(j.length:Int))=true:=by rw[decide_eq_true_eq];omega
  have C:j[d.length]?=some k:=by rw[B,zD (zE _)];simp
  have S:IntKind.i64.wrap ((d.length:Int)+1)=((d++[k]).length:Int):=by rw[Zr (by omega) (by omega)];simp
  have hk:k∈j:=zF C;obtain⟨ab,M⟩:=I k hk;obtain⟨q,b,i1,i2,i3⟩:=Z.get C H;have a5:Z3 true 6 (.ptr 1 0) H=some (.agg (L.cells lx c e)):=by rw[YE F];rfl
  have a2:=Zgv (mem:=mem) (w:=w) E;have N:Xg k:=fun s hs=>by have:=M s hs;omega
  obtain⟨y,s1,s2⟩:=HP ha R hq O i3 N (by omega) H;obtain⟨u,H',g1,U,V⟩:=J.app s2 (by rw[zM];omega)
  have Q:o<=H'.length:=by
   rcases U with ⟨e,_⟩|⟨_,_,_,g,_⟩
   ·simp at e
   ·have:=Zh g;omega
  obtain⟨z,H2,m1,m2,m3,m4,m5⟩:=ih (d++[k]) u H' (by rw[B];simp) (by rw[zU];exact U) ((V 0 (by omega)).trans E) ((V 1 (by omega)).trans F) Q;refine⟨z,H2,?_,m2,m3,m4,m5⟩;rw[QX];simp only[go_sem,Y,A,NV,a5,ES,a2,i1,i2,s1,ZzY s2,g1,NW,S];exact m1
theorem Zlv {x:AV}{p:Spec}{xp:AV}{mem w:Int}{l:List Zg}(al:Sl 5 xp (p.keys.map Ke.av))(z:∀ k∈p.keys,KeOk k)(bc:p.keys.length<=1048576)(hx:SS x l)(hL:Xg l)(hl:l.length<=1048576) :
 ∃ H',GQ [.agg (Uc p xp mem w),x] []=some (.bool true,H'):=by
 have g:SpecAV (.agg (p.cells xp)) p:=⟨xp,rfl,al⟩;have b1:=ZwV (p:=p) (xp:=xp) (mem:=mem) (w:=w) [];have e1:([]++[zB (Uc p xp mem w)]:Hp)[0]?=some (.cells (Uc p xp mem w)):=rfl;have U:=Zgv e1;have az:=ZwW e1;have ak:Z3 false 1 (.ptr 0 0) ([]++[zB (Uc p xp mem w)])=some xp:=rfl;have am:Z3 false 1 (.ptr 0 5) ([]++[zB (Uc p xp mem w)])=some (.int .i64 mem):=rfl;have J:=Sl.len al 119;rw[zM]at J;obtain⟨b,f1,f2⟩:=Ztb hx hl hL ([]++[zB (Uc p xp mem w)]);have f4:=Zui hx hL hl g mem w ([]++[zB (Uc p xp mem w)]);have el:([]:Hp).length=0:=rfl;rw[el]at b1;have M:([]++[zB (Uc p xp mem w)]:Hp).length=1:=rfl;generalize ([]++[zB (Uc p xp mem w)]:Hp)=H1 at b1 U az ak am f1 f4 e1 M;rw[M1];unfold GS
 cases b with
 |false=>exact⟨H1,by simp only[b1,go_sem,f1,Bool.not_false,LM]⟩
 |true =>
 obtain⟨R,A⟩:=f2 rfl
 cases X:decide ((10:Int)<(p.keys.length:Int)) with
 |true=>exact⟨H1,by simp only[b1,go_sem,f1,zL,ES,ak,J,X,LM]⟩
 |false =>
 cases W:OG p mem w l != 0 with
 |true=>exact⟨H1,by simp only[b1,go_sem,f1,zL,ES,ak,J,X,Zmm,U,az,f4,W,LM]⟩
 |false =>
 have Q:OG p mem w l=0:=by simpa using W
 obtain⟨V,bn,bo,bp,bq⟩:=ZoX Q;obtain⟨T,rfl⟩:∃ T:Nat,w=(T:Int):=⟨w.toNat,by omega⟩;simp only[b1,go_sem,f1,zL,ES,ak,J,X,Zmm,U,az,f4,W,NT]
 -- the locale
 obtain⟨ad,g1,g2⟩:=Mt H1;have u:=g2;obtain⟨lx,c,e,rfl,bm,bk,bl⟩:=g2;have p5:(H1++[zB [.str [],.nils,.str [],.str [],.nils,.nils]])[1]?=some (.cells [.str [],.nils,.str [],.str [],.nils,.nils]):=by rw[<-M];simp
 have s5:=VU (off:=0) (sz:=6) (v:=.agg (defL.cells lx c e)) p5 rfl rfl (by simp);have I:=Zt (zB (splice [zS [],.nils,.str [],.str [],.nils,.nils] 0 (AV.agg (defL.cells lx c e)).cells)) p5;have au:splice [zS [],.nils,.str [],.str [],.nils,.nils] 0 (AV.agg (defL.cells lx c e)).cells=defL.cells lx c e:=rfl;rw[au]at I s5
 have F:((H1++[zB [.str [],.nils,.str [],.str [],.nils,.nils]]).set 1 (.cells (defL.cells lx c e)))[0]?=some (.cells (Uc p xp mem (T:Int))):=by
  rw[zA (by omega),zC (by omega)];exact e1
 have ab:((H1++[zB [.str [],.nils,.str [],.str [],.nils,.nils]]).set 1 (.cells (defL.cells lx c e))).length=2:=by simp[M]
 simp only[g1,go_sem,M,s5];generalize ((H1++[zB [.str [],.nils,.str [],.str [],.nils,.nils]]).set 1 (.cells (defL.cells lx c e)))=H2 at I F ab;have a5:Z3 true 6 (.ptr 1 0) H2=some (.agg (defL.cells lx c e)):=by rw[YE I];rfl
 have a2:=Zgv F;have ao:Z3 false 1 (.ptr 0 5) H2=some (.int .i64 mem):=by rw[YE F];rfl
 obtain⟨yw,w1,w2⟩:=HP u Zel g z hx hL hl H2;obtain⟨x7,c1,c2⟩:=ZiF (mem:=mem) hx hL hl H2;obtain⟨E,ap⟩:=ZlO mem l;have ba:=Zdz ap;rw[E]at ba
 have ae:∀ c∈J9 (Y9 cS mem l),c.length<=40/\∀ s∈c,s.length<=200:=fun c hc=>by
  have C:c.Sublist (J9 (Y9 cS mem l)).flatten:=List.sublist_flatten_of_mem hc;rw[E]at C;exact⟨zR C.length_le R,fun s Y=>A s (C.subset Y)⟩
 obtain⟨x8,H3,q1,q2,q3,q4,q5⟩:=ZoL (a:=.agg (defL.cells lx c e)) (x5:=.nils) u Zel (mem:=mem) (w:=(T:Int)) g z (x1:=x) (x6:=yw) c2 (by omega) ae (o:=2) (by omega) [] _ [] .nils H2 rfl (.inl ⟨rfl,rfl,ab⟩) F I (by omega);have hz:((0:Int))=(([]:List (List Zg)).length:Int):=rfl;simp only[a5,go_sem,ES,a2,w1,Zmm,ao,c1];rw[hz,q1]
 -- the sort in files
 have z1:=IC q3;have bh:(H3.set 0 .dead)[1]?=some (.cells (defL.cells lx c e)):=by rw[zA (by omega)];exact q4
 have z2:=IC bh;have ac:((H3.set 0 .dead).set 1 .dead).length=H3.length:=by simp
 have an:Gst 2 ((H3.set 0 .dead).set 1 .dead) x8 ((J9 (Y9 cS mem l)).map (ZJ defL p)):=by
  rcases q2 with ⟨O,D,u3⟩|⟨e',es,O,D,u3⟩
  ·exact .inl ⟨O,D,by rw[ac];exact u3⟩
  ·exact .inr ⟨e',es,O,by rw[zA (by omega),zA (by omega)];exact D,u3⟩
 rw[NU];generalize (H3.set 0 .dead).set 1 .dead=j at z2 ac an;simp only[z1,z2];obtain⟨H5,s1,s2,s3⟩:=ZxU 262144 (by omega) (j++[.free]);have be:(min (max (262144:Int) 0) 262144).toNat=262144:=rfl;rw[be]at s2;have bj:(j++[zY]).length=j.length+1:=by simp
 obtain⟨H6,y,br,S6,r1,r2,r3,r4,r5,r6,r7⟩:=Zv3 u Zel ZAl g z bc hx R A ZoU Q s2 (by omega) (Zrp ((XS.start (B:=[]) (pk:=0) (by omega)).stoOk ZoU) rfl);have nn:∀ i,i<j.length+1->i∉[(j++[zY]).length+1,(j++[zY]).length]:=fun i hi hm=>by simp at hm;omega
 have bb:H5[j.length]?=some .free:=by rw[s3,zC (by omega)];simp
 have af:=r5.get bb (nn _ (by omega));have ax:=Zsk (l:=[zT .i64 0,.int .i64 0,.int .i64 0,.int .i64 0]) af;have bd:=Zt (zB [zT .i64 0,.int .i64 0,.int .i64 0,.int .i64 0]) af;have S:=VU (off:=0) (sz:=4) (v:=ZrL (Zqm defL p mem T l)) bd rfl rfl (by simp)
 have ai:LL ((H6.set j.length (.cells [zT .i64 0,.int .i64 0,.int .i64 0,.int .i64 0])).set j.length (.cells (splice [zT .i64 0,.int .i64 0,.int .i64 0,.int .i64 0] 0 (ZrL (Zqm defL p mem T l)).cells))) x8 ((J9 (Y9 cS mem l)).map (ZJ defL p)):=by
  rcases an with ⟨O,D,u3⟩|⟨e',es,O,D,u3⟩
  ·exact .inl ⟨O,.inl D⟩
  ·have bi:=Zh D;refine .inr (.inr ⟨2,e',es,O,?_,u3⟩);rw[zA (by omega),zA (by omega)];refine r5.get ?_ (nn _ (by omega));rw[s3,zC (by omega),zC (by omega)];exact D
 generalize ((H6.set j.length (.cells [zT .i64 0,.int .i64 0,.int .i64 0,.int .i64 0])).set j.length (.cells (splice [zT .i64 0,.int .i64 0,.int .i64 0,.int .i64 0] 0 (ZrL (Zqm defL p mem T l)).cells)))=H7 at S ai;have aa:(ZJ defL p l).length<=1048576:=zR (HO defL p l) hl;have Z:=AH r2 w2 aa H7;have ah:=ZfB (L:=defL) V (J9 (Y9 cS mem l));rw[E]at ah
 have ag:∀ k∈(J9 (Y9 cS mem l)).map (ZJ defL p),k.length<=40/\∀ s∈k,s.length<=200:=fun k X=>by
  obtain⟨c',ay,rfl⟩:=zZ.1 X;obtain⟨O,D⟩:=ae c' ay;exact⟨zR (HO _ _ _) O,fun s Y=>D s (NH _ _ _ s Y)⟩
 have aj:Yr ((J9 (Y9 cS mem l)).map (ZJ defL p))<=1048576:=by
  rw[<-LT];have:=Zbf defL p (J9 (Y9 cS mem l));rw[E]at this;omega
 obtain⟨ym,m1,m2⟩:=ZtR u Zel g z V ai (fun k X s Y=>by have:=(ag k X).2 s Y;omega) aj (by rw[zM];omega);rw[ah]at m2;have N:=AH m2 w2 aa H7;have aw:Xg (ZJ defL p l):=fun s Y=>hL s (NH _ _ _ s Y);have hu:=Zxv u Zel g z w2 aw aa H7;rw[Zxm V]at hu;have aq:((0:Int)==0)=true:=rfl;have ar:((-1:Int)==-1)=true:=rfl;have l6:XE true 6 (.vp (defL.cells lx c e))=some (.agg (defL.cells lx c e)):=rfl;have bg:∀ H:Hp,Z3 true 6 (.vp (defL.cells lx c e)) H=some (.agg (defL.cells lx c e)):=fun _=>rfl;have bf:∀ H:Hp,Z3 true 5 (.vp (Uc p xp mem (T:Int))) H=some (.agg (p.cells xp)):=fun _=>rfl;refine⟨H7,?_⟩;simp only[s1,go_sem,l6,ZyS,ZyT,Zua,Zu9,r1,List.getElem?_cons_zero,List.getElem?_cons_succ,Nat.add_zero,ax,S,aq,Z,bg,bf,m1,N,hu,ar,LM]
end Go.Am
