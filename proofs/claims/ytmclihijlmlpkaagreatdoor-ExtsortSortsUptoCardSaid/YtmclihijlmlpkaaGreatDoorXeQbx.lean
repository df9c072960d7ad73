/- Lists of lists of strings -/
import Derived.Test.YtmclihijlmlpkaaGreatDoorXeMzx
import Derived.Test.YtmclihijlmlpkaaGreatDoorXeSax
import Derived.Test.YtmclihijlmlpkaaGreatDoorXeGSx
import Derived.Test.YtmclihijlmlpkaaGreatDoorXeEx
import Derived.Test.YtmclihijlmlpkaaGreatDoorXeXx
import Derived.Lib.ItoaLen
open Option renaming some->K,none->V
open Bool renaming true->I,false->Y
open List renaming length->O
open Go.db renaming cm->X,cn->U
open Go.Am.AV renaming int->Q
open Go.IntKind renaming i64->J
open Go.IntKind renaming i64->xO
open List renaming getElem?_cons_zero->zA,getElem?_cons_succ->zB,getElem?_set_ne->zC,nodup_cons->zE,mem_cons->zF,map_cons->zG,mem_singleton->zH,getElem?_append_right->zI,flatMap_append->zK,mem_append->zM,map_append->zN,set->zO,length_singleton->zP,length_append->zQ,nodup_append->zS,append_nil->zU,flatMap_cons->zV,take_of_length_le->zW,cons_append->zY,length_map->yA,length_cons->yC,getElem?_append_left->yD,getElem?_eq_some_iff->yE,getElem?_eq_getElem->yG,flatten_cons->yH,all_eq_true->yJ,mem_cons_of_mem->yK,mem_append_left->yL,take_append_of_le_length->yM,mem_map->yN,getD_eq_getElem?_getD->yO,append_assoc->yP,flatten_nil->yQ,nil_append->yR,getElem?_eq_none->yU,map_nil->yX,isEmpty_cons->yZ,mem_flatMap->xC,length_nil->xD,tail_cons->xE,mapM_cons->xF,drop_one->xH,all_cons->xI,map_map->xK,range->xN
open Nat renaming zero_add->zD,le_refl->zL,mul_one->yT,le_trans->xJ,add_zero->xL
open Bool renaming and_eq_true->zX,false_eq_true->zZ,not_false->yB,not_true->yF,true_and->yI,false_and->yV
open Int renaming toNat_natCast->zT
open UInt8 renaming ofNat->zR,ofNat_toNat->yY
open Go.Am.AObj renaming cells->zJ,bld->yS
open Go.Am.AV renaming str->xB,int->xG,cells->xM
open List.Sublist renaming nodup->yW,refl->xA
namespace Go.Am
set_option linter.unusedSectionVars false
set_option maxRecDepth 100000
theorem SS.cell {e:AV}{l:List Zi}(h:SS e l):e.cells=[e]/\e.known=I:=by
 rcases h with ⟨rfl,_⟩|⟨t,rfl⟩ <;> exact⟨rfl,rfl⟩
structure EE (es:c6)(ls:List (List Zi)):Prop where
 len:O es=O ls
 at':∀ (i:Nat) (l:List Zi),ls[i]?=K l->∃ e,es[i]?=K e/\SS e l
theorem EE.nil:EE [] []:=⟨rfl,λi l h=>by simp at h⟩
theorem ZrG:∀ {g:c6},(∀ e∈g,e.cells=[e])->(g.map xM).flatten=g:=by
 intro g
 induction g with
 |nil=>intro _;rfl
 |cons e g u =>
  intro h;rw[zG,yH,h e U,u (λx j=>h x (by simp[j]))];rfl
theorem EE.app {y:c6}{u:List (List Zi)}(h:EE y u){e:AV}{l:List Zi}(A:SS e l):EE (y++[e]) (u++[l]):=by
 refine⟨by simp[h.len],λj m g=>?_⟩;by_cases z:j<O u
 ·rw[yD z]at g;rw[yD (by rw[h.len];exact z)];exact h.at' j m g
 ·have w:=(yE.1 g).1;have:j=O u:=by simp at w;omega
  subst this;rw[zI (zL _)]at g;simp at g;subst g;exact⟨e,by rw[zI (by rw[h.len];exact zL _),h.len];simp,A⟩
def Rst (o:Nat)(H:Hp)(x:AV)(g:List (List Zi)):Prop :=
 g=[]/\(x=.nils\/x=.vs 1 .clip [])\/∃ e h,x=.ws Y 1 o e (O g)/\H[o]?=K (.row e h)/\EE h g
theorem ZkR {o e i:Nat}{H:Hp}{g:c6}{a:AV}(h:H[o]?=K (.row e g))(j:g[i]?=K a):Z2 Y 1 (.wp o e (i*1)) H=K a:=by
 simp[Z2,h,Go.Am.apart,j]
theorem Zqn {l:c6}{i:Nat}{a:AV}(h:i<O l):splice l (i*1) [a]=l.set i a:=by
 unfold splice;rw[yT,List.set_eq_take_append_cons_drop,if_pos h];simp
theorem ZoJ {o e i:Nat}{H:Hp}{g:c6}{a:AV}(h:H[o]?=K (.row e g))(j:a.cells=[a]/\a.known=I)(hi:i<O g):Zc 1 (.wp o e (i*1)) a H=K (.tuple [],H.set o (.row e (g.set i a))):=by
 unfold Zc YI;simp only[h];rw[if_pos ⟨trivial,j.2,by rw[j.1];rfl,X⟩,j.1,Zqn hi]
theorem Zgb {o e n i:Nat}(h:i<n):Zj 1 (.ws Y 1 o e n) (Q J (i:Int))=K (.wp o e (i*1)):=by
 unfold Zj;dsimp only;rw[if_pos X];rfl
theorem Ze7:∀ l:c6,Ug Y 1 (O l) l=l:=by
 intro l
 induction l with
 |nil=>rfl
 |cons a l g=>simp only[yC,Ug];rw[xH,xE,g];rfl
def LL (H:Hp)(x:AV)(h:List (List Zi)):Prop :=
 h=[]/\(x=.nils\/x=.vs 1 .clip [])\/(∃ t g,x=.vs 1 t g/\EE g h)\/∃ o e g,x=.ws Y 1 o e (O h)/\H[o]?=K (.row e g)/\EE g h
theorem Rst.ll {o:Nat}{H:Hp}{x:AV}{g:List (List Zi)}(h:Rst o H x g):LL H x g:=by
 rcases h with h|⟨e,j,u,y,w⟩
 ·exact .inl h
 ·exact .inr (.inr ⟨o,e,j,u,y,w⟩)
theorem LL.len {H:Hp}{x:AV}{u:List (List Zi)}(h:LL H x u)(e:Nat):Zk (.slice e) x=K (Q J (O u:Int)):=by
 rcases h with ⟨rfl,rfl|rfl⟩|⟨t,g,rfl,j⟩|⟨o,e,g,rfl,w,j⟩
 ·rfl
 ·rfl
 ·show K (xG .i64 (O g:Int))=_;rw[j.len]
 ·rfl
theorem LL.get {H:Hp}{x:AV}{w:List (List Zi)}(h:LL H x w){i:Nat}{l:List Zi}(hi:w[i]?=K l):∃ p a,Zj 1 x (Q J (i:Int))=K p/\Z2 Y 1 p H=K a/\SS a l:=by
 rcases h with ⟨rfl,_⟩|⟨t,y,rfl,u⟩|⟨o,e,y,rfl,z,u⟩
 ·simp at hi
 ·obtain⟨a,j,g⟩:=u.at' i l hi;refine⟨.vp a.cells,a,?_,?_,g⟩
  ·unfold Zj;dsimp only;rw[if_pos ⟨rfl,X⟩,zT,j]
  ·rw[g.cell.1];rfl
 ·obtain⟨a,j,g⟩:=u.at' i l hi;exact⟨_,a,Zgb (yE.1 hi).1,ZkR z j,g⟩
theorem LL.keep {H H':Hp}{x:AV}{j:List (List Zi)}(h:LL H x j)(z:Keep (O H) H H'):LL H' x j:=by
 rcases h with h|h|⟨o,e,u,w,g,y⟩
 ·exact .inl h
 ·exact .inr (.inl h)
 ·exact .inr (.inr ⟨o,e,u,w,(z o (yE.1 g).1).trans g,y⟩)
theorem Rst.app {o:Nat}{H:Hp}{x:AV}{A:List (List Zi)}(h:Rst o H x A){a:AV}{m:List Zi}(j:SS a m)(M:O A<=1048576) :
 ∃ L D H',Xu Y 1 24 x (.vs 1 .clip [a]) H=K (D,H')/\Rst L H' D (A++[m])/\O H<=O H'/\(∀ i y,H[i]?=K y->i≠o->H'[i]?=K y):=by
 unfold Xu;have E:Go.Am.elems 1 (.vs 1 .clip [a]) H=K [a]:=rfl;rw[E];dsimp only;have u:YB 1 24=I:=rfl;have w:YB (O A+1) 24=I:=by simp[YB];omega
 rcases h with ⟨rfl,rfl|rfl⟩|⟨e,B,rfl,C,g⟩
 ·refine⟨O H,.ws Y 1 (O H) 0 1,H++[.row 0 [a]],?_,.inr ⟨0,[a],rfl,U,EE.nil.app j⟩,U,λi y z _=>Y8 z _⟩;unfold QH;simp only[zP,u,if_true,zG,yX,yH,yQ,j.cell.1,zU];rw[if_neg U]
 ·refine⟨O H,.ws Y 1 (O H) 0 1,H++[.row 0 [a]],?_,.inr ⟨0,[a],rfl,U,EE.nil.app j⟩,U,λi y z _=>Y8 z _⟩;unfold QH;simp only[xD,yR,zD,zP,u,and_self,if_true,zG,yX,yH,yQ,j.cell.1,zU];rw[if_neg U]
 ·refine⟨o,.ws Y 1 o (e+1) (O A+1),H.set o (.row (e+1) (B++[a])),?_,.inr ⟨e+1,B++[a],U,Zs _ C,g.app j⟩,U,λi y z F=>Y2 _ (λe=>F e.symm) z⟩;unfold QH;simp only[zP,w,and_self,if_true,C,g.len,yT,zL,cJ,zW (Nat.le_of_eq g.len),zG,yX,yH,yQ,j.cell.1,zU];rw[if_neg U]
theorem EE.tail {e:AV}{j:c6}{l:List Zi}{u:List (List Zi)}(h:EE (e::j) (l::u)):SS e l/\EE j u:=by
 obtain⟨g,w,y⟩:=h.at' 0 l rfl;obtain rfl:e=g:=Option.some.inj w
 exact⟨y,by have:=h.len;simpa using this,λi m z=>by
  obtain⟨g,A,B⟩:=h.at' (i+1) m (by simpa using z);exact⟨g,by simpa using A,B⟩⟩
theorem EE.cons {e:AV}{j:c6}{l:List Zi}{u:List (List Zi)}(h:SS e l)(k:EE j u):EE (e::j) (l::u) :=
 ⟨by simp[k.len],λi m g=>by
  cases i with
  |zero=>simp at g;subst g;exact⟨e,rfl,h⟩
  |succ i=>simpa using k.at' i m (by simpa using g)⟩
theorem EE.close {u:c6}{j:List (List Zi)}(h:EE u j)(H:Hp)(n f:Nat):∃ g,u.mapM (Zh H n (f+2))=K g/\EE g j:=by
 induction u generalizing j with
 |nil =>
  have:j=[]:=List.length_eq_zero_iff.1 (by rw[<-h.len];rfl);subst this;exact⟨[],rfl,EE.nil⟩
 |cons e u A =>
  cases j with
  |nil=>have:=h.len;simp at this
  |cons l j =>
   obtain⟨y,z⟩:=h.tail;obtain⟨w,B,C⟩:=SS.closed y H n f;obtain⟨g,D,E⟩:=A z;exact⟨w::g,by rw[xF,B];simp[D],EE.cons C E⟩
theorem fA (H:Hp)(n f k:Nat)(t:Tok)(l:c6):Zh H n (f+1) (.vs k t l)=match l.mapM (Zh H n f) with
 |some l=>K (.vs k (match t with|.own t e=>if t<n then .own t e else .no|tok=>tok) l)
 |none=>V:=rfl
theorem ZhK (H:Hp)(n f:Nat)(ag:Bool)(k o e len:Nat):Zh H n (f+1) (.ws ag k o e len)=if o<n then K (.ws ag k o e len) else
 match elems k (.ws ag k o e len) H with
 |some l=>match l.mapM (Zh H n f) with
  |some l=>K (.vs k .no l)
  |none=>V
 |none=>V:=rfl
def LsV (x:AV)(h:List (List Zi)):Prop:=x=.nils/\h=[]\/∃ t g,x=.vs 1 t g/\EE g h
theorem LsV.ll {x:AV}{g:List (List Zi)}(h:LsV x g)(H:Hp):LL H x g:=by
 rcases h with ⟨j,u⟩|h
 ·exact .inl ⟨u,.inl j⟩
 ·exact .inr (.inl h)
theorem LsV.len {x:AV}{g:List (List Zi)}(h:LsV x g)(e:Nat):Zk (.slice e) x=K (Q J (O g:Int)):=(h.ll []).len e
theorem LsV.get {x:AV}{g:List (List Zi)}(h:LsV x g){i:Nat}{l:List Zi}(hi:g[i]?=K l)(H:Hp):∃ p a,Zj 1 x (Q J (i:Int))=K p/\Z2 Y 1 p H=K a/\SS a l:=(h.ll H).get hi
theorem LsV.get' {x:AV}{j:List (List Zi)}(h:LsV x j){i:Nat}{l:List Zi}(hi:j[i]?=K l):∃ a,Zj 1 x (Q J (i:Int))=K (.vp [a])/\SS a l:=by
 rcases h with ⟨rfl,rfl⟩|⟨t,y,rfl,w⟩
 ·simp at hi
 ·obtain⟨a,u,g⟩:=w.at' i l hi;refine⟨a,?_,g⟩;unfold Zj;dsimp only;rw[if_pos ⟨rfl,X⟩,zT,u];dsimp only;rw[g.cell.1]
theorem LL.close0 {H:Hp}{x:AV}{w:List (List Zi)}(h:LL H x w):∃ B,Zh H 0 9 x=K B/\LsV B w:=by
 rcases h with ⟨rfl,rfl|rfl⟩|⟨t,A,rfl,j⟩|⟨o,e,A,rfl,C,j⟩
 ·exact⟨.nils,rfl,.inl ⟨rfl,rfl⟩⟩
 ·exact⟨.vs 1 .clip [],rfl,.inr ⟨_,[],rfl,EE.nil⟩⟩
 ·obtain⟨g,y,z⟩:=j.close H 0 6;exact⟨_,by rw[fA,y],.inr ⟨_,g,rfl,z⟩⟩
 ·obtain⟨g,y,z⟩:=j.close H 0 6
  have u:Go.Am.elems 1 (.ws Y 1 o e (O w)) H=K A:=by
   unfold Go.Am.elems;dsimp only;rw[if_pos ⟨rfl,.inr rfl⟩,C];dsimp only;rw[if_pos ⟨rfl,by rw[j.len];omega⟩,<-j.len,Ze7]
  exact⟨.vs 1 .no g,by rw[ZhK,if_neg (Nat.not_lt_zero _),u];dsimp only;rw[y],.inr ⟨_,g,rfl,z⟩⟩
theorem SS.cut {x:AV}{l:List Zi}(h:SS x l){i j:Nat}(u:i<=j)(B:j<=O l):∃ y,YC 1 x (K (Q J (i:Int))) (K (Q J (j:Int))) (K (Q J (j:Int)))=K y/\SS y ((l.take j).drop i):=by
 have A:∀ n,j<=n->YQ n n (K (Q J (i:Int))) (K (Q J (j:Int))) (K (Q J (j:Int)))=K (i,j,j):=λn D=>by
  delta YQ
  simp[Xj,D,u]
 rcases h with ⟨rfl,C⟩|⟨t,rfl⟩
 ·have z:l=[]:=by simpa using C
  subst z;have w:j=0:=by simpa using B
  have g:i=0:=X
  subst w g;refine⟨.nils,?_,.inl ⟨rfl,rfl⟩⟩;simp only[YC];rw[A 0 (zL _)]
 ·refine⟨.vs 1 .clip (((l.map xB).take j).drop i),?_,.inr ⟨.clip,by rw[<-List.map_take,<-List.map_drop]⟩⟩;simp only[YC,if_true,yA];rw[A _ B];simp
def WO (m:Nat)(s:Sto):c6:=[Q J (s.limit:Int),Q J (ZB s.files:Int),Q J (s.peak:Int),.map m,.bool s.crashed,Q J (s.count:Int)]
theorem StAt.cell {H H':Hp}{o m g:Nat}{u:List FD}{s s':Sto}(h:StAt H o m g u s)(w:Stp [o] H H')(z:H'[o]?=K (.cells (WO m s')))(A:s'.files=s.files):StAt H' o m g u s' where
 files:=by rw[A];exact h.files
 cells:=z
 map:=w.get h.map (by simpa using h.om.symm)
 file:=λd j=>(h.file d j).frame λa y=>w.at' a ((h.file d j).lt a y) (by simpa using (h.own_lt j y).1)
 nd:=h.nd
 born:=h.born
theorem ld {H:Hp}{o:Nat}{l:c6}(h:H[o]?=K (.cells l))(i:Nat){v:AV}(g:l[i]?=K v):Z2 Y 1 (.ptr o (0+i)) H=K v:=by
 rw[Yk h,zD];exact g
theorem st {H:Hp}{o:Nat}{l:c6}(h:H[o]?=K (.cells l))(i:Nat){v:AV}(g:v.cells=[v])(j:v.known=I)(hi:i<O l):Zc 1 (.ptr o (0+i)) v H=K (.tuple [],H.set o (.cells (l.set i v))):=by
 rw[zD,YL h j (by rw[g];rfl) X,g];congr 4;have:=Zqn (l:=l) (i:=i) (a:=v) hi
 rwa [yT]at this
theorem Zl0 {H:Hp}{o m B:Nat}{R:List FD}{s:Sto}(h:StAt H o m B R s)(hk:s.count<=9223372036854775807) :
 ∃ H',Uv [.ptr o 0] H=K (.bool s.tick.crashed,H')/\StAt H' o m B R s.tick/\Stp [o] H H':=by
 have z:H[o]?=K (.cells (WO m s)):=h.cells;have A:=ld z 4 (v:=.bool s.crashed) rfl;have M:=ld z 5 (v:=Q J (s.count:Int)) rfl;rw[O8];unfold Ph
 cases g:s.crashed with
 |true =>
  have w:s.tick=s:=by unfold Sto.tick;rw[if_pos g]
  rw[w,g];rw[g]at A;exact⟨H,by simp only[go_sem,A,WX],h,Stp.refl _ _⟩
 |false =>
  rw[g]at A;by_cases F:s.count=1
  ·have w:s.tick={ s with crashed:=I,count:=0 }:=by unfold Sto.tick;rw[if_neg (by simp[g]),if_pos F]
   have D:((s.count:Int)==1)=I:=by rw[F];rfl
   have T:=st z 4 (v:=.bool I) rfl rfl (by simp[WO]);have C:=Zs (zJ (zO (WO m s) 4 (.bool I))) z;have N:=st C 5 (v:=Q J 0) rfl rfl (by simp[WO]);have j:=Zs (zJ (zO (zO (WO m s) 4 (.bool I)) 5 (xG .i64 0))) C;have u:=ld j 4 (v:=.bool I) rfl;refine⟨(H.set o (.cells ((WO m s).set 4 (.bool I)))).set o (.cells (((WO m s).set 4 (.bool I)).set 5 (Q J 0))),by simp only[go_sem,A,M,D,T,N,WX,u,w],?_,?_⟩
   ·rw[w];refine h.cell ?_ ?_ rfl
    ·exact (Stp.set H _ U).trans (Stp.set _ _ (zH.2 rfl)) (λa y=>y) (λa y=>.inl y)
    ·exact j
   ·exact (Stp.set H _ U).trans (Stp.set _ _ (zH.2 rfl)) (λa y=>y) (λa y=>.inl y)
  ·have D:((s.count:Int)==1)=Y:=by rw[beq_eq_false_iff_ne];omega
   have w:s.tick={ s with count:=s.count-1 }:=by unfold Sto.tick;rw[if_neg (by simp[g]),if_neg F]
   by_cases Z:1<s.count
   ·have E:decide ((1:Int)<(s.count:Int))=I:=by rw[decide_eq_true_eq];omega
    have hw:xO.wrap ((s.count:Int)-1)=((s.count-1:Nat):Int):=by rw[Zo X X];omega
    have N:=st z 5 (v:=Q J ((s.count-1:Nat):Int)) rfl rfl (by simp[WO]);have j:=Zs (zJ (zO (WO m s) 5 (xG .i64 ((s.count-1:Nat):Int)))) z;have u:=ld j 4 (v:=.bool s.crashed) rfl;rw[g]at u;refine⟨H.set o (.cells ((WO m s).set 5 (Q J ((s.count-1:Nat):Int)))),by simp only[go_sem,A,M,D,E,hw,N,WX,u,w,g],?_,Stp.set _ _ U⟩;rw[w];exact h.cell (Stp.set _ _ U) j rfl
   ·have E:decide ((1:Int)<(s.count:Int))=Y:=by simp;omega
    have S:s.count=0:=X
    have L:s.tick=s:=by rw[w];cases s;simp only at S;subst S;rfl
    rw[L,g];exact⟨H,by simp only[go_sem,A,M,D,E,WX],h,Stp.refl _ _⟩
theorem Qo (s:Sto):s.tick.files=s.files:=by unfold Sto.tick;split;rfl;split <;> rfl
theorem ZsT (s:Sto):s.tick.limit=s.limit:=by unfold Sto.tick;split;rfl;split <;> rfl
theorem ZvG (s:Sto):s.tick.peak=s.peak:=by unfold Sto.tick;split;rfl;split <;> rfl
theorem iA {H:Hp}{o m j:Nat}{A:List FD}{s:Sto}(h:StAt H o m j A s)(F:s.count<=9223372036854775807)(n:Zx) :
 ∃ (p:AV) (e:Int) (H':Hp),Wh [.ptr o 0,.str n] H=K (.tuple [p,Q J e],H')/\StAt H' o m j A s.tick/\Stp [o] H H' /\
  (s.tick.crashed=I/\e=19\/s.tick.crashed=Y/\Y5 s.files n=V/\e=5 \/
   s.tick.crashed=Y/\e=0/\∃ a d b,A=a++d::b/\d.fil.name=n/\(∀ g∈a,g.fil.name≠n)/\Y5 s.files n=K d.fil/\p=.ptr d.f 0):=by
 obtain⟨H1,y,z,D⟩:=Zl0 h F;rw[aW];unfold Mz
 cases u:s.tick.crashed with
 |true =>
  rw[u]at y;exact⟨.nilp,19,H1,by simp only[go_sem,QE,y],z,D,.inl ⟨rfl,rfl⟩⟩
 |false =>
  rw[u]at y;have E:=ld z.cells 3 (v:=.map m) rfl;have w:=z.look n;rw[Qo]at w;rcases w with ⟨B,C⟩|⟨a,d,b,B,C,L,M,N⟩
  ·exact⟨.nilp,5,H1,by simp only[go_sem,QE,y,F4,E,C],z,D,.inr (.inl ⟨rfl,B,rfl⟩)⟩
  ·exact⟨.ptr d.f 0,0,H1,by simp only[go_sem,QE,y,F4,E,N,OY],z,D,.inr (.inr ⟨rfl,rfl,a,d,b,B,C,L,M,rfl⟩)⟩
structure StoRes (H H':Hp)(o:Nat)(s':Sto)(A A':da):Prop where
 at':StoreAt H' o s' A'
 stp:Stp A H H'
 own:∀ a∈A',a∈A\/O H<=a
theorem StAt.res {H H':Hp}{o m g:Nat}{j:List FD}{s':Sto}(h:StAt H' o m g j s')(w:Stp [o] H H'):StoRes H H' o s' (o::m::j.flatMap FD.own) (o::m::j.flatMap FD.own) :=
 ⟨⟨m,g,j,h,rfl⟩,w.mono (λa u=>by rw[zH.1 u];simp),λa u=>.inl u⟩
theorem Zo4 (d:FD):d.f∈d.own:=by simp[FD.own]
theorem ZvV {H:Hp}{o:Nat}{s:Sto}{A:da}(h:StoreAt H o s A)(hk:s.count<=9223372036854775807)(n:Zx) :
 ∃ H' A',G4 [.ptr o 0,.str n] H=K (Q J (s.sync n).1,H')/\StoRes H H' o (s.sync n).2 A A':=by
 obtain⟨m,B,ds,h,rfl⟩:=h;obtain⟨p,e,H1,N,j,R,q4⟩:=iA h hk n;rw[aU];unfold Mx Sto.sync;rcases q4 with ⟨u,rfl⟩|⟨u,c2,rfl⟩|⟨u,rfl,a,d,b,rfl,S,T,c5,rfl⟩
 ·have w:((19:Int)==0)=Y:=rfl;rw[if_pos u];exact⟨H1,_,by simp only[N,go_sem,zA,zB,w,QC],j.res R⟩
 ·have w:((5:Int)==0)=Y:=rfl;rw[if_neg (by simp[u]),c2];exact⟨H1,_,by simp only[N,go_sem,zA,zB,w,QC],j.res R⟩
 ·have w:((0:Int)==0)=I:=rfl;rw[if_neg (by simp[u]),c5];have y:=j.file d U;have l0:=ld y.cells 0 (v:=d.tx) rfl;have z:=y.text.len 5;have s1:=st y.cells 1 (v:=Q J (O d.fil.text:Int)) rfl rfl U;refine⟨H1.set d.f (.cells (zO [d.tx,Q J (d.fil.syn:Int)] 1 (Q J (O d.fil.text:Int)))),o::m::(a++{ d with fil:={ d.fil with syn:=O d.fil.text } }::b).flatMap FD.own,by simp only[N,go_sem,zA,zB,w,l0,z,s1,QC],?_⟩;have D:d.f≠o:=(j.own_lt (d:=d) U (Zo4 d)).1;have E:d.f≠m:=(j.own_lt (d:=d) U (Zo4 d)).2;have Z:Stp (o::d.own) H1 (H1.set d.f (.cells (zO [d.tx,Q J (d.fil.syn:Int)] 1 (Q J (O d.fil.text:Int))))):=Stp.set _ _ (by simp[FD.own])
  have L:∀ t∈ZN d.tx,t≠d.f:=λt F=>by
   have:=j.nd;rw[zE,zE,zK,zV,zS,zS]at this;obtain⟨_,_,_,⟨k1,_⟩,_⟩:=this;rw[FD.own,zE]at k1;exact λe=>k1.1 (e ▸ F)
  have M:ZB (Ra s.files n λf=>{ f with syn:=O f.text })=ZB s.files:=by
   rw[<-h.files,iX a d b n _ S T];simp[Wn,ZB]
  have C:=j.upd (d':={ d with fil:={ d.fil with syn:=O d.fil.text } }) (s':={ s.tick with files:=Ra s.files n λf=>{ f with syn:=O f.text } }) (H':=H1.set d.f (.cells (zO [d.tx,Q J (d.fil.syn:Int)] 1 (Q J (O d.fil.text:Int)))))
   (by
    rw[zC D,j.cells];simp only[M,Qo])
   (zC E) rfl (by show Ra s.files n _=_;rw[<-h.files,iX a d b n _ S T])
   ⟨Zs _ y.cells,y.text.frame λt F=>zC (λe=>L t F e.symm)⟩ Z
   (by
    have:=j.nd;rw[zE,zE,zK,zV,zS,zS]at this;exact this.2.2.2.1.1)
   (λx g=>.inl g)
  refine⟨⟨m,B,_,C,rfl⟩,?_,λx g=>.inl ?_⟩
  ·refine R.trans Z (λx g=>by rw[zH.1 g];simp) λx g=>.inl ?_;rcases zF.1 g with e|g
   ·subst e;simp
   ·simp[g]
  ·simpa[FD.own]using g
theorem StAt.fileRes {H H1 H':Hp}{o m j:Nat}{a b:List FD}{d d':FD}{s s':Sto}(h:StAt H o m j (a++d::b) s)(y:Stp [o] H H1)(w:StAt H' o m j (a++d'::b) s')(z:Stp (o::d.own) H1 H')
 (u:∀ x∈d'.own,x∈d.own\/O H1<=x):StoRes H H' o s' (o::m::(a++d::b).flatMap FD.own) (o::m::(a++d'::b).flatMap FD.own):=by
 refine⟨⟨m,j,_,w,rfl⟩,y.trans z (λx g=>by rw[zH.1 g];simp) λx g=>.inl ?_,λx g=>?_⟩
 ·rcases zF.1 g with e|g
  ·subst e;simp
  ·simp[g]
 ·rcases zF.1 g with e|g
  ·subst e;exact .inl U
  rcases zF.1 g with e|g
  ·subst e;exact .inl U
  rw[zK,zV]at g;rcases zM.1 g with g|g
  ·exact .inl (by simp only[zK,zF,zM];exact .inr (.inr (.inl g)))
  rcases zM.1 g with g|g
  ·rcases u x g with k|k
   ·exact .inl (by simp only[zK,zV,zF,zM];exact .inr (.inr (.inr (.inl k))))
   ·exact .inr (xJ y.len k)
  ·exact .inl (by simp only[zK,zV,zF,zM];exact .inr (.inr (.inr (.inr g))))
theorem StAt.mid {H:Hp}{o m g:Nat}{a b:List FD}{d:FD}{s:Sto}(h:StAt H o m g (a++d::b) s):d.own.Nodup/\FileAt H d/\(∀ x∈d.own,x≠o/\x≠m)/\∀ t∈ZN d.tx,t≠d.f:=by
 have:=h.nd;rw[zE,zE,zK,zV,zS,zS]at this;obtain⟨_,_,_,⟨j,_⟩,_⟩:=this;refine⟨j,h.file d U,λx w=>h.own_lt (d:=d) U w,λt u=>?_⟩;rw[FD.own,zE]at j;exact λe=>j.1 (e ▸ u)
theorem IR (a:List Fil)(f:Fil)(b:List Fil):ZB (a++f::b)=ZB a+(O f.text+ZB b):=by rw[Wn];rfl
theorem Zqu {H:Hp}{o:Nat}{s:Sto}{A:da}(h:StoreAt H o s A)(hk:StoOk s)(n t:Zx)(ht:O t<=1048576) :
 ∃ H' A',Jr [.ptr o 0,.str n,.str t] H=K (Q J (s.append n t).1,H')/\StoRes H H' o (s.append n t).2 A A':=by
 obtain⟨m,aj,ds,h,rfl⟩:=h;obtain⟨p,e,H1,q1,N,q3,q4⟩:=iA h hk.count n;rw[HV];unfold RO Sto.append;rcases q4 with ⟨T,rfl⟩|⟨T,c2,rfl⟩|⟨T,rfl,a,d,b,rfl,c3,c4,c5,rfl⟩
 ·have R:((19:Int) != 0)=I:=rfl;rw[if_pos T];exact⟨H1,_,by simp only[q1,go_sem,zA,zB,R],N.res q3⟩
 ·have R:((5:Int) != 0)=I:=rfl;rw[if_neg (by simp[T]),c2];exact⟨H1,_,by simp only[q1,go_sem,zA,zB,R],N.res q3⟩
 ·have R:((0:Int) != 0)=Y:=rfl;rw[if_neg (by simp[T]),c5];have ah:=hk.used;have ai:=hk.limit;have ak:=hk.peak;have hc:H1[o]?=K (.cells (WO m s.tick)):=N.cells;have l0:=ld hc 0 (v:=Q J (s.limit:Int)) (by rw[<-ZsT s];rfl);have l1:=ld hc 1 (v:=Q J (ZB s.files:Int)) (by rw[<-Qo s];rfl);have hw:xO.wrap ((ZB s.files:Int)+(O t:Int))=((ZB s.files+O t:Nat):Int):=by rw[Zo X X];omega
  by_cases hf:s.limit<ZB s.files+O t
  ·have e2:decide ((s.limit:Int)<((ZB s.files+O t:Nat):Int))=I:=by rw[decide_eq_true_eq];omega
   simp only[if_pos hf];exact⟨H1,_,by simp only[q1,go_sem,zA,zB,R,Gt,l0,l1,hw,e2],N.res q3⟩
  ·have e2:decide ((s.limit:Int)<((ZB s.files+O t:Nat):Int))=Y:=by simp;omega
   simp only[if_neg hf];obtain⟨k1,hd,k3,k4⟩:=N.mid;have ac:=h.files
   have L:ZB s.files=ZB (a.map FD.fil)+(O d.fil.text+ZB (b.map FD.fil)):=by
    rw[<-ac,zN,zG,IR]
   have m0:=ld hd.cells 0 (v:=d.tx) rfl;obtain⟨j,H2,p1,p2,p3,p4,p5⟩:=hd.text.app t X;have g1:H2[d.f]?=K (.cells [d.tx,Q J (d.fil.syn:Int)]):=p3.get hd.cells λM=>k4 _ M rfl
   have aa:j.cells=[j]/\j.known=I:=by
    rcases p2 with ⟨rfl,_⟩|⟨t',e',rfl,_⟩|rfl <;> exact⟨rfl,rfl⟩
   have s1:=st g1 0 (v:=j) aa.1 aa.2 U;have u:=k3 d.f (by simp[FD.own]);have af:o∉ZN d.tx:=λM=>(k3 o (by simp[FD.own,M])).1 rfl;have ad:m∉ZN d.tx:=λM=>(k3 m (by simp[FD.own,M])).2 rfl;have g2:H2[o]?=K (.cells (WO m s.tick)):=p3.get hc af;have g3:=Y2 (.cells (zO [d.tx,Q J (d.fil.syn:Int)] 0 j)) u.1 g2;have n1:=ld g3 1 (v:=Q J (ZB s.files:Int)) (by rw[<-Qo s];rfl);have s2:=st g3 1 (v:=Q J ((ZB s.files+O t:Nat):Int)) rfl rfl (by simp[WO]);have S:=Zs (zJ (zO (WO m s.tick) 1 (Q J ((ZB s.files+O t:Nat):Int)))) g3;have n2:=ld S 2 (v:=Q J (s.peak:Int)) (by rw[<-ZvG s];rfl);have n3:=ld S 1 (v:=Q J ((ZB s.files+O t:Nat):Int)) rfl;have ae:max (s.peak:Int) ((ZB s.files+O t:Nat):Int)=((max s.peak (ZB s.files+O t):Nat):Int):=X
   have s3:=st S 2 (v:=Q J ((max s.peak (ZB s.files+O t):Nat):Int)) rfl rfl (by simp[WO]);have g5:=Zs (zJ (zO (zO (WO m s.tick) 1 (Q J ((ZB s.files+O t:Nat):Int))) 2 (Q J ((max s.peak (ZB s.files+O t):Nat):Int)))) S;generalize D:H2.set d.f (.cells (zO [d.tx,Q J (d.fil.syn:Int)] 0 j))=H3 at s1 g3 n1 s2 S n2 n3 s3 g5;generalize E:H3.set o (.cells (zO (WO m s.tick) 1 (Q J ((ZB s.files+O t:Nat):Int))))=H4 at s2 S n2 n3 s3 g5;generalize F:H4.set o (.cells (zO (zO (WO m s.tick) 1 (Q J ((ZB s.files+O t:Nat):Int))) 2 (Q J ((max s.peak (ZB s.files+O t):Nat):Int))))=H5 at s3 g5
   have hS:Stp (o::d.own) H1 H5:=by
    refine (p3.mono (B:=o::d.own) λx M=>by simp[FD.own,M]).trans (B:=o::d.own) (C:=o::d.own) ?_ (λ_ h=>h) λ_ h=>.inl h;rw[<-F,<-E,<-D];exact ((Stp.set _ _ (by simp[FD.own])).trans (Stp.set _ _ U) (λ_ h=>h) λ_ h=>.inl h).trans (Stp.set _ _ U) (λ_ h=>h) λ_ h=>.inl h
   have w:∀ y,y≠o->y≠d.f->H5[y]?=H2[y]?:=λy h1 h2=>by
    rw[<-F,zC (λe=>h1 e.symm),<-E,zC (λe=>h1 e.symm),<-D,zC (λe=>h2 e.symm)]
   have z:∀ y∈FD.own { d with fil:={ d.fil with text:=d.fil.text++t },tx:=j },y∈d.own\/O H1<=y:=λy g=>by
    rcases zF.1 g with e|g
    ·subst e;exact .inl (by simp[FD.own])
    ·rcases p4 y g with k|k
     ·exact .inl (by simp[FD.own,k])
     ·exact .inr X
   have Z:∀ y∈d.own,y<O H1:=hd.lt
   have hT:∀ y∈ZN j,y≠o/\y≠d.f:=λy g=>by
    rcases p4 y g with k|k
    ·exact⟨(k3 y (by simp[FD.own,k])).1,k4 y k⟩
    ·have:=Zn hc;have:=Z d.f (by simp[FD.own]);omega
   have ag:ZB (Ra s.files n λf=>{ f with text:=f.text++t })=ZB s.files+O t:=by
    rw[L,<-h.files,iX a d b n _ c3 c4,IR,zQ];omega
   have ab:=N.upd (H':=H5) (d':={ d with fil:={ d.fil with text:=d.fil.text++t },tx:=j }) (s':={ s.tick with files:=Ra s.files n λf=>{ f with text:=f.text++t },peak:=max s.peak (ZB s.files+O t) })
    (by rw[g5];simp only[ag];rfl)
    (by rw[w m (λe=>h.om e.symm) (λe=>u.2 e.symm)];exact p3.at' m (Zn N.map) ad)
    rfl (by show Ra s.files n _=_;rw[<-h.files,iX a d b n _ c3 c4])
    ⟨by
     rw[<-F,zC (λe=>u.1 e.symm),<-E,zC (λe=>u.1 e.symm),<-D];exact Zs _ g1,p2.frame λy g=>w y (hT y g).1 (hT y g).2⟩ hS
    (by
     rw[FD.own,zE];refine⟨λg=>(hT _ g).2 rfl,?_⟩;show (ZN j).Nodup;rcases p2 with ⟨rfl,_⟩|⟨t',e',rfl,_⟩|rfl <;> simp[ZN])
    z
   refine⟨H5,_,?_,h.fileRes q3 ab hS z⟩;simp only[q1,go_sem,zA,zB,R,Gt,l0,l1,hw,e2,HH,m0,p1,s1,n1,s2,n2,n3,ae,s3]
theorem ZvT {H:Hp}{o:Nat}{s:Sto}{A:da}(h:StoreAt H o s A)(M:StoOk s)(n:Zx)(i k:Int)(hi:-9223372036854775808<=i/\i<=9223372036854775807) :
 ∃ H',G3 [.ptr o 0,.str n,Q J i,Q J k] H=K (.tuple [.str (s.read n i k).1,Q J (s.read n i k).2],H')/\StoRes H H' o s.tick A A:=by
 obtain⟨m,ac,ds,h,rfl⟩:=h;obtain⟨p,e,H1,q1,D,q3,q4⟩:=iA h M.count n;rw[aT];unfold Mw Sto.read;rcases q4 with ⟨B,rfl⟩|⟨B,c2,rfl⟩|⟨B,rfl,a,d,b,rfl,c3,c4,c5,rfl⟩
 ·have C:((19:Int) != 0)=I:=rfl;rw[if_pos B];exact⟨H1,by simp only[q1,go_sem,zA,zB,C],D.res q3⟩
 ·have C:((5:Int) != 0)=I:=rfl;rw[if_neg (by simp[B]),c2];exact⟨H1,by simp only[q1,go_sem,zA,zB,C],D.res q3⟩
 ·have C:((0:Int) != 0)=Y:=rfl;rw[if_neg (by simp[B]),c5];obtain⟨k1,E,k3,k4⟩:=D.mid;have m0:=ld E.cells 0 (v:=d.tx) rfl;have u:=E.text.len 5
  have F:ZB s.files=ZB (a.map FD.fil)+(O d.fil.text+ZB (b.map FD.fil)):=by
   rw[<-h.files,zN,zG,IR]
  have T:=M.used;have ab:=M.limit;refine⟨H1,?_,D.res q3⟩;simp only[q1,go_sem,zA,zB,C,OW];by_cases g:i<0
  ·simp only[decide_eq_true g,go_sem,if_pos (show i<0\/(O d.fil.text:Int)<i\/k<0 from .inl g)]
  by_cases w:(O d.fil.text:Int)<i
  ·simp only[decide_eq_false g,go_sem,m0,u,decide_eq_true w,if_pos (show i<0\/(O d.fil.text:Int)<i\/k<0 from .inr (.inl w))]
  by_cases z:k<0
  ·simp only[decide_eq_false g,go_sem,m0,u,decide_eq_false w,decide_eq_true z,if_pos (show i<0\/(O d.fil.text:Int)<i\/k<0 from .inr (.inr z))]
  have R:¬ (i<0\/(O d.fil.text:Int)<i\/k<0):=X
  have Z:xO.wrap ((O d.fil.text:Int)-i)=(O d.fil.text:Int)-i:=Zo X X;have aa:xO.wrap (i+min k ((O d.fil.text:Int)-i))=((i.toNat+min k.toNat (O d.fil.text-i.toNat):Nat):Int):=by rw[Zo X X];omega
  obtain⟨y,p1,p2⟩:=E.text.part (i:=i.toNat) (j:=i.toNat+min k.toNat (O d.fil.text-i.toNat)) X X H1;have L:((i.toNat:Nat):Int)=i:=X
  rw[L]at p1
  have S:(d.fil.text.take (i.toNat+min k.toNat (O d.fil.text-i.toNat))).drop i.toNat=(d.fil.text.drop i.toNat).take k.toNat:=by
   rw[List.drop_take,Nat.add_sub_cancel_left];by_cases N:k.toNat<=O d.fil.text-i.toNat
   ·rw[Nat.min_eq_left N]
   ·rw[Nat.min_eq_right X,zW U,zW (by simp;omega)]
  rw[S]at p2;simp only[decide_eq_false g,go_sem,m0,u,decide_eq_false w,decide_eq_false z,OX,Z,aa,p1,p2,if_neg R]
def CZ (h x8:AV):Option AV :=
 Z0 (Z3 .geq h (.int .u8 97)) λu =>
 Z0 (Z7 u I bh (K h)) λC =>
 Z0 (Z7 u I bh (Z3 .leq C (.int .u8 122))) λD =>
 Z0 (Zm u D (.bool Y)) λj =>
 Z0 (Z7 j Y bh (K h)) λE =>
 Z0 (Z7 j Y bh (Z3 .geq E (.int .u8 65))) λF =>
 Z0 (Z7 j Y bh (K F)) λw =>
 Z0 (Z7 w I bh (K h)) λH =>
 Z0 (Z7 w I bh (Z3 .leq H (.int .u8 90))) λL =>
 Z0 (Z7 j Y bh (Zm w L (.bool Y))) λM =>
 Z0 (Zm j (.bool I) M) λy =>
 Z0 (Z7 y Y bh (K h)) λN =>
 Z0 (Z7 y Y bh (Z3 .eql N (.int .u8 95))) λR =>
 Z0 (Zm y (.bool I) R) λz =>
 Z0 (Z7 z Y bh (K h)) λS =>
 Z0 (Z7 z Y bh (Z3 .eql S (.int .u8 46))) λT =>
 Z0 (Zm z (.bool I) T) λZ =>
 Z0 (Xa .not Z) λg =>
 Z0 (Z7 g I bh (K x8)) λaa =>
 Z0 (Z7 g I bh (Z3 .eql aa (Q J 0))) λab =>
 Z0 (Z7 g I bh (K ab)) λA =>
 Z0 (Z7 A Y bh (K h)) λac =>
 Z0 (Z7 A Y bh (Z3 .lss ac (.int .u8 48))) λad =>
 Z0 (Z7 g I bh (Zm A (.bool I) ad)) λae =>
 Z0 (Z7 g I bh (K ae)) λB =>
 Z0 (Z7 B Y bh (K h)) λaf =>
 Z0 (Z7 B Y bh (Z3 .gtr af (.int .u8 57))) λag =>
 Z0 (Z7 g I bh (Zm B (.bool I) ag)) λah =>
 Z0 (Zm g ah (.bool Y)) λai =>
 K ai
theorem Zea (u w j y:AV)(H0 H:Hp):Dg u w j y H0 H =
 Z0 (Zz u j) λh =>
 Z0 (CZ h j) λg =>
 Zl g (K ((.bool Y),H)) (Dh u w j H0 H):=by
 rw[iR];simp only[CZ,Rn,Ww]
theorem Zi7:((xN 256).all λn=>(Tw (CZ (.int .u8 (n:Int)) (Q J 1))==K (!(gF (zR n) || Znk (zR n))))&&(Tw (CZ (.int .u8 (n:Int)) (Q J 0))==K (!gF (zR n))))=I:=df
theorem ZnB (b:UInt8):CZ (.int .u8 b.toNat) (Q J 0)=K (.bool (!gF b)):=by
 have h:=Wi Zi7 (Zca b);simp only[zX,beq_iff_eq,yY]at h;exact Qv h.2
theorem Zpq (b:UInt8){i:Int}(hi:(i==0)=Y):CZ (.int .u8 b.toNat) (Q J i)=K (.bool (!(gF b || Znk b))):=by
 have h:=Wi Zi7 (Zca b);simp only[zX,beq_iff_eq,yY]at h;rw[<-Qv h.1];have e:Z3 .eql (Q J i) (Q J 0)=Z3 .eql (Q J 1) (Q J 0):=by simp only[Z3,Wj,Wk,hi];rfl
 unfold CZ
 iterate 18 refine congrArg (Z0 _) (funext λt=>?_)
 cases t with
 |bool b =>
  cases b
  ·rfl
  ·simp only[ZnH,Ww,e]
 |_=>rfl
theorem ZnC (s:Zx)(H0 H:Hp):Df (.str s) H0 H=K (.bool (!s.isEmpty&&decide (O s<=32)),H):=by
 rw[iQ]
 cases s with
 |nil=>simp[go_sem,YK,F5]
 |cons b l =>
  simp only[YK,F5,go_sem,Zk];have:(!((b::l)==([]:Zx)))=I:=rfl;have c:decide (((b::l).length:Int)<=32)=decide ((b::l).length<=32):=by rw[Bool.eq_iff_iff];simp;omega
  simp only[this,go_sem,c,yZ,yB,yI]
theorem ZrJ (s:Zx)(B:O s<=1048576)(H0 H:Hp):∀ (k i:Nat),O s-i=k->0<i->i<=O s ->
 QT (.str s) (Q J (O s)) (Q J i) H0 H=K (.bool (((s.drop i).all λc=>gF c || Znk c)&&(!s.isEmpty&&decide (O s<=32))),H):=by
 intro k
 induction k with
 |zero =>
  intro i y u hi;rw[VZ];have g:decide ((i:Int)<(O s:Int))=Y:=by simp;omega
  have w:s.drop i=[]:=List.drop_eq_nil_iff.2 X;simp only[go_sem,g,ZnC s,w,List.all_nil,yI]
 |succ k z =>
  intro i y u hi;rw[VZ];have j:i<O s:=X
  have g:decide ((i:Int)<(O s:Int))=I:=by simp;omega
  have hw:xO.wrap ((i:Int)+1)=((i+1:Nat):Int):=by rw[Zo X X];omega
  have h:((i:Int)==0)=Y:=by simp;omega
  simp only[go_sem,g,Zea,ZO (yG j),Zpq _ h];rw[List.drop_eq_getElem_cons j,xI]
  cases A:(gF s[i] || Znk s[i]) with
  |false=>simp only[go_sem,yB,yV]
  |true =>
   simp only[go_sem,yF,yI,P9,hw];exact z (i+1) X X X
theorem ZrI (s:Zx)(u:O s<=1048576)(H:Hp):Ze FP [.str s] H=K (.bool (FK s),H):=by
 refine XD (a':=.str s) rfl (H1:=[]) ?_ rfl;rw[lN];unfold SW;simp only[go_sem,Zk]
 cases s with
 |nil=>rw[VZ];simp[go_sem,ZnC [],FK]
 |cons b l =>
  rw[VZ];have h:decide ((0:Int)<((b::l).length:Int))=I:=U
  have hw:xO.wrap ((0:Int)+1)=((0+1:Nat):Int):=co
  have g:Zz (.str (b::l)) (Q J 0)=K (.int .u8 b.toNat):=by simp[Zz]
  simp only[go_sem,h,Zea,g,ZnB];unfold FK
  cases j:gF b with
  |false=>simp only[go_sem,yB,j,yV]
  |true =>
   have:=ZrJ (b::l) u [] [] (O l) 1 U X U;rw[show ((1:Nat):Int)=((0+1:Nat):Int) from rfl]at this;simp only[go_sem,yF,P9,hw,this];simp only[xH,xE,yZ,yB,yI,j]
theorem Zz9 {H:Hp}{m g:Nat}{j:List (AV×AV×Nat)}(h:H[m]?=K (.map j g)):Jw (.map m) H=K (Q J (O j:Int)):=by
 unfold Jw Xq;dsimp only;rw[h]
theorem Zqw {H:Hp}{o:Nat}{s:Sto}{A:da}(h:StoreAt H o s A)(hk:StoOk s)(n:Zx)(hn:O n<=1048576) :
 ∃ H' A',Js [.ptr o 0,.str n] H=K (Q J (s.create n).1,H')/\StoRes H H' o (s.create n).2 A A':=by
 obtain⟨m,g,w,h,rfl⟩:=h;obtain⟨H1,F,B,M⟩:=Zl0 h hk.count;have z:=ZrI n hn H1;have hc:H1[o]?=K (.cells (WO m s.tick)):=B.cells;have l3:=ld hc 3 (v:=.map m) rfl;have S:=B.look n;rw[Qo]at S;have E:=Zz9 B.map;have ac:(w.map FD.ent).length=O s.files:=by rw[yA,<-h.files,yA]
 rw[ac]at E;rw[HW];unfold RP Sto.create
 cases R:s.tick.crashed with
 |true =>
  rw[R]at F;rw[if_pos rfl];exact⟨H1,_,by simp only[go_sem,F],B.res M⟩
 |false =>
  rw[R]at F;rw[if_neg U]
  cases Z:FK n with
  |false =>
   rw[Z]at z;rw[if_pos rfl];exact⟨H1,_,by simp only[go_sem,F,z,yB],B.res M⟩
  |true =>
   rw[Z]at z;rw[if_neg U];rcases S with ⟨k1,k2⟩|⟨a,d,b,k1,k2,k3,k4,k5⟩
   ·rw[k1];by_cases N:64<=O s.files
    ·have e1:decide ((64:Int)<=(O s.files:Int))=I:=by rw[decide_eq_true_eq];omega
     simp only[if_pos N];exact⟨H1,_,by simp only[go_sem,F,z,yF,l3,k2,E,e1],B.res M⟩
    ·have e1:decide ((64:Int)<=(O s.files:Int))=Y:=by simp;omega
     have e2:YJ (.map 9 109) .eql (.map m) .nilm=K (.bool Y):=rfl;have ab:ZF (.agg [.nils,Q J 0]) H1=K (.ptr (O H1) 0,H1++[.cells [.nils,Q J 0]]):=rfl;have T:(H1++[zJ [.nils,Q J 0]])[m]?=K (.map (w.map FD.ent) g):=Y8 B.map _
     have aa:XC .string (.map m) (.str n) (.ptr (O H1) 0) (H1++[zJ [.nils,Q J 0]])=K (.tuple [],(H1++[zJ [.nils,Q J 0]]).set m (.map (w.map FD.ent++[(.str n,.ptr (O H1) 0,g)]) (g+1))):=by
      have ad:Wo .string (.str n)=I:=rfl;unfold XC;dsimp only;rw[T];dsimp only;rw[if_pos ad,Zi4 w n 0 (by rw[h.files];exact k1)]
     simp only[if_neg N];have ag:=Zn B.map;have ah:=Zn hc
     have hS:Stp [o,m] H1 ((H1++[zJ [.nils,Q J 0]]).set m (.map (w.map FD.ent++[(.str n,.ptr (O H1) 0,g)]) (g+1))) :=
      (Stp.push (A:=[o,m]) H1 _).trans (Stp.set _ _ U) (λ_ h=>h) λ_ h=>.inl h
     have D:∀ d∈w,FileAt ((H1++[zJ [.nils,Q J 0]]).set m (.map (w.map FD.ent++[(.str n,.ptr (O H1) 0,g)]) (g+1))) d:=λd u=>(B.file d u).frame λy L=>by
      have:=B.own_lt u L;exact hS.at' y ((B.file d u).lt y L) (by simp[this.1,this.2])
     have ae:=B.lt;have ai:=ld (Y8 hc [zJ [.nils,Q J 0]]) 3 (show (WO m s.tick)[3]?=K (.map m) from rfl);refine⟨(H1++[zJ [.nils,Q J 0]]).set m (.map (w.map FD.ent++[(.str n,.ptr (O H1) 0,g)]) (g+1)),o::m::(w++[FD.mk ⟨n,[],0⟩ (O H1) .nils g]).flatMap FD.own,?_,⟨⟨m,g+1,w++[⟨⟨n,[],0⟩,O H1,.nils,g⟩],⟨?_,?_,?_,?_,?_,?_⟩,rfl⟩,?_,?_⟩⟩
     ·simp only[go_sem,F,z,yF,l3,k2,E,e1,HI,e2,HJ,ab,aa]
     ·show _=s.files++[_];rw[zN,h.files];rfl
     ·rw[Y2 _ h.om.symm (Y8 hc _)];simp only[WO,Wn,ZB,Qo];rfl
     ·rw[Zs _ T];simp[FD.ent]
     ·intro d u;rcases zM.1 u with u|u
      ·exact D d u
      ·rw[zH.1 u];exact⟨Y2 _ (by show m≠O H1;omega) U,.inl ⟨rfl,rfl⟩⟩
     ·rw[zK];have h0:=h.nd;have j:(o::m::w.flatMap FD.own)++[O H1]=o::m::(w.flatMap FD.own++[FD.mk ⟨n,[],0⟩ (O H1) .nils g].flatMap FD.own):=by simp[FD.own,ZN]
      rw[<-j,zS];refine⟨h0,U,λx j y L=>?_⟩;rw[zH.1 L];have:=ae x j;omega
     ·obtain⟨b1,b2⟩:=h.born;refine⟨?_,λd u=>?_⟩
      ·rw[zN,zS];refine⟨b1,U,λx j y L=>?_⟩;obtain⟨d,u,rfl⟩:=yN.1 j;have:=b2 d u;simp at L;omega
      ·rcases zM.1 u with u|u
       ·have:=b2 d u;omega
       ·rw[zH.1 u];simp
     ·refine (M.trans hS (C:=o::m::w.flatMap FD.own) (λx j=>by rw[zH.1 j];simp) λx j=>.inl ?_);simp at j;rcases j with e|e <;> subst e <;> simp
     ·intro x j;rcases zF.1 j with e|j
      ·subst e;exact .inl U
      rcases zF.1 j with e|j
      ·subst e;exact .inl U
      rw[zK]at j;rcases zM.1 j with j|j
      ·exact .inl (by simp[j])
      ·have af:x=O H1:=by simpa[FD.own,ZN]using j
       rw[af];exact .inr M.len
   ·rw[k4];exact⟨H1,_,by simp only[go_sem,F,z,yF,l3,k5],B.res M⟩
theorem ZaA {α:Type}(a:List α)(d:α)(b:List α):(a++d::b).eraseIdx (O a)=a++b:=by
 induction a with
 |nil=>rfl
 |cons x a g=>simp only[zY,yC,List.eraseIdx_cons_succ,g]
theorem Zhq {H:Hp}{o:Nat}{s:Sto}{A:da}(h:StoreAt H o s A)(hk:StoOk s)(n:Zx) :
 ∃ H' A',VN [.ptr o 0,.str n] H=K (Q J (s.remove n).1,H')/\StoRes H H' o (s.remove n).2 A A':=by
 obtain⟨m,j,ds,h,rfl⟩:=h;obtain⟨p,e,H1,q1,D,q3,q4⟩:=iA h hk.count n;rw[HX];unfold RQ Sto.remove;rcases q4 with ⟨M,rfl⟩|⟨M,c2,rfl⟩|⟨M,rfl,a,d,b,rfl,c3,c4,c5,rfl⟩
 ·have N:((19:Int)==0)=Y:=rfl;rw[if_pos M];exact⟨H1,_,by simp only[q1,go_sem,zA,zB,N,Up],D.res q3⟩
 ·have N:((5:Int)==0)=Y:=rfl;rw[if_neg (by simp[M]),c2];exact⟨H1,_,by simp only[q1,go_sem,zA,zB,N,Up],D.res q3⟩
 ·have N:((0:Int)==0)=I:=rfl;rw[if_neg (by simp[M]),c5];obtain⟨k1,hd,k3,k4⟩:=D.mid
  have F:ZB s.files=ZB (a.map FD.fil)+(O d.fil.text+ZB (b.map FD.fil)):=by
   rw[<-h.files,zN,zG,IR]
  have T:Vt s.files n=a.map FD.fil++b.map FD.fil:=by rw[<-h.files,Zzq a d b n c3 c4]
  have ad:ZB (Vt s.files n)=ZB s.files-O d.fil.text:=by rw[T,Wn,F];omega
  have ae:=hk.used;have ag:=hk.limit;have Z:H1[o]?=K (.cells (WO m s.tick)):=D.cells;have l1:=ld Z 1 (v:=Q J (ZB s.files:Int)) (by rw[<-Qo s];rfl);have l3:=ld Z 3 (v:=.map m) rfl;have m0:=ld hd.cells 0 (v:=d.tx) rfl;have S:=hd.text.len 5
  have ac:Yo .string .nilp Y (.map m) (.str n) H1=K (.ptr d.f 0):=by
   rcases D.look n with ⟨k,_⟩|⟨a',d',b',k5,k6,k7,k8,k9⟩
   ·rw[Qo,c5]at k;cases k
   ·rw[k9];have u:YX (.str n) ((a++d::b).map FD.ent) 0=YX (.str n) ((a'++d'::b').map FD.ent) 0:=by rw[k5]
    rw[EZ a d b n 0 c3 c4,EZ a' d' b' n 0 k6 k7]at u;injection u with u;injection u with u;injection u with _ u;injection u with u;rw[u]
  have hw:xO.wrap ((ZB s.files:Int)-(O d.fil.text:Int))=((ZB s.files-O d.fil.text:Nat):Int):=by rw[Zo X X];omega
  have s1:=st Z 1 (v:=Q J ((ZB s.files-O d.fil.text:Nat):Int)) rfl rfl (by simp[WO]);have g1:=Zs (zJ (zO (WO m s.tick) 1 (Q J ((ZB s.files-O d.fil.text:Nat):Int)))) Z;have g2:=Y2 (.cells (zO (WO m s.tick) 1 (Q J ((ZB s.files-O d.fil.text:Nat):Int)))) h.om D.map;have n3:=ld g1 3 (v:=.map m) rfl;generalize aa:H1.set o (.cells (zO (WO m s.tick) 1 (Q J ((ZB s.files-O d.fil.text:Nat):Int))))=L at s1 g1 g2 n3
  have R:J7 .string (.map m) (.str n) L=K (.tuple [],L.set m (.map ((a++b).map FD.ent) j)):=by
   have ab:Wo .string (.str n)=I:=rfl;unfold J7;dsimp only;rw[g2];dsimp only;rw[if_pos ab,EZ a d b n 0 c3 c4];dsimp only;rw[zD,zN,zG,show O a=(a.map FD.ent).length by simp,ZaA,zN]
  have hS:Stp [o,m] H1 (L.set m (.map ((a++b).map FD.ent) j)):=by
   rw[<-aa];exact (Stp.set _ _ U).trans (Stp.set _ _ U) (λ_ h=>h) λ_ h=>.inl h
  have g:∀ y∈a++b,y∈a++d::b:=λy B=>by rcases zM.1 B with k|k <;> simp[k]
  refine⟨L.set m (.map ((a++b).map FD.ent) j),o::m::(a++b).flatMap FD.own,?_,⟨⟨m,j,a++b,⟨?_,?_,?_,?_,?_,?_⟩,rfl⟩,?_,?_⟩⟩
  ·have E:G5 [.ptr o 0,.str n] H1=K (.tuple [],L.set m (.map ((a++b).map FD.ent) j)):=by
    rw[aV];unfold My;simp only[go_sem,l3,ac,l1,m0,S,hw,s1,n3,R]
   simp only[q1,go_sem,zA,zB,N,E,Up]
  ·show _=Vt s.files n;rw[T,zN]
  ·rw[Y2 _ h.om.symm g1];simp only[WO,ad];rfl
  ·exact Zs _ g2
  ·intro y B;refine (D.file y (g y B)).frame λz hz=>hS.at' z ((D.file y (g y B)).lt z hz) ?_;have:=D.own_lt (g y B) hz;simp[this.1,this.2]
  ·refine (yW ?_ h.nd);rw[zK,zK,zV];exact ((xA _).append (List.sublist_append_right _ _)).cons_cons m |>.cons_cons o
  ·obtain⟨b1,b2⟩:=h.born;refine⟨?_,λy B=>b2 y (g y B)⟩;rw[zN,zG]at b1;rw[zN];exact yW ((xA _).append (List.sublist_cons_self _ _)) b1
  ·refine q3.trans hS (C:=o::m::(a++d::b).flatMap FD.own) (λx w=>by rw[zH.1 w];simp) λx w=>.inl ?_;simp at w;rcases w with e|e <;> subst e <;> simp
  ·intro x w;rcases zF.1 w with e|w
   ·subst e;exact .inl U
   rcases zF.1 w with e|w
   ·subst e;exact .inl U
   obtain⟨y,B,af⟩:=xC.1 w;exact .inl (yK _ (yK _ (xC.2 ⟨y,g y B,af⟩)))
def S4 (l:List Fil):List Fil:=(JO (l.map Fil.name)).filterMap (Y5 l)
def Xn (f:Fil):AV:=.agg [.str f.name,Q J (O f.text:Int),Q J (f.syn:Int)]
theorem ZvC:∀ g:List FD,IN (g.map FD.ent)=K (g.map λd=>d.fil.name):=by
 intro g
 induction g with
 |nil=>rfl
 |cons d g h=>rw[zG,FD.ent,IN,h];rfl
theorem Zuk:∀ l:List Zx,l.Nodup->Ha l=I:=by
 intro l
 induction l with
 |nil=>intro _;rfl
 |cons s r w =>
  intro h;obtain⟨g,j⟩:=zE.1 h;simp only[Ha,zX,yJ];refine⟨λt u=>?_,w j⟩;have:t≠s:=λe=>g (e ▸ u);simp[this]
theorem Zwi (c:Nat):∀ l:da,l.Nodup->(∀ n∈l,n<c)->eY c l=I:=by
 intro l
 induction l with
 |nil=>intro _ _;rfl
 |cons s r z =>
  intro h g;obtain⟨j,u⟩:=zE.1 h;simp only[eY,zX,yJ,decide_eq_true_eq];refine⟨g s U,λt y=>?_,z u λn w=>g n (by simp[w])⟩;have:t≠s:=λe=>j (e ▸ y);simp[this]
theorem ZxA {n:Zx}(h:FK n=I):O n<=32:=by
 unfold FK at h;rw[zX,decide_eq_true_eq]at h;exact h.2
theorem ZuQ {H:Hp}{o m g:Nat}{u:List FD}{s:Sto}(h:StAt H o m g u s)(w:StoOk s):∃ x,namesE.run [.ptr o 0] H=K (x,H)/\SS x (JO (s.files.map Fil.name)):=by
 have y:u.map (λd=>d.fil.name)=s.files.map Fil.name:=by rw[<-h.files,xK];rfl
 have E:GX H o=K (Zir (s.files.map Fil.name)):=by
  unfold GX;rw[h.cells];dsimp only;rw[show ([xG .i64 (s.limit:Int),Q J (ZB s.files:Int),Q J (s.peak:Int),.map m,.bool s.crashed,Q J (s.count:Int)])[3]?=K (.map m) from rfl];dsimp only;rw[h.map];dsimp only;rw[ZvC,y];dsimp only;rw[if_pos]
  have z:=Zwi g _ h.born.1 λn j=>by
   obtain⟨d,A,rfl⟩:=yN.1 j;exact h.born.2 d A
  have B:(u.map FD.ent).map (·.2.2)=u.map FD.born:=by rw[xK];rfl
  rw[B,z,Zuk _ w.nd];simp only[yI,zX,yJ,decide_eq_true_eq,yA];refine⟨λt D=>?_,by have:=w.len;omega⟩;obtain⟨f,C,rfl⟩:=yN.1 D;have:=ZxA (w.name f C);omega
 refine⟨Zir (s.files.map Fil.name),?_,?_⟩
 ·show (GX H o).map (·,H)=_;rw[E];rfl
 ·unfold Zir;split
  ·rename_i j;exact .inl ⟨rfl,by rw[j];rfl⟩
  ·rename_i F r j;exact .inr ⟨.no,by rw[j]⟩
theorem ZuE {H0:Hp}{o m D:Nat}{ds:List FD}{s:Sto}(h:StAt H0 o m D ds s)(hk:StoOk s){x:AV}{j:List Zx}(hx:SS x j)(aa:∀ n∈j,∃ f,Y5 s.files n=K f)(hl:O j<=64)(HB:Hp):∀ (r d:List Zx) (M:AV) (H:Hp),j=d++r ->
 RowN (O H0) H 3 M ((d.filterMap (Y5 s.files)).map Xn)->Keep (O H0) H0 H->O H0<=O H ->
 ∃ y H',UG (.ptr o 0) M x (Q J (O j:Int)) (Q J (O d:Int)) HB H=K (y,H')/\RowN (O H0) H' 3 y ((j.filterMap (Y5 s.files)).map Xn)/\Keep (O H0) H0 H'/\O H0<=O H':=by
 intro r
 induction r with
 |nil =>
  intro d M H w N L g;rw[zU]at w;subst w;have C:decide ((O j:Int)<(O j:Int))=Y:=U
  rw[F3];simp only[go_sem,C,OT];exact⟨_,_,rfl,N,L,g⟩
 |cons n r ih =>
  intro d M H w N L g;have Z:O j=O d+(O r+1):=by rw[w];simp
  have C:decide ((O d:Int)<(O j:Int))=I:=by simp;omega
  have ab:xO.wrap ((O d:Int)+1)=((O d+1:Nat):Int):=by rw[Zo X X];omega
  have T:j[O d]?=K n:=by rw[w,zI (zL _)];simp
  have E:=SS.idx hx T;have u:StAt H o m D ds s:=h.frame λa ha=>L a (h.lt a ha);obtain⟨f,R⟩:=aa n (by rw[w];simp);have l3:=ld u.cells 3 (v:=.map m) rfl;rcases u.look n with ⟨k,_⟩|⟨a',d',b',k5,k6,k7,k8,k9⟩
  ·rw[R]at k;cases k
  ·have z:=u.file d' (by rw[k5];simp);have S:f=d'.fil:=by rw[R]at k8;injection k8
   have m0:=ld z.cells 0 (v:=d'.tx) rfl;have m1:=ld z.cells 1 (v:=Q J (d'.fil.syn:Int)) rfl;have B:=z.text.len 5;have A:(Yq [(0,1,.str n),(1,1,Q J (O d'.fil.text:Int)),(2,1,Q J (d'.fil.syn:Int))] [(.str []),(Q J 0),(Q J 0)]).map AV.agg=K (Xn d'.fil):=by rw[<-k6];rfl
   have F:(Zt 3 [(0,Xn d'.fil)] [(.agg [(.str []),(Q J 0),(Q J 0)])]).map (AV.vs 3 .clip)=K (.vs 3 .clip [Xn d'.fil]):=rfl;have ac:(d.filterMap (Y5 s.files)).length<=O d:=List.length_filterMap_le _ _;obtain⟨x',H1,q1,q2,q3,q4,_⟩:=N.app g 32 (.vs 3 .clip [Xn d'.fil]) [Xn d'.fil] rfl (by simp;omega);obtain⟨y,H',p1,p2,p3,p4⟩:=ih (d++[n]) x' H1 (by rw[w];simp) (by rw[List.filterMap_append,zN];simpa[R,S]using q2) (L.trans q4) q3;rw[zQ,zP]at p1;refine⟨y,H',?_,p2,p3,p4⟩;rw[F3];simp only[go_sem,C,OU,E,Zu,l3,k9,m0,m1,B,A,F,q1,OV,ab];exact p1
theorem Zvw (l:List Zx)(n:Zx):n∈JO l↔n∈l:=(P7 l).mem_iff
theorem Zx5 {l:List Fil}{n:Zx}(h:n∈l.map Fil.name):∃ f,Y5 l n=K f:=by
 cases j:Y5 l n with
 |some f=>exact⟨f,rfl⟩
 |none =>
  obtain⟨f,g,rfl⟩:=yN.1 h;exact absurd rfl (Zun.1 j f g)
theorem Zn9 (H:Hp)(n f:Nat)(x:Fil):Zh H n (f+2) (Xn x)=K (Xn x):=rfl
theorem Zxv (H:Hp)(n f:Nat):∀ l:List Fil,(l.map Xn).mapM (Zh H n (f+2))=K (l.map Xn):=by
 intro l
 induction l with
 |nil=>rfl
 |cons a l g=>rw[zG,xF,Zn9,g];rfl
theorem dI {f:c6->Hp->Z4}{args:c6}{H H1:Hp}{v v':AV}(h:f args H=K (v,H1))(g:Keep (O H) H H1)(w:O H<=O H1)(u:Zh H1 (O H) 9 v=K v'):Kb f args H=K (v',H):=by
 have j:H1.take (O H)=H:=by
  apply List.ext_getElem?;intro i;by_cases hi:i<O H
  ·rw[List.getElem?_take_of_lt hi,g i hi]
  ·rw[yU (by simp;omega),yU X]
 unfold Kb;rw[h];dsimp only;rw[j,if_pos (Zay _),u]
theorem Zq4 {H:Hp}{o:Nat}{s:Sto}{A:da}(h:StoreAt H o s A)(j:StoOk s):∃ x,Kb Vo [.ptr o 0] H=K (x,H)/\Sl 3 x ((S4 s.files).map Xn):=by
 obtain⟨m,D,N,h,rfl⟩:=h;obtain⟨x,M,C⟩:=ZuQ h j;have w:(JO (s.files.map Fil.name)).length<=64:=by rw[(P7 _).length_eq,yA];exact j.len
 obtain⟨y,H1,F,L,z,B⟩:=ZuE h j C (λn u=>Zx5 ((Zvw _ _).1 u)) w H _ [] .nils H rfl (.inl ⟨rfl,rfl⟩) (Keep.refl _ _) (zL _)
 have g:Vo [.ptr o 0] H=K (y,H1):=by
  rw[aS];unfold Mv;simp only[go_sem,OS,M,SS.len C 9];exact F
 rcases L with ⟨rfl,u⟩|⟨t,e,rfl,R,E⟩
 ·exact⟨.nils,dI g z B rfl,.inl ⟨rfl,u⟩⟩
 ·refine⟨.vs 3 (if t<O H then .own t e else .no) ((S4 s.files).map Xn),dI g z B (by rw[fA,Zxv];rfl),.inr ⟨_,rfl⟩⟩
theorem Zq5 (n:Int)(j:-9223372036854775808<=n/\n<=9223372036854775807)(H:Hp):∃ H',NK [Q J n] H=K (.ptr (O H+1) 0,H')/\StoreAt H' (O H+1) ⟨(min (max n 0) 262144).toNat,0,[],Y,0⟩ [O H+1,O H]/\H'=H++[.map [] 0,.cells [Q J (min (max n 0) 262144),Q J 0,Q J 0,.map (O H),.bool Y,Q J 0]]:=by
 have h:(Yq [(0,1,Q J (min (max n 0) 262144)),(3,1,.map (O H))] [(Q J 0),(Q J 0),(Q J 0),.nilm,(.bool Y),(Q J 0)]).map AV.agg=K (.agg [Q J (min (max n 0) 262144),Q J 0,Q J 0,.map (O H),.bool Y,Q J 0]):=rfl;have g:∀ l:c6,ZF (.agg l) (H++[.map [] 0])=K (.ptr (O H+1) 0,H++[.map [] 0]++[.cells l]):=λl=>by rw[GG rfl];simp[xM]
 refine⟨_,?_,⟨O H,0,[],⟨rfl,?_,?_,U,U,U,U⟩,rfl⟩,rfl⟩
 ·rw[Zjw];unfold Zds;simp only[go_sem,h,g,yP,zY,yR]
 ·have:((min (max n 0) 262144).toNat:Int)=min (max n 0) 262144:=X
  simp[ZB,this]
 ·simp
def Bb (a b:Int):Int:=IntKind.u32.wrap ((BitVec.ofInt IntKind.u32.bits a ^^^ BitVec.ofInt IntKind.u32.bits b).toNat:Int)
def eT (a b:Int):Int:=IntKind.u32.wrap ((BitVec.ofInt IntKind.u32.bits a &&& BitVec.ofInt IntKind.u32.bits b).toNat:Int)
theorem ZrR (a b:Int):Z3 .xor (.int .u32 a) (.int .u32 b)=K (.int .u32 (Bb a b)):=by simp[Z3,Wj,Wk,Bb]
theorem ZrQ (a b:Int):Z3 .and (.int .u32 a) (.int .u32 b)=K (.int .u32 (eT a b)):=by simp[Z3,Wj,Wk,eT]
def FY (k:IntKind)(n:Nat)(a:Int):Int:=a.fdiv (2 ^ (min n k.bits))
def Zy0 (a:Int):Int:=xO.wrap (a*2 ^ (min 8 IntKind.i64.bits))
theorem Ni (k k':IntKind)(a:Int)(n:Nat):Z3 .shr (.int k a) (.int k' (n:Int))=K (.int k (FY k n a)):=by
 simp only[Z3,Wj,FY];rw[if_neg X,zT]
theorem Ze4 (a:Int):0<=eT a 15/\eT a 15<16:=by
 have h:(BitVec.ofInt IntKind.u32.bits a &&& BitVec.ofInt IntKind.u32.bits 15).toNat<=15:=by
  rw[BitVec.toNat_and];exact xJ Nat.and_le_right co
 unfold eT;generalize (BitVec.ofInt IntKind.u32.bits a &&& BitVec.ofInt IntKind.u32.bits 15).toNat=n at h
 have:IntKind.u32.wrap (n:Int)=(n:Int):=by
  have g:(2 ^ IntKind.u32.bits:Int)=4294967296:=co
  have j:IntKind.u32.signed=Y:=rfl;unfold IntKind.wrap;simp only[g,j,yV,zZ,if_false];omega
 rw[this];omega
def ZsS (i:Int):Int:=crcTab.getD i.toNat 0
theorem Zqq {i:Int}(h:0<=i/\i<16)(H:Hp):∃ p,N7 16 1 Zri (.int .u32 i)=K p/\Z2 Y 1 p H=K (.int .u32 (ZsS i)):=by
 have g:O crcTab=16:=rfl;refine⟨.vp ((crcTab.map (xG .u32)).drop (i.toNat*1)),?_,?_⟩
 ·unfold N7;dsimp only;rw[if_pos X];unfold Z8 Zri;dsimp only;rw[if_pos (by simp[g];omega)]
 ·unfold Z2 Go.Am.apart ZsS;dsimp only;rw[if_neg U,List.getElem?_drop,xL,yT,List.getElem?_map,yG (show i.toNat<O crcTab by omega),yO,yG (show i.toNat<O crcTab by omega)];rfl
def Zii (c:Int):Int:=Bb (ZsS (eT c 15)) (FY .u32 4 c)
def Zyp (c:Int)(b:UInt8):Int:=Zii (Zii (Bb c (IntKind.u32.wrap (b.toNat:Int))))
def Na (s:Zx):Int:=s.foldl Zyp 4294967295
def OC (s:Zx):Int:=Bb IntKind.u32.max (Na s)
theorem ZwC (s:Zx)(R:O s<=1048576)(H0 H:Hp):∀ (r d:Zx),s=d++r->TQ (.str s) (.int .u32 (Na d)) (Q J (O s:Int)) (Q J (O d:Int)) H0 H=K (.int .u32 (OC s),H):=by
 intro r
 induction r with
 |nil =>
  intro d h;rw[zU]at h;subst h;have g:decide ((O s:Int)<(O s:Int))=Y:=U
  have M:Xa .xor (.int .u32 (Na s))=K (.int .u32 (OC s)):=rfl;rw[Il];simp only[go_sem,g,Zib,M]
 |cons b r N =>
  intro d h;have z:O s=O d+(O r+1):=by rw[h];simp
  have g:decide ((O d:Int)<(O s:Int))=I:=by simp;omega
  have y:xO.wrap ((O d:Int)+1)=((O d+1:Nat):Int):=by rw[Zo X X];omega
  have j:Zz (.str s) (Q J (O d:Int))=K (.int .u8 (b.toNat:Int)):=ZO (by rw[h,zI (zL _)];simp);have w:Yn .u32 (.int .u8 (b.toNat:Int))=K (.int .u32 (IntKind.u32.wrap (b.toNat:Int))):=rfl;obtain⟨S,C,D⟩:=Zqq (Ze4 (Bb (Na d) (IntKind.u32.wrap (b.toNat:Int)))) H;obtain⟨T,E,F⟩:=Zqq (Ze4 (Zii (Bb (Na d) (IntKind.u32.wrap (b.toNat:Int))))) H;have A:=Ni .u32 .u64 (Bb (Na d) (IntKind.u32.wrap (b.toNat:Int))) 4;have B:=Ni .u32 .u64 (Zii (Bb (Na d) (IntKind.u32.wrap (b.toNat:Int)))) 4;rw[show ((4:Nat):Int)=4 from rfl]at A B;have u:=N (d++[b]) (by rw[h];simp);rw[zQ,zP,show Na (d++[b])=Zyp (Na d) b by simp[Na]]at u;have L:Bb (ZsS (eT (Bb (Na d) (IntKind.u32.wrap (b.toNat:Int))) 15)) (FY .u32 4 (Bb (Na d) (IntKind.u32.wrap (b.toNat:Int))))=Zii (Bb (Na d) (IntKind.u32.wrap (b.toNat:Int))):=rfl;rw[Il];simp only[go_sem,g,Zic,j,w,ZrR,ZrQ,C,D,A,L,E,F,B,Zid,y];exact u
theorem ZwB (s:Zx)(g:O s<=1048576)(H:Hp):Ze O2 [.str s] H=K (.int .u32 (OC s),H):=by
 refine XD (a':=.str s) rfl (H1:=[]) ?_ rfl;rw[Zjs];unfold Zdo;simp only[go_sem];exact ZwC s g [] [] s [] rfl
def VJ (n:Int):UInt8:=zR (IntKind.u8.wrap n).toNat
def ZbL (s:Zx):Zx:=[VJ (OC s),VJ (FY .u32 8 (OC s)),VJ (FY .u32 16 (OC s)),VJ (FY .u32 24 (OC s))]
theorem Zoy (s:Zx)(z:O s<=1048576)(H:Hp):Ze NH [.str s] H=K (.str (ZbL s),H):=by
 have w:=Ni .u32 .u64 (OC s) 8;have g:=Ni .u32 .u64 (OC s) 16;have h:=Ni .u32 .u64 (OC s) 24;rw[show ((8:Nat):Int)=8 from rfl]at w;rw[show ((16:Nat):Int)=16 from rfl]at g;rw[show ((24:Nat):Int)=24 from rfl]at h;have y:∀ n,Yn .u8 (.int .u32 n)=K (.int .u8 (IntKind.u8.wrap n)):=λn=>rfl;have u:∀ a b c d:Int,(Zt 1 [(0,.int .u8 a),(1,.int .u8 b),(2,.int .u8 c),(3,.int .u8 d)] [(.int .u8 0),(.int .u8 0),(.int .u8 0),(.int .u8 0)]).map (AV.vs 1 .clip)=K (.vs 1 .clip [.int .u8 a,.int .u8 b,.int .u8 c,.int .u8 d]):=λa b c d=>rfl;have j:∀ (a b c d:Int) (H:Hp),Uh (.vs 1 .clip [.int .u8 a,.int .u8 b,.int .u8 c,.int .u8 d]) H=K (.str [zR a.toNat,zR b.toNat,zR c.toNat,zR d.toNat]):=λa b c d H=>rfl;refine XD (a':=.str s) rfl (H1:=[]) ?_ rfl;rw[Zjt];unfold Zdp;simp only[ZwB s z,go_sem,y,w,g,h,u,j];rfl
theorem Zox (s:Zx):(ZbL s).length=4:=rfl
def QL (s:Zx):Zx:=[VJ (FY .i64 8 (O s:Int)),VJ (O s:Int)]++s
def X0 (s:Zx):Zx:=QL s++ZbL (QL s)
theorem Jm (s:Zx):(QL s).length=O s+2:=by simp[QL]
theorem Gr (s:Zx):(X0 s).length=O s+6:=by simp[X0,Jm,Zox]
theorem ZxN (s:Zx)(C:O s<=1048576)(H:Hp):Ze PR [.str s] H=K (if 4096<O s then .tuple [.str [],Q J 3] else .tuple [.str (X0 s),Q J 0],H):=by
 refine XD (a':=.str s) rfl (H1:=[]) ?_ (by split <;> rfl)
 rw[Zce];unfold aJ;by_cases h:4096<O s
 ·have g:decide ((4096:Int)<(O s:Int))=I:=by rw[decide_eq_true_eq];omega
  simp only[go_sem,g,if_pos h]
 ·have g:decide ((4096:Int)<(O s:Int))=Y:=by simp;omega
  have y:=Ni .i64 .u64 (O s:Int) 8;rw[show ((8:Nat):Int)=8 from rfl]at y;have B:∀ n,Yn .u8 (Q J n)=K (.int .u8 (IntKind.u8.wrap n)):=λn=>rfl;have w:∀ a b:Int,(Zt 1 [(0,.int .u8 a),(1,.int .u8 b)] [(.int .u8 0),(.int .u8 0)]).map (AV.vs 1 .clip)=K (.vs 1 .clip [.int .u8 a,.int .u8 b]):=λa b=>rfl;have u:∀ (a b:Int) (H:Hp),Uh (.vs 1 .clip [.int .u8 a,.int .u8 b]) H=K (.str [zR a.toNat,zR b.toNat]):=λa b H=>rfl;have j:[zR (IntKind.u8.wrap (FY .i64 8 (O s:Int))).toNat,zR (IntKind.u8.wrap (O s:Int)).toNat]++s=QL s:=rfl;have z:YK .add (.str [zR (IntKind.u8.wrap (FY .i64 8 (O s:Int))).toNat,zR (IntKind.u8.wrap (O s:Int)).toNat]) (.str s)=K (.str (QL s)):=by rw[Hs (by simp;omega),j]
  have A:YK .add (.str (QL s)) (.str (ZbL (QL s)))=K (.str (X0 s)):=by rw[Hs (by rw[Jm,Zox];omega)];rfl
  simp only[go_sem,g,Zbb,y,B,w,u,z,Zoy (QL s) (by rw[Jm];omega),A,if_neg h]
def Y1:List Zx->Zx
 |[]=>[]
 |s::r=>X0 s++Y1 r
theorem Znr (a b:List Zx):Y1 (a++b)=Y1 a++Y1 b:=by
 induction a with
 |nil=>rfl
 |cons s a g=>simp only[zY,Y1,g,yP]
def ZJ:List Zx->Nat
 |[]=>0
 |s::r=>O s+6+ZJ r
theorem Wc (l:List Zx):(Y1 l).length=ZJ l:=by
 induction l with
 |nil=>rfl
 |cons s r g=>simp only[Y1,ZJ,zQ,Gr,g]
theorem Rp (a b:List Zx):ZJ (a++b)=ZJ a+ZJ b:=by
 induction a with
 |nil=>simp[ZJ]
 |cons s a g=>simp only[zY,ZJ,g];omega
def X5 (l:List Zx):Bool:=l.all λs=>decide (O s<=4096)
theorem Zy7 (g s:Zx)(h:O g+O s<=4194304):∃ v,textE.run [.ptr 0 0,.str s] [yS N8 N9 g]=K (v,[yS N8 N9 (g++s)]):=by
 have j:O g+O s<=ZfI:=by unfold ZfI;omega
 refine⟨.tuple [Q J (O s),.nili],?_⟩;simp only[textE,Zye,Zkh,CB,Zmz,zA,Zfj,and_self,if_true,if_pos j,List.set_cons_zero]
theorem ZwQ {x:AV}{l:List Zx}(Z:SS x l)(R:∀ s∈l,O s<=1048576)(hl:ZJ l<=4194304)(H0:Hp):∀ (r d:List Zx),l=d++r->X5 d=I ->
 ∃ H',KM (.ptr 0 0) x (Q J (O l:Int)) (Q J (O d:Int)) H0 [yS N8 N9 (Y1 d)]=K (if X5 l=I then .tuple [.str (Y1 l),Q J 0] else .tuple [.str [],Q J 3],H'):=by
 intro r
 induction r with
 |nil =>
  intro d j B;rw[zU]at j;subst j;have u:decide ((O l:Int)<(O l:Int))=Y:=U
  have E:stringE.run [.ptr 0 0] [yS N8 N9 (Y1 l)]=K (.str (Y1 l),[yS N8 N9 (Y1 l)]):=ZiT _;rw[MG];simp only[go_sem,u,Zb8,E,if_pos B];exact⟨_,rfl⟩
 |cons s r L =>
  intro d j B
  have y:∀ l:List Zx,6*O l<=ZJ l:=by
   intro l
   induction l with
   |nil=>simp[ZJ]
   |cons s l L=>simp only[ZJ,yC];omega
  have:=y l;have H:O l=O d+(O r+1):=by rw[j];simp
  have u:decide ((O d:Int)<(O l:Int))=I:=by simp;omega
  have F:xO.wrap ((O d:Int)+1)=((O d+1:Nat):Int):=by rw[Zo X X];omega
  have C:l[O d]?=K s:=by rw[j,zI (zL _)];simp
  have w:=SS.idx Z C;have S:=R s (by rw[j];simp);have g:=ZxN s S [yS N8 N9 (Y1 d)];rw[MG];by_cases h:4096<O s
  ·have D:X5 l=Y:=by
    rw[j];simp only[X5,List.all_append,xI];rw[show decide (O s<=4096)=Y by simp;omega];simp
   have N:((3:Int) != 0)=I:=rfl;rw[if_pos h]at g;simp only[go_sem,u,MF,w,Zu,g,zA,zB,N,D,zZ,if_false];exact⟨_,rfl⟩
  ·have e0:((0:Int) != 0)=Y:=rfl;rw[if_neg h]at g;have z:ZJ l=ZJ d+(O s+6+ZJ r):=by rw[j,Rp];rfl
   obtain⟨v,T⟩:=Zy7 (Y1 d) (X0 s) (by rw[Wc,Gr];omega);have A:Y1 (d++[s])=Y1 d++X0 s:=by rw[Znr];simp[Y1]
   obtain⟨H',M⟩:=L (d++[s]) (by rw[j];simp) (by
    have:X5 (d++[s])=(X5 d&&(decide (O s<=4096)&&I)):=by simp[X5]
    rw[this,B];simp;omega)
   rw[zQ,zP,A]at M;refine⟨H',?_⟩;simp only[go_sem,u,MF,w,Zu,g,zA,zB,e0,Zba,T,Zb9,F];exact M
theorem ZwP {x:AV}{l:List Zx}(u:SS x l)(h:∀ s∈l,O s<=1048576)(j:ZJ l<=4194304)(H:Hp) :
 Ze PQ [x] H=K (if X5 l=I then .tuple [.str (Y1 l),Q J 0] else .tuple [.str [],Q J 3],H):=by
 obtain⟨z,w,g⟩:=SS.closed u [] 0 7;obtain⟨H',y⟩:=ZwQ g h j [] l [] rfl rfl;refine XD w (H1:=H') ?_ (by split <;> rfl)
 rw[Zcd];unfold aI;simp only[go_sem,SS.len g 9,xD,yR];exact y
def Zsi (a b:Int):Int:=xO.wrap ((BitVec.ofInt IntKind.i64.bits a ||| BitVec.ofInt IntKind.i64.bits b).toNat:Int)
def Zyo (a b:UInt8):Int:=Zsi (Zy0 (xO.wrap (a.toNat:Int))) (xO.wrap (b.toNat:Int))
theorem Zve:((xN 4097).all λn=>decide (Zyo (VJ (FY .i64 8 (n:Int))) (VJ (n:Int))=(n:Int)))=I:=df
theorem ZxK {n:Nat}(h:n<=4096):Zyo (VJ (FY .i64 8 (n:Int))) (VJ (n:Int))=(n:Int):=by
 have:=yJ.1 Zve n (List.mem_range.2 X);simpa using this
theorem ZuS (s rest:Zx)(T:O s<=4096)(hr:O rest<=1048576)(H:Hp):Ze SC [.str (X0 s++rest),Q J 0] H=K (.tuple [.str s,Q J ((O s+6:Nat):Int),Q J 0],H):=by
 refine VT (a':=.str (X0 s++rest)) (b':=Q J 0) rfl rfl (H1:=[]) ?_ rfl;have j:(X0 s++rest).length=O s+6+O rest:=by rw[zQ,Gr]
 have h:X0 s++rest=VJ (FY .i64 8 (O s:Int))::VJ (O s:Int)::(s++(ZbL (QL s)++rest)):=by simp[X0,QL]
 generalize E:X0 s++rest=g at j h;have L:decide ((0:Int)<0)=Y:=rfl;have M:decide ((O g:Int)<0)=Y:=by rw[decide_eq_false_iff_not];omega
 have A:Y4 (.str g) (K (Q J 0)) V V=K (.str g):=by
  rw[eW .i64 X X];simp
 have N:decide ((O g:Int)<2)=Y:=by rw[decide_eq_false_iff_not];omega
 have Z:Zz (.str g) (Q J 0)=K (.int .u8 ((VJ (FY .i64 8 (O s:Int))).toNat:Int)):=ZO (i:=0) (by rw[h];rfl);have i1:Zz (.str g) (Q J 1)=K (.int .u8 ((VJ (O s:Int)).toNat:Int)):=ZO (i:=1) (by rw[h];rfl);have F:∀ n,Yn .i64 (.int .u8 n)=K (Q J (xO.wrap n)):=λn=>rfl;have z:∀ a:Int,Z3 .shl (Q J a) (.int .u64 8)=K (Q J (Zy0 a)):=λa=>rfl;have w:∀ a b:Int,Z3 .or (Q J a) (Q J b)=K (Q J (Zsi a b)):=λa b=>by simp[Z3,Wj,Wk,Zsi]
 have y:Zsi (Zy0 (xO.wrap ((VJ (FY .i64 8 (O s:Int))).toNat:Int))) (xO.wrap ((VJ (O s:Int)).toNat:Int))=(O s:Int):=ZxK T;have R:decide ((4096:Int)<(O s:Int))=Y:=by simp;omega
 have w6:xO.wrap ((O s:Int)+6)=((O s+6:Nat):Int):=by rw[Zo X X];omega
 have w2:xO.wrap ((O s:Int)+2)=((O s+2:Nat):Int):=by rw[Zo X X];omega
 have w0:xO.wrap (0+(O s:Int))=(O s:Int):=by rw[Zo X X];omega
 have S:decide ((O g:Int)<((O s+6:Nat):Int))=Y:=by simp;omega
 have B:Y4 (.str g) (K (Q J ((O s+2:Nat):Int))) (K (Q J ((O s+6:Nat):Int))) V=K (.str (ZbL (QL s))):=by
  rw[EM .i64 .i64 X X X];congr 2;rw[<-E,zT,zT,yM (by rw[Gr];exact zL _),zW (by rw[Gr];exact zL _)];unfold X0;rw[List.drop_append_of_le_length (by rw[Jm];exact zL _),List.drop_of_length_le (by rw[Jm];exact zL _)];rfl
 have C:Y4 (.str g) V (K (Q J ((O s+2:Nat):Int))) V=K (.str (QL s)):=by
  rw[ZhC .i64 X X];congr 2;rw[<-E,zT];unfold X0;rw[yP,yM (by rw[Jm];exact zL _),zW (by rw[Jm];exact zL _)]
 have D:Y4 (.str g) (K (Q J 2)) (K (Q J ((O s+2:Nat):Int))) V=K (.str s):=by
  rw[EM .i64 .i64 X X X];congr 2;rw[h,zT];simp
 have u:(!(ZbL (QL s)==ZbL (QL s)))=Y:=U
 rw[Zgr];unfold nT;simp only[go_sem,L,M,Zfw,A,N,Zfx,Z,i1,F,z,w,y,R,Zfy,w6,S,Zfz,w2,B,C,Zoy (QL s) (by rw[Jm];omega),u,ZfA,D,w0]
structure Tmp where
 owner:Zx
 names:List Zx
 sld:List Zx
 limit:Nat
 last:Nat
 closed:Bool
def NmAt (H:Hp)(x:AV)(l:List Zx):Prop:=x=.nils/\l=[]\/∃ t e,x=.vs 1 (.own t e) (l.map xB)/\H[t]?=K (.tok e)
theorem NmAt.ss {H:Hp}{x:AV}{l:List Zx}(h:NmAt H x l):SS x l:=by
 rcases h with ⟨rfl,rfl⟩|⟨t,e,rfl,_⟩
 ·exact .inl ⟨rfl,rfl⟩
 ·exact .inr ⟨_,rfl⟩
theorem NmAt.frame {H H':Hp}{x:AV}{l:List Zx}(h:NmAt H x l)(u:∀ a∈ZN x,H'[a]?=H[a]?):NmAt H' x l :=
 h.imp id λ⟨t,e,g,j⟩=>⟨t,e,g,(u t (by rw[g];simp[ZN])).trans j⟩
def VS (p:Zx×Nat):AV×AV×Nat:=(.str p.1,.bool I,p.2)
structure TmAt (H:Hp)(o t ms clk:Nat)(nx:AV)(sl:List (Zx×Nat))(tm:Tmp):Prop where
 cells:H[o]?=K (.cells [.ptr t 0,.str tm.owner,nx,.map ms,Q J (tm.limit:Int),Q J (tm.last:Int),.bool tm.closed])
 names:NmAt H nx tm.names
 map:H[ms]?=K (.map (sl.map VS) clk)
 sld:sl.map (·.1)=tm.sld
 nd:(o::ms::ZN nx).Nodup
def TmpAt (H:Hp)(o t:Nat)(tm:Tmp)(B:da):Prop:=∃ h g j sl,TmAt H o t h g j sl tm/\B=o::h::ZN j
structure TmpOk (tm:Tmp):Prop where
 owner:O tm.owner<=16
 limit:tm.limit<=9223372036854775807
 len:O tm.names<=tm.last
 last:tm.last<=1000000
theorem TmAt.lt {H:Hp}{o t u j:Nat}{w:AV}{sl:List (Zx×Nat)}{tm:Tmp}(h:TmAt H o t u j w sl tm):∀ a∈o::u::ZN w,a<O H:=by
 intro a g;rcases zF.1 g with e|g
 ·subst e;exact Zn h.cells
 rcases zF.1 g with e|g
 ·subst e;exact Zn h.map
 rcases h.names with ⟨e,_⟩|⟨t,e,y,z⟩
 ·rw[e]at g;cases g
 ·rw[y]at g;rw[zH.1 g];exact Zn z
theorem TmAt.frame {H H':Hp}{o t u g:Nat}{w:AV}{sl:List (Zx×Nat)}{tm:Tmp}(h:TmAt H o t u g w sl tm)(j:∀ a∈o::u::ZN w,H'[a]?=H[a]?):TmAt H' o t u g w sl tm :=
 ⟨(j _ U).trans h.cells,h.names.frame λa y=>j a (by simp[y]),(j _ U).trans h.map,h.sld,h.nd⟩
theorem TmpAt.lt {H:Hp}{o t:Nat}{tm:Tmp}{B:da}(h:TmpAt H o t tm B):∀ a∈B,a<O H:=by
 obtain⟨j,g,u,sl,h,rfl⟩:=h;exact h.lt
theorem TmpAt.stp {H H':Hp}{o t:Nat}{tm:Tmp}{B S:da}(h:TmpAt H o t tm B)(w:Stp S H H')(u:∀ a∈B,a∉S):TmpAt H' o t tm B:=by
 obtain⟨y,g,z,sl,h,rfl⟩:=h;exact⟨y,g,z,sl,h.frame λa j=>w.at' a (h.lt a j) (u a j),rfl⟩
def SysAt (H:Hp)(o t:Nat)(tm:Tmp)(s:Sto)(A:da):Prop:=∃ B S,TmpAt H o t tm B/\StoreAt H t s S/\(∀ a∈B,a∉S)/\A=B++S
structure SysRes (H H':Hp)(o t:Nat)(tm':Tmp)(s':Sto)(A A':da):Prop where
 at':SysAt H' o t tm' s' A'
 stp:Stp A H H'
 own:∀ a∈A',a∈A\/O H<=a
theorem SysAt.lt {H:Hp}{o t:Nat}{tm:Tmp}{s:Sto}{A:da}(h:SysAt H o t tm s A):∀ a∈A,a<O H:=by
 obtain⟨B,S,g,j,w,rfl⟩:=h;intro a u;rcases zM.1 u with k|k
 ·exact g.lt a k
 ·exact j.lt a k
theorem SysAt.stp {H H':Hp}{o t:Nat}{tm:Tmp}{s:Sto}{A C:da}(h:SysAt H o t tm s A)(u:Stp C H H')(j:∀ a∈A,a∉C):SysAt H' o t tm s A:=by
 obtain⟨B,S,w,y,z,rfl⟩:=h;exact⟨B,S,w.stp u λa g=>j a (by simp[g]),y.stp u λa g=>j a (by simp[g]),z,rfl⟩
theorem SysAt.self {H:Hp}{o t:Nat}{tm:Tmp}{s:Sto}{A:da}(h:SysAt H o t tm s A):SysRes H H o t tm s A A:=⟨h,Stp.refl _ _,λa g=>.inl g⟩
theorem SysAt.store {H H':Hp}{o t:Nat}{tm:Tmp}{s':Sto}{B S j:da}(u:TmpAt H o t tm B)(w:∀ a∈B,a∉S)(h:StoRes H H' t s' S j):SysRes H H' o t tm s' (B++S) (B++j):=by
 refine⟨⟨B,j,u.stp h.stp w,h.at',λa g y=>?_,rfl⟩,h.stp.mono λa g=>by simp[g],λa g=>?_⟩
 ·rcases h.own a y with k|k
  ·exact w a g k
  ·have:=u.lt a g;omega
 ·rcases zM.1 g with k|k
  ·exact .inl (by simp[k])
  ·rcases h.own a k with k|k
   ·exact .inl (by simp[k])
   ·exact .inr k
theorem ZU {H:Hp}{o:Nat}{l:c6}(h:H[o]?=K (.cells l))(i:Nat){v:AV}(g:l[i]?=K v):Z2 Y 1 (.ptr o i) H=K v:=by
 rw[Yk h];exact g
theorem Vb {H:Hp}{o:Nat}{l:c6}(h:H[o]?=K (.cells l))(i:Nat){v:AV}(j:v.cells=[v])(g:v.known=I)(hi:i<O l):Zc 1 (.ptr o i) v H=K (.tuple [],H.set o (.cells (l.set i v))):=by
 have:=st h i j g hi
 rwa [zD]at this
theorem ZrS {x:AV}{l:List Zx}(C:SS x l)(F:O l<=1048576)(n:Zx)(H0 H:Hp):∀ (r d:List Zx),l=d++r ->
 ∃ i:Int,X8 x (.str n) (Q J (O l:Int)) (Q J (O d:Int)) H0 H=K (Q J i,H)/\(0<=i↔n∈r):=by
 intro r
 induction r with
 |nil =>
  intro d h;rw[zU]at h;subst h;have g:decide ((O l:Int)<(O l:Int))=Y:=U
  refine⟨-1,?_,U⟩;rw[VD];simp only[go_sem,g,B4]
 |cons s r D =>
  intro d h;have A:O l=O d+(O r+1):=by rw[h];simp
  have g:decide ((O d:Int)<(O l:Int))=I:=by simp;omega
  have z:xO.wrap ((O d:Int)+1)=((O d+1:Nat):Int):=by rw[Zo X X];omega
  have y:l[O d]?=K s:=by rw[h,zI (zL _)];simp
  have j:=SS.idx C y;rw[VD];simp only[go_sem,g,B5,j,Zu];by_cases u:n=s
  ·have w:(n==s)=I:=by simpa using u
   simp only[w,go_sem];exact⟨_,rfl,by simp[u]⟩
  ·have w:(n==s)=Y:=by simpa using u
   obtain⟨i,B,E⟩:=D (d++[s]) (by rw[h];simp);rw[zQ,zP]at B;simp only[w,go_sem,B6,z];exact⟨i,B,by rw[E];simp[u]⟩
theorem kJ {x:AV}{l:List Zx}(u:SS x l)(j:O l<=1048576)(n:Zx)(H:Hp):Ze YW [x,.str n] H=K (.bool (decide (n∈l)),H):=by
 obtain⟨B,w,y⟩:=SS.closed u [] 0 7;obtain⟨C,h,g⟩:=SS.closed y [] 0 7;refine VT w (b':=.str n) rfl (H1:=[]) ?_ rfl;obtain⟨i,z,A⟩:=ZrS g j n [] [] l [] rfl
 have hi:Ze Ws [B,.str n] []=K (Q J i,[]):=by
  refine VT h (b':=.str n) rfl (H1:=[]) ?_ rfl;rw[BY];unfold UJ;simp only[go_sem,SS.len g 9];exact z
 rw[KX];unfold VI;simp only[hi,go_sem];congr 3;rw[decide_eq_decide];exact A
def Yp (tm:Tmp)(n:Zx):Int:=if tm.closed then 8 else if n∈tm.names then 0 else 5
theorem CY {H:Hp}{o t E w:Nat}{B:AV}{sl:List (Zx×Nat)}{tm:Tmp}(h:TmAt H o t E w B sl tm)(z:TmpOk tm)(n:Zx):Xo [.ptr o 0,.str n] H=K (Q J (Yp tm n),H):=by
 have j:=ZU h.cells 6 (v:=.bool tm.closed) rfl;have A:=ZU h.cells 2 (v:=B) rfl;have C:=z.len;have D:=z.last;have g:=kJ h.names.ss X n H;rw[SZ];unfold Rj Yp
 cases y:tm.closed with
 |true =>
  rw[y]at j;simp only[go_sem,zD,j,if_true]
 |false =>
  rw[y]at j;by_cases u:n∈tm.names
  ·rw[decide_eq_true u]at g;simp only[go_sem,zD,j,A,g,yF,Sp,if_pos u,zZ,if_false]
  ·rw[decide_eq_false u]at g;simp only[go_sem,zD,j,A,g,yB,if_neg u,zZ,if_false]
def ZkE (o:Zx):Zx:=[46,116,109,112,46]++o++[46]
def Ua (o:Zx)(n:Nat):Zx:=ZkE o++Go.Lib.itoa (n:Int)
def Pc (tm:Tmp)(s:Sto):(Zx×Int)×(Tmp×Sto) :=
 if tm.closed then (([],8),(tm,s)) else match s.create (Ua tm.owner (tm.last+1)) with
 |(e,s')=>if e=0 then ((Ua tm.owner (tm.last+1),0),({ tm with last:=tm.last+1,names:=tm.names++[Ua tm.owner (tm.last+1)] },s')) else (([],e),(tm,s'))
theorem NmAt.app {H:Hp}{x:AV}{l:List Zx}(h:NmAt H x l)(n:Zx)(A:O l<=1048576) :
 ∃ g H',ZR 1 16 x (.vs 1 .clip [.str n]) H=K (g,H')/\NmAt H' g (l++[n])/\Stp (ZN x) H H'/\(∀ a∈ZN g,a∈ZN x\/a=O H)/\g.cells=[g]/\g.known=I/\(ZN g).Nodup:=by
 unfold ZR;have z:Go.Am.elems 1 (.vs 1 .clip [.str n]) H=K [.str n]:=rfl;rw[z];have j:YB ((l.map xB).length+[xB n].length) 16=I:=by simp[YB];omega
 have u:YB [xB n].length 16=I:=rfl;rcases h with ⟨rfl,rfl⟩|⟨t,e,rfl,y⟩
 ·refine⟨.vs 1 (.own (O H) 1) [.str n],H++[.tok 1],?_,.inr ⟨O H,1,rfl,U⟩,Stp.push _ _,λa w=>.inr (zH.1 w),rfl,rfl,by simp[ZN]⟩;simp only[Ys,u,if_true];rw[if_neg U];rfl
 ·refine⟨.vs 1 (.own t (e+1)) (l.map xB++[.str n]),H.set t (.tok (e+1)),?_,.inr ⟨t,e+1,U,Zs _ y⟩,Stp.set _ _ (by simp[ZN]),λa w=>.inl (by simpa[ZN]using w),rfl,rfl,by simp[ZN]⟩;simp only[Ys,j,and_self,if_true,y];rw[if_neg U];rfl
theorem Zxl (n:Nat)(g:n<=9223372036854775807)(H:Hp):Ze SG [Q J (n:Int)] H=K (.str (Go.Lib.itoa (n:Int)),H):=by
 refine XD (a':=Q J (n:Int)) rfl (H1:=[]) ?_ rfl
 have:iS Zc2 [Q J (n:Int)] []=K (.str (Go.Lib.itoa (n:Int)),[]):=by
  unfold iS Zc2;dsimp only;rw[if_pos X]
 rw[Zgt];unfold nW;simp only[this,go_sem]
theorem ZiD (o:Zx)(g:O o<=1048576)(H:Hp):Ze QG [.str o] H=K (.str (ZkE o),H):=by
 refine XD (a':=.str o) rfl (H1:=[]) ?_ rfl;rw[eJ];unfold E1;rw[Hs (by simp;omega)];simp only[go_sem];rw[Hs (by simp;omega)];rfl
abbrev tmC (t g:Nat)(h:AV)(tm:Tmp):c6:=[.ptr t 0,.str tm.owner,h,.map g,Q J (tm.limit:Int),Q J (tm.last:Int),.bool tm.closed]
theorem Zzb (o:Zx)(n:Nat)(j:O o<=16)(h:n<=1000001):(Ua o n).length<=1048576/\(ZkE o).length+(Go.Lib.itoa (n:Int)).length<=1048576:=by
 have:=Go.Lib.itoa_length_le (n:Int) X X;have g:(ZkE o).length=O o+6:=by simp[ZkE]
 refine⟨?_,X⟩;unfold Ua;rw[zQ];omega
theorem ZmP {H:Hp}{o t:Nat}{tm:Tmp}{s:Sto}{A:da}(h:SysAt H o t tm s A)(hm:TmpOk tm)(hk:StoOk s)(hl:tm.last<1000000) :
 ∃ H' A',VO [.ptr o 0] H=K (.tuple [.str (Pc tm s).1.1,Q J (Pc tm s).1.2],H')/\SysRes H H' o t (Pc tm s).2.1 (Pc tm s).2.2 A A':=by
 have ah:=h;obtain⟨B,S,y,h2,h3,rfl⟩:=h;have hB:=y;obtain⟨u,ai,w,sl,y,rfl⟩:=y;have l6:=ZU y.cells 6 (v:=.bool tm.closed) rfl;have l0:=ZU y.cells 0 (v:=.ptr t 0) rfl;have l1:=ZU y.cells 1 (v:=.str tm.owner) rfl;have l5:=ZU y.cells 5 (v:=Q J (tm.last:Int)) rfl;have ho:=hm.owner;have hw:xO.wrap ((tm.last:Int)+1)=((tm.last+1:Nat):Int):=by rw[Zo X X];omega
 obtain⟨n1,n2⟩:=Zzb tm.owner (tm.last+1) ho X;have M:=ZiD tm.owner X H;have ad:=Zxl (tm.last+1) X H;have F:YK .add (.str (ZkE tm.owner)) (.str (Go.Lib.itoa ((tm.last+1:Nat):Int)))=K (.str (Ua tm.owner (tm.last+1))):=by rw[Hs X];rfl
 have L:YJ (.pointer 67) .eql (.ptr t 0) .nilp=K (.bool Y):=rfl;obtain⟨H1,S1,p1,C⟩:=Zqw h2 hk (Ua tm.owner (tm.last+1)) n1;rw[HY];unfold RR Pc
 cases hc:tm.closed with
 |true =>
  rw[hc]at l6;rw[if_pos rfl];exact⟨H,_,by simp only[go_sem,zD,Uq,l6],ah.self⟩
 |false =>
  rw[hc]at l6;rw[if_neg U]
  cases ak:s.create (Ua tm.owner (tm.last+1)) with
  |mk e s' =>
  rw[ak]at p1 C;simp only at p1 C ⊢;by_cases he:e=0
  ·subst he;rw[if_pos rfl];have T:((0:Int) != 0)=Y:=rfl;have N:=y.frame (H':=H1) λa g=>C.stp.at' a (y.lt a g) (h3 a g);have k5:=ZU N.cells 5 (v:=Q J (tm.last:Int)) rfl;have s5:=Vb N.cells 5 (v:=Q J ((tm.last+1:Nat):Int)) rfl rfl U;have g1:=Zs (zJ (zO (tmC t u w tm) 5 (Q J ((tm.last+1:Nat):Int)))) N.cells;have k2:=ZU g1 2 (v:=w) rfl;have ag:=y.nd;rw[zE,zE]at ag;obtain⟨d1,d2,d3⟩:=ag;have aa:∀ a∈ZN w,a≠o:=λa g e=>d1 (by rw[<-e];simp[g]);have af:∀ a∈ZN w,a≠u:=λa g e=>d2 (by rw[<-e];exact g);have Z:o≠u:=λe=>d1 (by rw[e];simp);generalize D:H1.set o (.cells (zO (tmC t u w tm) 5 (Q J ((tm.last+1:Nat):Int))))=H2 at s5 g1 k2;have R:O H2=O H1:=by rw[<-D];simp
   have aj:NmAt H2 w tm.names:=N.names.frame λa g=>by rw[<-D];exact zC (λe=>aa a g e.symm)
   have am:=hm.len;obtain⟨x',H3,q1,q2,q3,q4,q5,q6,q7⟩:=aj.app (Ua tm.owner (tm.last+1)) X;have g2:H3[o]?=K (.cells (zO (tmC t u w tm) 5 (Q J ((tm.last+1:Nat):Int)))):=q3.get g1 λg=>aa o g rfl;have s2:=Vb g2 2 (v:=x') q5 q6 U;generalize E:H3.set o (.cells (zO (zO (tmC t u w tm) 5 (Q J ((tm.last+1:Nat):Int))) 2 x'))=H4 at s2;have al:o<O H1:=Zn N.cells;have ae:u<O H1:=Zn N.map
   have ab:∀ a∈ZN x',a≠o/\a≠u:=λa g=>by
    rcases q4 a g with k|k
    ·exact⟨aa a k,af a k⟩
    ·omega
   have ac:Stp (o::u::ZN w) H1 H4:=by
    have e1:Stp (o::u::ZN w) H1 H2:=by rw[<-D];exact Stp.set _ _ U
    have e3:Stp (o::u::ZN w) H3 H4:=by rw[<-E];exact Stp.set _ _ U
    exact (e1.trans (q3.mono (B:=o::u::ZN w) λa g=>by simp[g]) (λ_ h=>h) λ_ h=>.inl h).trans e3 (λ_ h=>h) λ_ h=>.inl h
   refine⟨H4,(o::u::ZN x')++S1,?_,⟨⟨o::u::ZN x',S1,⟨u,ai,x',sl,⟨?_,?_,?_,y.sld,?_⟩,rfl⟩,?_,?_,rfl⟩,?_,?_⟩⟩
   ·simp only[go_sem,zD,Uq,l6,l0,L,Gu,l1,M,l5,hw,ad,F,p1,T,HS,k5,s5,k2,Jf,q1,s2]
   ·rw[<-E];refine (Zs _ g2).trans ?_;simp only[tmC,hc];rfl
   ·exact q2.frame λa g=>by rw[<-E];exact zC (λe=>(ab a g).1 e.symm)
   ·rw[<-E,zC Z,q3.at' u (by rw[R];exact ae) (λg=>af u g rfl),<-D,zC Z];exact N.map
   ·rw[zE,zE];refine⟨λg=>?_,λg=>(ab u g).2 rfl,q7⟩;rcases zF.1 g with e|g
    ·exact Z e
    ·exact (ab o g).1 rfl
   ·refine C.at'.stp ac λa g hb=>?_;rcases C.own a g with k|k
    ·exact h3 a hb k
    ·have:=y.lt a hb;omega
   ·intro a g hs
    have z:a∈o::u::ZN w->False:=λk=>by
     rcases C.own a hs with j|j
     ·exact h3 a k j
     ·have:=y.lt a k;omega
    rcases zF.1 g with e|g
    ·exact z (by rw[e];simp)
    rcases zF.1 g with e|g
    ·exact z (by rw[e];simp)
    rcases q4 a g with k|k
    ·exact z (by simp[k])
    ·have:=C.at'.lt a hs;omega
   ·refine (C.stp.mono (B:=(o::u::ZN w)++S) λa g=>by simp[g]).trans ac (λ_ h=>h) λa g=>.inl (yL _ g)
   ·intro a g;rcases zM.1 g with g|g
    ·rcases zF.1 g with e|g
     ·exact .inl (by rw[e];simp)
     rcases zF.1 g with e|g
     ·exact .inl (by rw[e];simp)
     rcases q4 a g with k|k
     ·exact .inl (by simp[k])
     ·exact .inr (by have:=C.stp.len;omega)
    ·rcases C.own a g with k|k
     ·exact .inl (by simp[k])
     ·exact .inr k
  ·rw[if_neg he];have T:(e != 0)=I:=by simpa using he
   exact⟨H1,_,by simp only[go_sem,zD,Uq,l6,l0,L,Gu,l1,M,l5,hw,ad,F,p1,T],SysAt.store hB h3 C⟩
def eS (l:List Zx)(n:Zx):List Zx:=if n∈l then l else l++[n]
def Pd (tm:Tmp)(s:Sto)(n:Zx):Int×(Tmp×Sto) :=
 if Yp tm n≠0 then (Yp tm n,(tm,s)) else if (s.sync n).1≠0 then ((s.sync n).1,(tm,(s.sync n).2)) else (0,({ tm with sld:=eS tm.sld n },(s.sync n).2))
theorem Zfv:∀ (sl:List (Zx×Nat)) (n:Zx) (i:Nat),(n∉sl.map (·.1)/\YX (.str n) (sl.map VS) i=K V)\/∃ a p b,sl=a++p::b/\p.1=n/\n∈sl.map (·.1)/\YX (.str n) (sl.map VS) i=K (K (i+O a,.bool I)):=by
 intro sl n
 induction sl with
 |nil=>intro i;exact .inl ⟨U,rfl⟩
 |cons p sl A =>
  intro i;have j:Jb (.str n) (VS p).1=K (n==p.1):=rfl;by_cases h:n=p.1
  ·refine .inr ⟨[],p,sl,rfl,h.symm,by simp[h],?_⟩;rw[zG,YX,j,show (n==p.1)=I by simpa using h];rfl
  ·have g:YX (.str n) ((p::sl).map VS) i=YX (.str n) (sl.map VS) (i+1):=by
    rw[zG,YX,j,show (n==p.1)=Y by simpa using h]
   rw[g];rcases A (i+1) with ⟨u,w⟩|⟨a,q,b,u,w,y,z⟩
   ·exact .inl ⟨by simp[h]at u ⊢;exact u,w⟩
   ·refine .inr ⟨p::a,q,b,by rw[u];rfl,w,by rw[zG];exact yK _ y,?_⟩;rw[z];simp only[yC];congr 3;omega
theorem ZxZ {α:Type}(a:List α)(d:α)(b:List α):(a++d::b).set (O a) d=a++d::b:=by
 induction a with
 |nil=>rfl
 |cons x a g=>simp only[zY,yC,List.set_cons_succ,g]
theorem ZxX {H:Hp}{A g:Nat}{sl:List (Zx×Nat)}(h:H[A]?=K (.map (sl.map VS) g))(n:Zx) :
 ∃ (u:List (Zx×Nat)) (j:Nat),XC .string (.map A) (.str n) (.bool I) H=K (.tuple [],H.set A (.map (u.map VS) j))/\u.map (·.1)=eS (sl.map (·.1)) n:=by
 have z:Wo .string (.str n)=I:=rfl;unfold XC;dsimp only;rw[h];dsimp only;rw[if_pos z];rcases Zfv sl n 0 with ⟨w,y⟩|⟨a,p,b,w,y,D,E⟩
 ·refine⟨sl++[(n,g)],g+1,?_,?_⟩
  ·rw[y];simp[VS]
  ·unfold eS;rw[if_neg w];simp
 ·refine⟨sl,g,?_,?_⟩
  ·rw[E];dsimp only;have B:(sl.map VS).getD (0+O a) (.undef,.undef,0)=VS p:=by rw[w,yO,zN,zG,zI U];simp
   have C:(sl.map VS).set (0+O a) (.str n,.bool I,(VS p).2.2)=sl.map VS:=by
    have:((.str n,.bool I,(VS p).2.2):AV×AV×Nat)=VS p:=by rw[<-y];rfl
    rw[this,w,zD,zN,zG,show O a=(a.map VS).length by simp,ZxZ]
   rw[B,C]
  ·unfold eS;rw[if_pos D]
theorem ZmN {H:Hp}{o t:Nat}{tm:Tmp}{s:Sto}{A:da}(h:SysAt H o t tm s A)(hm:TmpOk tm)(hk:StoOk s)(n:Zx) :
 ∃ H' A',Vz [.ptr o 0,.str n] H=K (Q J (Pd tm s n).1,H')/\SysRes H H' o t (Pd tm s n).2.1 (Pd tm s n).2.2 A A':=by
 have R:=h;obtain⟨B,S,u,h2,T,rfl⟩:=h;have hB:=u;obtain⟨y,ac,F,sl,u,rfl⟩:=u;have hf:=CY u hm n;have l0:=ZU u.cells 0 (v:=.ptr t 0) rfl;obtain⟨H1,S1,p1,D⟩:=ZvV h2 hk.count n;rw[SX];unfold Rh Pd;by_cases z:Yp tm n=0
 ·have e0:(Yp tm n != 0)=Y:=by rw[z];rfl
  rw[if_neg (by simp[z])];by_cases C:(s.sync n).1=0
  ·have Z:((s.sync n).1 != 0)=Y:=by rw[C];rfl
   rw[if_neg (by simp[C])];have M:=u.frame (H':=H1) λa g=>D.stp.at' a (u.lt a g) (T a g);have k3:=ZU M.cells 3 (v:=.map y) rfl;obtain⟨E,w,q1,q2⟩:=ZxX M.map n;have N:=u.nd;rw[zE,zE]at N;obtain⟨d1,d2,d3⟩:=N;have ab:o≠y:=λe=>d1 (by rw[e];simp);have aa:∀ a∈ZN F,a≠y:=λa g e=>d2 (by rw[<-e];exact g);have L:Stp (o::y::ZN F) H1 (H1.set y (.map (E.map VS) w)):=Stp.set _ _ U;refine⟨H1.set y (.map (E.map VS) w),(o::y::ZN F)++S1,?_,⟨⟨o::y::ZN F,S1,⟨y,w,F,E,⟨?_,?_,?_,?_,u.nd⟩,rfl⟩,?_,?_,rfl⟩,?_,?_⟩⟩
   ·simp only[hf,go_sem,e0,zD,KW,l0,p1,Z,Sn,k3,q1]
   ·rw[zC ab.symm];exact M.cells
   ·exact M.names.frame λa g=>zC (λe=>aa a g e.symm)
   ·exact Zs _ M.map
   ·rw[q2,u.sld]
   ·refine D.at'.stp L λa g hb=>?_;rcases D.own a g with k|k
    ·exact T a hb k
    ·have:=u.lt a hb;omega
   ·intro a g hs;rcases D.own a hs with j|j
    ·exact T a g j
    ·have:=u.lt a g;omega
   ·refine (D.stp.mono (B:=(o::y::ZN F)++S) λa g=>by simp[g]).trans L (λ_ h=>h) λa g=>.inl (yL _ g)
   ·intro a g;rcases zM.1 g with g|g
    ·exact .inl (yL _ g)
    ·rcases D.own a g with k|k
     ·exact .inl (by simp[k])
     ·exact .inr k
  ·have Z:((s.sync n).1 != 0)=I:=by simpa using C
   rw[if_pos C];exact⟨H1,_,by simp only[hf,go_sem,e0,zD,KW,l0,p1,Z],SysAt.store hB T D⟩
 ·have e0:(Yp tm n != 0)=I:=by simpa using z
  rw[if_pos z];exact⟨H,_,by simp only[hf,go_sem,e0],R.self⟩
def X9 (nm:List Zx):List Fil->Nat
 |[]=>0
 |f::r=>(if f.name∈nm then O f.text else 0)+X9 nm r
theorem iY (nm:List Zx)(l:List Fil):X9 nm l<=ZB l:=by
 induction l with
 |nil=>exact zL _
 |cons f l g=>simp only[X9,ZB];split <;> omega
theorem ZvL (nm:List Zx)(a b:List Fil):X9 nm (a++b)=X9 nm a+X9 nm b:=by
 induction a with
 |nil=>simp[X9]
 |cons f a g=>simp only[zY,X9,g];omega
theorem ZsX (nm:List Zx){a b:List Fil}(h:a.Perm b):X9 nm a=X9 nm b:=by
 induction h with
 |nil=>rfl
 |cons x _ u=>simp only[X9,u]
 |swap x y l=>simp only[X9];omega
 |trans _ _ g j=>rw[g,j]
theorem Zuo {l:List Fil}(h:(l.map Fil.name).Nodup):(l.map Fil.name).filterMap (Y5 l)=l:=by
 have key:∀ (r l:List Fil),(l.map Fil.name).Nodup->(∀ f∈r,f∈l)->(r.map Fil.name).filterMap (Y5 l)=r:=by
  intro r l w
  have u:∀ f∈l,Y5 l f.name=K f:=by
   clear r
   induction l with
   |nil=>intro f j;cases j
   |cons g l z =>
    intro f j;rw[zG,zE]at w;unfold Y5;rcases zF.1 j with e|j
    ·rw[e,if_pos rfl]
    ·have y:¬ f.name=g.name:=λe=>w.1 (by rw[<-e];exact yN.2 ⟨f,j,rfl⟩);rw[if_neg y];exact z w.2 f j
  induction r with
  |nil=>intro _;rfl
  |cons f r z =>
   intro h;rw[zG,List.filterMap_cons,u f (h f U),z λg u=>h g (by simp[u])]
 exact key l l h λ_ h=>h
theorem Zs1 {l:List Fil}(h:(l.map Fil.name).Nodup):(S4 l).Perm l:=by
 unfold S4;have:=(P7 (l.map Fil.name)).filterMap (Y5 l)
 rwa [Zuo h]at this
def Ur (tm:Tmp)(s:Sto):Nat:=X9 tm.names s.files
theorem Zxs (x:Fil)(H:Hp):Z2 I 3 (.vp (Xn x).cells) H=K (Xn x):=rfl
theorem Zr7 {H0:Hp}{o t ms w:Nat}{L:AV}{sl:List (Zx×Nat)}{tm:Tmp}(h:TmAt H0 o t ms w L sl tm)(hm:TmpOk tm){x:AV}{fs:List Fil}(hx:Sl 3 x (fs.map Xn))(hl:O fs<=64)(hu:ZB fs<=262144)(HB:Hp):∀ (r d:List Fil) (H:Hp),fs=d++r->Keep (O H0) H0 H->O H0<=O H ->
 ∃ H',V1 (.ptr o 0) (Q J (X9 tm.names d:Int)) x (Q J (O fs:Int)) (Q J (O d:Int)) HB H=K (Q J (X9 tm.names fs:Int),H')/\Keep (O H0) H0 H'/\O H0<=O H':=by
 have ad:=hm.len;have ae:=hm.last;intro r
 induction r with
 |nil =>
  intro d H z E g;rw[zU]at z;subst z;have A:decide ((O fs:Int)<(O fs:Int))=Y:=U
  rw[Kh];simp only[go_sem,A,LQ];exact⟨_,rfl,E,g⟩
 |cons f r ih =>
  intro d H z E g;have Z:O fs=O d+(O r+1):=by rw[z];simp
  have A:decide ((O d:Int)<(O fs:Int))=I:=by simp;omega
  have D:xO.wrap ((O d:Int)+1)=((O d+1:Nat):Int):=by rw[Zo X X];omega
  have T:fs[O d]?=K f:=by rw[z,zI (zL _)];simp
  have C:Zj 3 x (Q J (O d:Int))=K (.vp (Xn f).cells):=Sl.idx hx (c:=Xn f) (by simp[T]);have y:TmAt H o t ms w L sl tm:=h.frame λa R=>E a (h.lt a R);have ac:=Zn y.cells;have S:(H++[zJ [.str [],Q J 0,Q J 0]])[O H]?=K (.cells [.str [],Q J 0,Q J 0]):=U
  have aa:Zc 3 (.ptr (O H) 0) (Xn f) (H++[zJ [.str [],Q J 0,Q J 0]])=K (.tuple [],H++[zJ (Xn f).cells]):=by
   rw[YL (v:=Xn f) (sz:=3) S rfl rfl U];simp[splice,Xn,xM]
  have g1:(H++[zJ (Xn f).cells])[O H]?=K (.cells (Xn f).cells):=U
  have u:TmAt (H++[zJ (Xn f).cells]) o t ms w L sl tm:=y.frame λa R=>yD (y.lt a R);have l2:=ZU u.cells 2 (v:=L) rfl;have m0:=ZU g1 0 (v:=.str f.name) rfl;have m1:=ZU g1 1 (v:=Q J (O f.text:Int)) rfl;have B:=kJ u.names.ss X f.name (H++[zJ (Xn f).cells]);have N:Keep (O H0) H0 (H++[zJ (Xn f).cells]):=E.trans (Keep.push H g _);have j:X9 tm.names (d++[f])=X9 tm.names d+(if f.name∈tm.names then O f.text else 0):=by rw[ZvL];simp[X9]
  have af:=iY tm.names (d++[f])
  have ag:ZB (d++[f])<=ZB fs:=by
   rw[z,Wn,Wn];simp only[ZB];omega
  obtain⟨H',M,p2,p3⟩:=ih (d++[f]) (H++[zJ (Xn f).cells]) (by rw[z];simp) N (by simp;omega);rw[zQ,zP]at M;refine⟨H',?_,p2,p3⟩;rw[Kh];simp only[go_sem,A,LR,C,Zxs,aa,zD,l2,m0,B];by_cases F:f.name∈tm.names
  ·rw[if_pos F]at j;have ab:xO.wrap ((X9 tm.names d:Int)+(O f.text:Int))=(X9 tm.names (d++[f]):Int):=by rw[Zo X X];omega
   have c1:(Xn f).cells[1]?=K (Q J (O f.text:Int)):=rfl;simp only[decide_eq_true F,go_sem,zD,m1,c1,ab,Kg,D];exact M
  ·rw[if_neg F,xL]at j;rw[j]at M;simp only[decide_eq_false F,go_sem,Kg,D];exact M
theorem Zn4 {H:Hp}{o t T w:Nat}{Z:AV}{sl:List (Zx×Nat)}{tm:Tmp}{s:Sto}{S:da}(h:TmAt H o t T w Z sl tm)(L:StoreAt H t s S)(M:TmpOk tm)(g:StoOk s) :
 Kb XT [.ptr o 0] H=K (Q J (Ur tm s:Int),H):=by
 obtain⟨x,q1,E⟩:=Zq4 L g;have R:=ZU h.cells 0 (v:=.ptr t 0) rfl;have A:=Zs1 g.nd;have j:(S4 s.files).length<=64:=by rw[A.length_eq];exact g.len
 have B:ZB (S4 s.files)<=262144:=by
  have F:∀ {a b:List Fil},a.Perm b->ZB a=ZB b:=λ{a b} h=>by
   induction h with
   |nil=>rfl
   |cons x _ N=>simp only[ZB,N]
   |swap x y l=>simp only[ZB];omega
   |trans _ _ C D=>rw[C,D]
  rw[F A];have:=g.used;have:=g.limit;omega
 have z:Zk (.slice 108) x=K (Q J ((S4 s.files).length:Int)):=by
  have:=Sl.len E 108
  rwa [yA]at this
 obtain⟨H',p1,p2,p3⟩:=Zr7 h M E j B H _ [] H rfl (Keep.refl _ _) (zL _)
 have u:XT [.ptr o 0] H=K (Q J (X9 tm.names (S4 s.files):Int),H'):=by
  rw[EF];unfold Dw;simp only[go_sem,zD,R,q1,z];exact p1
 have:=dI u p2 p3 (v':=Q J (X9 tm.names (S4 s.files):Int)) rfl
 rwa [ZsX tm.names A]at this
theorem Zyu {H:Hp}{o t:Nat}{tm:Tmp}{s:Sto}{A:da}(h:SysAt H o t tm s A)(D:TmpOk tm)(C:StoOk s) :
 Kb QZ [.ptr o 0] H=K (Q J (if tm.closed then 0 else (Ur tm s:Int)),H):=by
 obtain⟨B,S,⟨L,y,M,sl,u,rfl⟩,z,F,rfl⟩:=h;have j:=ZU u.cells 6 (v:=.bool tm.closed) rfl;have E:=ZU u.cells 0 (v:=.ptr t 0) rfl;have g:YJ (.pointer 67) .eql (.ptr t 0) .nilp=K (.bool Y):=rfl;refine dI (H1:=H) (v:=Q J (if tm.closed then 0 else (Ur tm s:Int))) ?_ (Keep.refl _ _) (zL _) rfl;rw[SY];unfold Ri
 cases w:tm.closed with
 |true =>
  rw[w]at j;simp only[go_sem,zD,j,if_true]
 |false =>
  rw[w]at j;simp only[go_sem,zD,j,E,g,So,Zn4 u z D C,zZ,if_false]
def B8 (tm:Tmp)(s:Sto)(n:Zx)(l:List Zx):Int×Sto :=
 if Yp tm n≠0 then (Yp tm n,s) else if n∈tm.sld then (8,s) else if X5 l=Y then (3,s) else
  if (tm.limit:Int)-(Ur tm s:Int)<(ZJ l:Int) then (11,s) else s.append n (Y1 l)
theorem ZpV {H:Hp}{u g:Nat}{sl:List (Zx×Nat)}(h:H[u]?=K (.map (sl.map VS) g))(n:Zx):Yo .string (.bool Y) Y (.map u) (.str n) H=K (.bool (decide (n∈sl.map (·.1)))):=by
 have B:Xq (.map u) H=K (sl.map VS):=by unfold Xq;dsimp only;rw[h]
 have j:Wo .string (.str n)=I:=rfl;unfold Yo;rw[if_pos j,B];dsimp only;rcases Zfv sl n 0 with ⟨w,y⟩|⟨a,p,b,w,y,z,A⟩
 ·rw[y,decide_eq_false w];rfl
 ·rw[A,decide_eq_true z];rfl
theorem ZkW {H:Hp}{o t:Nat}{tm:Tmp}{s:Sto}{A:da}(h:SysAt H o t tm s A)(R:TmpOk tm)(L:StoOk s)(n:Zx){x:AV}{l:List Zx}(hx:SS x l)(hL:∀ s∈l,O s<=1048576)(hl:ZJ l<=1048576) :
 ∃ H' A',Ve [.ptr o 0,.str n,x] H=K (Q J (B8 tm s n l).1,H')/\SysRes H H' o t tm (B8 tm s n l).2 A A':=by
 have u:=h;obtain⟨B,S,w,Z,h3,rfl⟩:=h;have hB:=w;obtain⟨ms,ab,nx,sl,w,rfl⟩:=w;have D:=CY w R n;have l0:=ZU w.cells 0 (v:=.ptr t 0) rfl;have M:=ZU w.cells 3 (v:=.map ms) rfl;have l4:=ZU w.cells 4 (v:=Q J (tm.limit:Int)) rfl;have j:=ZpV w.map n;rw[w.sld]at j;have g:=ZwP hx hL X H;have C:=Zn4 w Z R L
 have ac:Ur tm s<=262144:=by
  have:=iY tm.names s.files;have:=L.used;have:=L.limit;unfold Ur;omega
 have aa:=R.limit;have hw:xO.wrap ((tm.limit:Int)-(Ur tm s:Int))=(tm.limit:Int)-(Ur tm s:Int):=Zo X X;rw[ED];unfold Dv B8;by_cases y:Yp tm n=0
 ·have e0:(Yp tm n != 0)=Y:=by rw[y];rfl
  rw[if_neg (by simp[y])];by_cases z:n∈tm.sld
  ·rw[if_pos z];rw[decide_eq_true z]at j;exact⟨H,_,by simp only[D,go_sem,e0,zD,W7,M,j],u.self⟩
  ·rw[if_neg z];rw[decide_eq_false z]at j
   cases E:X5 l with
   |false =>
    have e3:((3:Int) != 0)=I:=rfl;rw[E,if_neg U]at g;rw[if_pos rfl];exact⟨H,_,by simp only[D,go_sem,e0,zD,W7,M,j,VH,g,zA,zB,e3],u.self⟩
   |true =>
    have T:((0:Int) != 0)=Y:=rfl;rw[E,if_pos rfl]at g;rw[if_neg U];by_cases F:(tm.limit:Int)-(Ur tm s:Int)<(ZJ l:Int)
    ·rw[if_pos F];have N:decide ((tm.limit:Int)-(Ur tm s:Int)<((Y1 l).length:Int))=I:=by rw[Wc];exact decide_eq_true F
     exact⟨H,_,by simp only[D,go_sem,e0,zD,W7,M,j,VH,g,zA,zB,T,Kf,l4,C,hw,N],u.self⟩
    ·rw[if_neg F];have N:decide ((tm.limit:Int)-(Ur tm s:Int)<((Y1 l).length:Int))=Y:=by rw[Wc];exact decide_eq_false F
     obtain⟨H1,S1,p1,p2⟩:=Zqu Z L n (Y1 l) (by rw[Wc];omega);exact⟨H1,_,by simp only[D,go_sem,e0,zD,W7,M,j,VH,g,zA,zB,T,Kf,l4,C,hw,N,LO,l0,p1],SysAt.store hB h3 p2⟩
 ·have e0:(Yp tm n != 0)=I:=by simpa using y
  rw[if_pos y];exact⟨H,_,by simp only[D,go_sem,e0],u.self⟩
end Go.Am
