/- Lists of lists of strings -/
import Derived.Test.YtjmhpjoedfegkaaGreatDoorRwMzx
import Derived.Test.YtjmhpjoedfegkaaGreatDoorRwSax
import Derived.Test.YtjmhpjoedfegkaaGreatDoorRwGSx
import Derived.Test.YtjmhpjoedfegkaaGreatDoorRwEx
import Derived.Test.YtjmhpjoedfegkaaGreatDoorRwXx
open Option renaming some->K,none->V
open Bool renaming true->I,false->Y
open List renaming length->O
open Go.dw renaming b5->X,dh->U
open Go.Am.AV renaming int->Q
open Go.IntKind renaming i64->J
open Go.IntKind renaming i64->xR
open List renaming getElem?_cons_zero->zA,getElem?_cons_succ->zB,flatMap_append->zC,mem_singleton->zD,nodup_cons->zE,map_append->zF,getElem?_set_ne->zG,mem_cons->zI,nodup_append->zK,set->zL,mem_append->zM,getElem?_append_right->zN,length_singleton->zP,map_cons->zQ,flatMap_cons->zS,take_of_length_le->zT,length_append->zU,append_nil->zX,all_eq_true->zY,length_map->zZ,getElem?_eq_getElem->yA,cons_append->yG,take_append_of_le_length->yI,getElem?_append_left->yK,flatten_cons->yL,append_assoc->yM,length_cons->yN,flatten_nil->yO,mem_map->yQ,nil_append->yR,getElem?_eq_none->yV,mem_cons_of_mem->yW,map_nil->yY,isEmpty_cons->xB,mem_flatMap->xD,length_nil->xF,foldl_cons->xH,range->xI,tail_cons->xJ,mapM_cons->xK,mem_range->xL,drop_one->xN,all_cons->xO,map_map->xQ
open Nat renaming le_refl->zJ,mod_two_eq_zero_or_one->zO,xor_assoc->yH,xor_lt_two_pow->yJ,zero_add->yP,div_div_eq_div_mul->yT,mul_one->yU,xor_comm->yZ,mod_eq_of_lt->xE,min_eq_left->xG,le_trans->xP
open Bool renaming and_eq_true->zW,false_eq_true->yB,not_false->yC,false_and->yD,true_and->yE,not_true->yF
open Int renaming toNat_natCast->zV
open UInt8 renaming ofNat->zH,ofNat_toNat->xA
open Go.Am.AObj renaming cells->zR,bld->yS
open Go.Am.AV renaming int->xM
open List.Sublist renaming nodup->yX,refl->xC
namespace Go.Am
set_option linter.unusedSectionVars false
set_option maxRecDepth 100000
theorem SS.cell {e:AV}{l:List ZW}(h:SS e l):e.cells=[e]/\e.known=I:=by
 rcases h with ⟨rfl,_⟩|⟨t,rfl⟩ <;> exact⟨rfl,rfl⟩
structure EE (es:du)(ls:List (List ZW)):Prop where
 len:O es=O ls
 at':∀ (i:Nat) (l:List ZW),ls[i]?=K l->∃ e,es[i]?=K e/\SS e l
theorem EE.nil:EE [] []:=⟨rfl,λi l h=>by simp at h⟩
theorem EE.app {z:du}{w:List (List ZW)}(h:EE z w){e:AV}{l:List ZW}(B:SS e l):EE (z++[e]) (w++[l]):=by
 refine⟨by simp[h.len],λj m u=>?_⟩;by_cases A:j<O w
 ·rw[yK A]at u;rw[yK (by rw[h.len];exact A)];exact h.at' j m u
 ·have y:=(List.getElem?_eq_some_iff.1 u).1;have:j=O w:=by simp at y;omega
  subst this;rw[zN (zJ _)]at u;simp at u;subst u;exact⟨e,by rw[zN (by rw[h.len];exact zJ _),h.len];simp,B⟩
def Rst (o:Nat)(H:Hp)(x:AV)(h:List (List ZW)):Prop :=
 h=[]/\(x=.nils\/x=.vs 1 .clip [])\/∃ e j,x=.ws Y 1 o e (O h)/\H[o]?=K (.row e j)/\EE j h
theorem Zzi {l:du}{i:Nat}{a:AV}(h:i<O l):splice l (i*1) [a]=l.set i a:=by
 unfold splice;rw[yU,List.set_eq_take_append_cons_drop,if_pos h];simp
theorem Zoy:∀ l:du,Vr Y 1 (O l) l=l:=by
 intro l
 induction l with
 |nil=>rfl
 |cons a l h=>simp only[yN,Vr];rw[xN,xJ,h];rfl
def LL (H:Hp)(x:AV)(j:List (List ZW)):Prop :=
 j=[]/\(x=.nils\/x=.vs 1 .clip [])\/(∃ t h,x=.vs 1 t h/\EE h j)\/∃ o e h,x=.ws Y 1 o e (O j)/\H[o]?=K (.row e h)/\EE h j
theorem Rst.ll {o:Nat}{H:Hp}{x:AV}{j:List (List ZW)}(h:Rst o H x j):LL H x j:=by
 rcases h with h|⟨e,u,w,z,y⟩
 ·exact .inl h
 ·exact .inr (.inr ⟨o,e,u,w,z,y⟩)
theorem LL.len {H:Hp}{x:AV}{w:List (List ZW)}(h:LL H x w)(e:Nat):Zf (.slice e) x=K (Q J (O w:Int)):=by
 rcases h with ⟨rfl,rfl|rfl⟩|⟨t,j,rfl,u⟩|⟨o,e,j,rfl,y,u⟩
 ·rfl
 ·rfl
 ·show K (xM .i64 (O j:Int))=_;rw[u.len]
 ·rfl
theorem Rst.app {o:Nat}{H:Hp}{x:AV}{B:List (List ZW)}(h:Rst o H x B){a:AV}{m:List ZW}(u:SS a m)(L:O B<=1048576) :
 ∃ o' E H',V1 Y 1 24 x (.vs 1 .clip [a]) H=K (E,H')/\Rst o' H' E (B++[m])/\O H<=O H'/\(∀ i y,H[i]?=K y->i≠o->H'[i]?=K y):=by
 unfold V1;have F:Go.Am.elems 1 (.vs 1 .clip [a]) H=K [a]:=rfl;rw[F];dsimp only;have w:Xe 1 24=I:=rfl;have z:Xe (O B+1) 24=I:=by simp[Xe];omega
 rcases h with ⟨rfl,rfl|rfl⟩|⟨e,C,rfl,D,j⟩
 ·refine⟨O H,.ws Y 1 (O H) 0 1,H++[.row 0 [a]],?_,.inr ⟨0,[a],rfl,U,EE.nil.app u⟩,U,λi y A _=>XC A _⟩;unfold BF;simp only[zP,w,if_true,zQ,yY,yL,yO,u.cell.1,zX];rw[if_neg U]
 ·refine⟨O H,.ws Y 1 (O H) 0 1,H++[.row 0 [a]],?_,.inr ⟨0,[a],rfl,U,EE.nil.app u⟩,U,λi y A _=>XC A _⟩;unfold BF;simp only[xF,yR,yP,zP,w,and_self,if_true,zQ,yY,yL,yO,u.cell.1,zX];rw[if_neg U]
 ·refine⟨o,.ws Y 1 o (e+1) (O B+1),H.set o (.row (e+1) (C++[a])),?_,.inr ⟨e+1,C++[a],U,Zu _ D,j.app u⟩,U,λi y A G=>YX _ (λe=>G e.symm) A⟩;unfold BF;simp only[zP,z,and_self,if_true,D,j.len,yU,zJ,ZcB,zT (Nat.le_of_eq j.len),zQ,yY,yL,yO,u.cell.1,zX];rw[if_neg U]
theorem EE.tail {e:AV}{u:du}{l:List ZW}{w:List (List ZW)}(h:EE (e::u) (l::w)):SS e l/\EE u w:=by
 obtain⟨j,y,z⟩:=h.at' 0 l rfl;obtain rfl:e=j:=Option.some.inj y
 exact⟨z,by have:=h.len;simpa using this,λi m A=>by
  obtain⟨j,B,C⟩:=h.at' (i+1) m (by simpa using A);exact⟨j,by simpa using B,C⟩⟩
theorem EE.cons {e:AV}{u:du}{l:List ZW}{w:List (List ZW)}(h:SS e l)(k:EE u w):EE (e::u) (l::w) :=
 ⟨by simp[k.len],λi m j=>by
  cases i with
  |zero=>simp at j;subst j;exact⟨e,rfl,h⟩
  |succ i=>simpa using k.at' i m (by simpa using j)⟩
theorem EE.close {w:du}{u:List (List ZW)}(h:EE w u)(H:Hp)(n f:Nat):∃ j,w.mapM (Zk H n (f+2))=K j/\EE j u:=by
 induction w generalizing u with
 |nil =>
  have:u=[]:=List.length_eq_zero_iff.1 (by rw[<-h.len];rfl);subst this;exact⟨[],rfl,EE.nil⟩
 |cons e w B =>
  cases u with
  |nil=>have:=h.len;simp at this
  |cons l u =>
   obtain⟨z,A⟩:=h.tail;obtain⟨y,C,D⟩:=SS.closed z H n f;obtain⟨j,E,F⟩:=B A;exact⟨y::j,by rw[xK,C];simp[E],EE.cons D F⟩
theorem BI (H:Hp)(n f k:Nat)(t:Tok)(l:du):Zk H n (f+1) (.vs k t l)=match l.mapM (Zk H n f) with
 |some l=>K (.vs k (match t with|.own t e=>if t<n then .own t e else .no|tok=>tok) l)
 |none=>V:=rfl
theorem ZqD (H:Hp)(n f:Nat)(ag:Bool)(k o e len:Nat):Zk H n (f+1) (.ws ag k o e len)=if o<n then K (.ws ag k o e len) else
 match elems k (.ws ag k o e len) H with
 |some l=>match l.mapM (Zk H n f) with
  |some l=>K (.vs k .no l)
  |none=>V
 |none=>V:=rfl
def LsV (x:AV)(j:List (List ZW)):Prop:=x=.nils/\j=[]\/∃ t h,x=.vs 1 t h/\EE h j
theorem LsV.ll {x:AV}{j:List (List ZW)}(h:LsV x j)(H:Hp):LL H x j:=by
 rcases h with ⟨u,w⟩|h
 ·exact .inl ⟨w,.inl u⟩
 ·exact .inr (.inl h)
theorem LsV.len {x:AV}{j:List (List ZW)}(h:LsV x j)(e:Nat):Zf (.slice e) x=K (Q J (O j:Int)):=(h.ll []).len e
theorem LsV.get' {x:AV}{u:List (List ZW)}(h:LsV x u){i:Nat}{l:List ZW}(hi:u[i]?=K l):∃ a,Zr 1 x (Q J (i:Int))=K (.vp [a])/\SS a l:=by
 rcases h with ⟨rfl,rfl⟩|⟨t,z,rfl,y⟩
 ·simp at hi
 ·obtain⟨a,w,j⟩:=y.at' i l hi;refine⟨a,?_,j⟩;unfold Zr;dsimp only;rw[if_pos ⟨rfl,X⟩,zV,w];dsimp only;rw[j.cell.1]
theorem LL.close0 {H:Hp}{x:AV}{y:List (List ZW)}(h:LL H x y):∃ C,Zk H 0 9 x=K C/\LsV C y:=by
 rcases h with ⟨rfl,rfl|rfl⟩|⟨t,B,rfl,u⟩|⟨o,e,B,rfl,D,u⟩
 ·exact⟨.nils,rfl,.inl ⟨rfl,rfl⟩⟩
 ·exact⟨.vs 1 .clip [],rfl,.inr ⟨_,[],rfl,EE.nil⟩⟩
 ·obtain⟨j,z,A⟩:=u.close H 0 6;exact⟨_,by rw[BI,z],.inr ⟨_,j,rfl,A⟩⟩
 ·obtain⟨j,z,A⟩:=u.close H 0 6
  have w:Go.Am.elems 1 (.ws Y 1 o e (O y)) H=K B:=by
   unfold Go.Am.elems;dsimp only;rw[if_pos ⟨rfl,.inr rfl⟩,D];dsimp only;rw[if_pos ⟨rfl,by rw[u.len];omega⟩,<-u.len,Zoy]
  exact⟨.vs 1 .no j,by rw[ZqD,if_neg (Nat.not_lt_zero _),w];dsimp only;rw[z],.inr ⟨_,j,rfl,A⟩⟩
theorem SS.cut {x:AV}{l:List ZW}(h:SS x l){i j:Nat}(w:i<=j)(C:j<=O l):∃ y,Yk 1 x (K (Q J (i:Int))) (K (Q J (j:Int))) (K (Q J (j:Int)))=K y/\SS y ((l.take j).drop i):=by
 have B:∀ n,j<=n->Yy n n (K (Q J (i:Int))) (K (Q J (j:Int))) (K (Q J (j:Int)))=K (i,j,j):=λn E=>by
  delta Yy
  simp[Xd,E,w]
 rcases h with ⟨rfl,D⟩|⟨t,rfl⟩
 ·have A:l=[]:=by simpa using D
  subst A;have z:j=0:=by simpa using C
  have u:i=0:=X
  subst z u;refine⟨.nils,?_,.inl ⟨rfl,rfl⟩⟩;simp only[Yk];rw[B 0 (zJ _)]
 ·refine⟨.vs 1 .clip (((l.map AV.str).take j).drop i),?_,.inr ⟨.clip,by rw[<-List.map_take,<-List.map_drop]⟩⟩;simp only[Yk,if_true,zZ];rw[B _ C];simp
def YI (m:Nat)(s:Sto):du:=[Q J (s.limit:Int),Q J (Zs s.files:Int),Q J (s.peak:Int),.map m,.bool s.crashed,Q J (s.count:Int)]
theorem StAt.cell {H H':Hp}{o m j:Nat}{w:List FD}{s s':Sto}(h:StAt H o m j w s)(y:Stp [o] H H')(A:H'[o]?=K (.cells (YI m s')))(B:s'.files=s.files):StAt H' o m j w s' where
 files:=by rw[B];exact h.files
 cells:=A
 map:=y.get h.map (by simpa using h.om.symm)
 file:=λd u=>(h.file d u).frame λa z=>y.at' a ((h.file d u).lt a z) (by simpa using (h.own_lt u z).1)
 nd:=h.nd
 born:=h.born
theorem ld {H:Hp}{o:Nat}{l:du}(h:H[o]?=K (.cells l))(i:Nat){v:AV}(j:l[i]?=K v):Z4 Y 1 (.ptr o (0+i)) H=K v:=by
 rw[Wg h,yP];exact j
theorem st {H:Hp}{o:Nat}{l:du}(h:H[o]?=K (.cells l))(i:Nat){v:AV}(j:v.cells=[v])(u:v.known=I)(hi:i<O l):Zg 1 (.ptr o (0+i)) v H=K (.tuple [],H.set o (.cells (l.set i v))):=by
 rw[yP,Uc h u (by rw[j];rfl) X,j];congr 4;have:=Zzi (l:=l) (i:=i) (a:=v) hi
 rwa [yU]at this
theorem Zkh {H:Hp}{o m C:Nat}{P:List FD}{s:Sto}(h:StAt H o m C P s)(Z:s.count<=9223372036854775807) :
 ∃ H',UI [.ptr o 0] H=K (.bool s.tick.crashed,H')/\StAt H' o m C P s.tick/\Stp [o] H H':=by
 have A:H[o]?=K (.cells (YI m s)):=h.cells;have B:=ld A 4 (v:=.bool s.crashed) rfl;have M:=ld A 5 (v:=Q J (s.count:Int)) rfl;rw[OM];unfold PF
 cases j:s.crashed with
 |true =>
  have y:s.tick=s:=by unfold Sto.tick;rw[if_pos j]
  rw[y,j];rw[j]at B;exact⟨H,by simp only[go_sem,B,WW],h,Stp.refl _ _⟩
 |false =>
  rw[j]at B;by_cases G:s.count=1
  ·have y:s.tick={ s with crashed:=I,count:=0 }:=by unfold Sto.tick;rw[if_neg (by simp[j]),if_pos G]
   have E:((s.count:Int)==1)=I:=by rw[G];rfl
   have S:=st A 4 (v:=.bool I) rfl rfl (by simp[YI]);have D:=Zu (zR (zL (YI m s) 4 (.bool I))) A;have N:=st D 5 (v:=Q J 0) rfl rfl (by simp[YI]);have u:=Zu (zR (zL (zL (YI m s) 4 (.bool I)) 5 (xM .i64 0))) D;have w:=ld u 4 (v:=.bool I) rfl;refine⟨(H.set o (.cells ((YI m s).set 4 (.bool I)))).set o (.cells (((YI m s).set 4 (.bool I)).set 5 (Q J 0))),by simp only[go_sem,B,M,E,S,N,WW,w,y],?_,?_⟩
   ·rw[y];refine h.cell ?_ ?_ rfl
    ·exact (Stp.set H _ U).trans (Stp.set _ _ (zD.2 rfl)) (λa z=>z) (λa z=>.inl z)
    ·exact u
   ·exact (Stp.set H _ U).trans (Stp.set _ _ (zD.2 rfl)) (λa z=>z) (λa z=>.inl z)
  ·have E:((s.count:Int)==1)=Y:=by rw[beq_eq_false_iff_ne];omega
   have y:s.tick={ s with count:=s.count-1 }:=by unfold Sto.tick;rw[if_neg (by simp[j]),if_neg G]
   by_cases T:1<s.count
   ·have F:decide ((1:Int)<(s.count:Int))=I:=by rw[decide_eq_true_eq];omega
    have hw:xR.wrap ((s.count:Int)-1)=((s.count-1:Nat):Int):=by rw[Zl X X];omega
    have N:=st A 5 (v:=Q J ((s.count-1:Nat):Int)) rfl rfl (by simp[YI]);have u:=Zu (zR (zL (YI m s) 5 (xM .i64 ((s.count-1:Nat):Int)))) A;have w:=ld u 4 (v:=.bool s.crashed) rfl;rw[j]at w;refine⟨H.set o (.cells ((YI m s).set 5 (Q J ((s.count-1:Nat):Int)))),by simp only[go_sem,B,M,E,F,hw,N,WW,w,y,j],?_,Stp.set _ _ U⟩;rw[y];exact h.cell (Stp.set _ _ U) u rfl
   ·have F:decide ((1:Int)<(s.count:Int))=Y:=by simp;omega
    have R:s.count=0:=X
    have L:s.tick=s:=by rw[y];cases s;simp only at R;subst R;rfl
    rw[L,j];exact⟨H,by simp only[go_sem,B,M,E,F,WW],h,Stp.refl _ _⟩
theorem Yh (s:Sto):s.tick.files=s.files:=by unfold Sto.tick;split;rfl;split <;> rfl
theorem C8 (s:Sto):s.tick.limit=s.limit:=by unfold Sto.tick;split;rfl;split <;> rfl
theorem Ow (s:Sto):s.tick.peak=s.peak:=by unfold Sto.tick;split;rfl;split <;> rfl
theorem jR {H:Hp}{o m j:Nat}{A:List FD}{s:Sto}(h:StAt H o m j A s)(E:s.count<=9223372036854775807)(n:Zj) :
 ∃ (p:AV) (e:Int) (H':Hp),Wk [.ptr o 0,.str n] H=K (.tuple [p,Q J e],H')/\StAt H' o m j A s.tick/\Stp [o] H H' /\
  (s.tick.crashed=I/\e=19\/s.tick.crashed=Y/\Y2 s.files n=V/\e=5 \/
   s.tick.crashed=Y/\e=0/\∃ a d b,A=a++d::b/\d.fil.name=n/\(∀ g∈a,g.fil.name≠n)/\Y2 s.files n=K d.fil/\p=.ptr d.f 0):=by
 obtain⟨H1,y,z,C⟩:=Zkh h E;rw[cG];unfold MQ
 cases u:s.tick.crashed with
 |true =>
  rw[u]at y;exact⟨.nilp,19,H1,by simp only[go_sem,QS,y],z,C,.inl ⟨rfl,rfl⟩⟩
 |false =>
  rw[u]at y;have D:=ld z.cells 3 (v:=.map m) rfl;have w:=z.look n;rw[Yh]at w;rcases w with ⟨B,k2⟩|⟨a,d,b,B,k2,F,G,L⟩
  ·exact⟨.nilp,5,H1,by simp only[go_sem,QS,y,Fo,D,k2],z,C,.inr (.inl ⟨rfl,B,rfl⟩)⟩
  ·exact⟨.ptr d.f 0,0,H1,by simp only[go_sem,QS,y,Fo,D,L,bI],z,C,.inr (.inr ⟨rfl,rfl,a,d,b,B,k2,F,G,rfl⟩)⟩
structure StoRes (H H':Hp)(o:Nat)(s':Sto)(A A':dv):Prop where
 at':StoreAt H' o s' A'
 stp:Stp A H H'
 own:∀ a∈A',a∈A\/O H<=a
theorem StAt.res {H H':Hp}{o m j:Nat}{u:List FD}{s':Sto}(h:StAt H' o m j u s')(y:Stp [o] H H'):StoRes H H' o s' (o::m::u.flatMap FD.own) (o::m::u.flatMap FD.own) :=
 ⟨⟨m,j,u,h,rfl⟩,y.mono (λa w=>by rw[zD.1 w];simp),λa w=>.inl w⟩
theorem Znu (d:FD):d.f∈d.own:=by simp[FD.own]
theorem Zvv {H:Hp}{o:Nat}{s:Sto}{A:dv}(h:StoreAt H o s A)(hk:s.count<=9223372036854775807)(n:Zj) :
 ∃ H' A',GQ [.ptr o 0,.str n] H=K (Q J (s.sync n).1,H')/\StoRes H H' o (s.sync n).2 A A':=by
 obtain⟨m,C,ds,h,rfl⟩:=h;obtain⟨p,e,H1,N,u,P,q4⟩:=jR h hk n;rw[cE];unfold MO Sto.sync;rcases q4 with ⟨w,rfl⟩|⟨w,c2,rfl⟩|⟨w,rfl,a,d,b,rfl,R,S,c5,rfl⟩
 ·have y:((19:Int)==0)=Y:=rfl;rw[if_pos w];exact⟨H1,_,by simp only[N,go_sem,zA,zB,y,QR],u.res P⟩
 ·have y:((5:Int)==0)=Y:=rfl;rw[if_neg (by simp[w]),c2];exact⟨H1,_,by simp only[N,go_sem,zA,zB,y,QR],u.res P⟩
 ·have y:((0:Int)==0)=I:=rfl;rw[if_neg (by simp[w]),c5];have z:=u.file d U;have l0:=ld z.cells 0 (v:=d.tx) rfl;have B:=z.text.len 5;have s1:=st z.cells 1 (v:=Q J (O d.fil.text:Int)) rfl rfl U;refine⟨H1.set d.f (.cells (zL [d.tx,Q J (d.fil.syn:Int)] 1 (Q J (O d.fil.text:Int)))),o::m::(a++{ d with fil:={ d.fil with syn:=O d.fil.text } }::b).flatMap FD.own,by simp only[N,go_sem,zA,zB,y,l0,B,s1,QR],?_⟩;have E:d.f≠o:=(u.own_lt (d:=d) U (Znu d)).1;have F:d.f≠m:=(u.own_lt (d:=d) U (Znu d)).2;have T:Stp (o::d.own) H1 (H1.set d.f (.cells (zL [d.tx,Q J (d.fil.syn:Int)] 1 (Q J (O d.fil.text:Int))))):=Stp.set _ _ (by simp[FD.own])
  have L:∀ t∈ZA d.tx,t≠d.f:=λt G=>by
   have:=u.nd;rw[zE,zE,zC,zS,zK,zK]at this;obtain⟨_,_,_,⟨Z,_⟩,_⟩:=this;rw[FD.own,zE]at Z;exact λe=>Z.1 (e ▸ G)
  have M:Zs (Y9 s.files n λf=>{ f with syn:=O f.text })=Zs s.files:=by
   rw[<-h.files,AW a d b n _ R S];simp[Ug,Zs]
  have D:=u.upd (d':={ d with fil:={ d.fil with syn:=O d.fil.text } }) (s':={ s.tick with files:=Y9 s.files n λf=>{ f with syn:=O f.text } }) (H':=H1.set d.f (.cells (zL [d.tx,Q J (d.fil.syn:Int)] 1 (Q J (O d.fil.text:Int)))))
   (by
    rw[zG E,u.cells];simp only[M,Yh])
   (zG F) rfl (by show Y9 s.files n _=_;rw[<-h.files,AW a d b n _ R S])
   ⟨Zu _ z.cells,z.text.frame λt G=>zG (λe=>L t G e.symm)⟩ T
   (by
    have:=u.nd;rw[zE,zE,zC,zS,zK,zK]at this;exact this.2.2.2.1.1)
   (λx j=>.inl j)
  refine⟨⟨m,C,_,D,rfl⟩,?_,λx j=>.inl ?_⟩
  ·refine P.trans T (λx j=>by rw[zD.1 j];simp) λx j=>.inl ?_;rcases zI.1 j with e|j
   ·subst e;simp
   ·simp[j]
  ·simpa[FD.own]using j
theorem StAt.fileRes {H H1 H':Hp}{o m u:Nat}{a b:List FD}{d d':FD}{s s':Sto}(h:StAt H o m u (a++d::b) s)(z:Stp [o] H H1)(y:StAt H' o m u (a++d'::b) s')(A:Stp (o::d.own) H1 H')
 (w:∀ x∈d'.own,x∈d.own\/O H1<=x):StoRes H H' o s' (o::m::(a++d::b).flatMap FD.own) (o::m::(a++d'::b).flatMap FD.own):=by
 refine⟨⟨m,u,_,y,rfl⟩,z.trans A (λx j=>by rw[zD.1 j];simp) λx j=>.inl ?_,λx j=>?_⟩
 ·rcases zI.1 j with e|j
  ·subst e;simp
  ·simp[j]
 ·rcases zI.1 j with e|j
  ·subst e;exact .inl U
  rcases zI.1 j with e|j
  ·subst e;exact .inl U
  rw[zC,zS]at j;rcases zM.1 j with j|j
  ·exact .inl (by simp only[zC,zI,zM];exact .inr (.inr (.inl j)))
  rcases zM.1 j with j|j
  ·rcases w x j with k|k
   ·exact .inl (by simp only[zC,zS,zI,zM];exact .inr (.inr (.inr (.inl k))))
   ·exact .inr (xP z.len k)
  ·exact .inl (by simp only[zC,zS,zI,zM];exact .inr (.inr (.inr (.inr j))))
theorem StAt.mid {H:Hp}{o m j:Nat}{a b:List FD}{d:FD}{s:Sto}(h:StAt H o m j (a++d::b) s):d.own.Nodup/\FileAt H d/\(∀ x∈d.own,x≠o/\x≠m)/\∀ t∈ZA d.tx,t≠d.f:=by
 have:=h.nd;rw[zE,zE,zC,zS,zK,zK]at this;obtain⟨_,_,_,⟨u,_⟩,_⟩:=this;refine⟨u,h.file d U,λx y=>h.own_lt (d:=d) U y,λt w=>?_⟩;rw[FD.own,zE]at u;exact λe=>u.1 (e ▸ w)
theorem XG (a:List Fil)(f:Fil)(b:List Fil):Zs (a++f::b)=Zs a+(O f.text+Zs b):=by rw[Ug];rfl
theorem ZpS {H:Hp}{o:Nat}{s:Sto}{A:dv}(h:StoreAt H o s A)(hk:StoOk s)(n t:Zj)(ht:O t<=1048576) :
 ∃ H' A',JU [.ptr o 0,.str n,.str t] H=K (Q J (s.append n t).1,H')/\StoRes H H' o (s.append n t).2 A A':=by
 obtain⟨m,ai,ds,h,rfl⟩:=h;obtain⟨p,e,H1,q1,N,q3,q4⟩:=jR h hk.count n;rw[I0];unfold Tl Sto.append;rcases q4 with ⟨S,rfl⟩|⟨S,c2,rfl⟩|⟨S,rfl,a,d,b,rfl,c3,c4,c5,rfl⟩
 ·have P:((19:Int) != 0)=I:=rfl;rw[if_pos S];exact⟨H1,_,by simp only[q1,go_sem,zA,zB,P],N.res q3⟩
 ·have P:((5:Int) != 0)=I:=rfl;rw[if_neg (by simp[S]),c2];exact⟨H1,_,by simp only[q1,go_sem,zA,zB,P],N.res q3⟩
 ·have P:((0:Int) != 0)=Y:=rfl;rw[if_neg (by simp[S]),c5];have ag:=hk.used;have ah:=hk.limit;have aj:=hk.peak;have hc:H1[o]?=K (.cells (YI m s.tick)):=N.cells;have l0:=ld hc 0 (v:=Q J (s.limit:Int)) (by rw[<-C8 s];rfl);have l1:=ld hc 1 (v:=Q J (Zs s.files:Int)) (by rw[<-Yh s];rfl);have hw:xR.wrap ((Zs s.files:Int)+(O t:Int))=((Zs s.files+O t:Nat):Int):=by rw[Zl X X];omega
  by_cases hf:s.limit<Zs s.files+O t
  ·have e2:decide ((s.limit:Int)<((Zs s.files+O t:Nat):Int))=I:=by rw[decide_eq_true_eq];omega
   simp only[if_pos hf];exact⟨H1,_,by simp only[q1,go_sem,zA,zB,P,Bq,l0,l1,hw,e2],N.res q3⟩
  ·have e2:decide ((s.limit:Int)<((Zs s.files+O t:Nat):Int))=Y:=by simp;omega
   simp only[if_neg hf];obtain⟨k1,hd,k3,k4⟩:=N.mid;have ab:=h.files
   have L:Zs s.files=Zs (a.map FD.fil)+(O d.fil.text+Zs (b.map FD.fil)):=by
    rw[<-ab,zF,zQ,XG]
   have m0:=ld hd.cells 0 (v:=d.tx) rfl;obtain⟨u,H2,p1,p2,p3,p4,p5⟩:=hd.text.app t X;have g1:H2[d.f]?=K (.cells [d.tx,Q J (d.fil.syn:Int)]):=p3.get hd.cells λM=>k4 _ M rfl
   have Z:u.cells=[u]/\u.known=I:=by
    rcases p2 with ⟨rfl,_⟩|⟨t',e',rfl,_⟩|rfl <;> exact⟨rfl,rfl⟩
   have s1:=st g1 0 (v:=u) Z.1 Z.2 U;have w:=k3 d.f (by simp[FD.own]);have ae:o∉ZA d.tx:=λM=>(k3 o (by simp[FD.own,M])).1 rfl;have ac:m∉ZA d.tx:=λM=>(k3 m (by simp[FD.own,M])).2 rfl;have g2:H2[o]?=K (.cells (YI m s.tick)):=p3.get hc ae;have g3:=YX (.cells (zL [d.tx,Q J (d.fil.syn:Int)] 0 u)) w.1 g2;have n1:=ld g3 1 (v:=Q J (Zs s.files:Int)) (by rw[<-Yh s];rfl);have s2:=st g3 1 (v:=Q J ((Zs s.files+O t:Nat):Int)) rfl rfl (by simp[YI]);have R:=Zu (zR (zL (YI m s.tick) 1 (Q J ((Zs s.files+O t:Nat):Int)))) g3;have n2:=ld R 2 (v:=Q J (s.peak:Int)) (by rw[<-Ow s];rfl);have n3:=ld R 1 (v:=Q J ((Zs s.files+O t:Nat):Int)) rfl;have ad:max (s.peak:Int) ((Zs s.files+O t:Nat):Int)=((max s.peak (Zs s.files+O t):Nat):Int):=X
   have s3:=st R 2 (v:=Q J ((max s.peak (Zs s.files+O t):Nat):Int)) rfl rfl (by simp[YI]);have g5:=Zu (zR (zL (zL (YI m s.tick) 1 (Q J ((Zs s.files+O t:Nat):Int))) 2 (Q J ((max s.peak (Zs s.files+O t):Nat):Int)))) R;generalize E:H2.set d.f (.cells (zL [d.tx,Q J (d.fil.syn:Int)] 0 u))=H3 at s1 g3 n1 s2 R n2 n3 s3 g5;generalize F:H3.set o (.cells (zL (YI m s.tick) 1 (Q J ((Zs s.files+O t:Nat):Int))))=H4 at s2 R n2 n3 s3 g5;generalize G:H4.set o (.cells (zL (zL (YI m s.tick) 1 (Q J ((Zs s.files+O t:Nat):Int))) 2 (Q J ((max s.peak (Zs s.files+O t):Nat):Int))))=H5 at s3 g5
   have hS:Stp (o::d.own) H1 H5:=by
    refine (p3.mono (B:=o::d.own) λx M=>by simp[FD.own,M]).trans (B:=o::d.own) (C:=o::d.own) ?_ (λ_ h=>h) λ_ h=>.inl h;rw[<-G,<-F,<-E];exact ((Stp.set _ _ (by simp[FD.own])).trans (Stp.set _ _ U) (λ_ h=>h) λ_ h=>.inl h).trans (Stp.set _ _ U) (λ_ h=>h) λ_ h=>.inl h
   have z:∀ y,y≠o->y≠d.f->H5[y]?=H2[y]?:=λy h1 h2=>by
    rw[<-G,zG (λe=>h1 e.symm),<-F,zG (λe=>h1 e.symm),<-E,zG (λe=>h2 e.symm)]
   have D:∀ y∈FD.own { d with fil:={ d.fil with text:=d.fil.text++t },tx:=u },y∈d.own\/O H1<=y:=λy j=>by
    rcases zI.1 j with e|j
    ·subst e;exact .inl (by simp[FD.own])
    ·rcases p4 y j with k|k
     ·exact .inl (by simp[FD.own,k])
     ·exact .inr X
   have T:∀ y∈d.own,y<O H1:=hd.lt
   have hT:∀ y∈ZA u,y≠o/\y≠d.f:=λy j=>by
    rcases p4 y j with k|k
    ·exact⟨(k3 y (by simp[FD.own,k])).1,k4 y k⟩
    ·have:=Zq hc;have:=T d.f (by simp[FD.own]);omega
   have af:Zs (Y9 s.files n λf=>{ f with text:=f.text++t })=Zs s.files+O t:=by
    rw[L,<-h.files,AW a d b n _ c3 c4,XG,zU];omega
   have aa:=N.upd (H':=H5) (d':={ d with fil:={ d.fil with text:=d.fil.text++t },tx:=u }) (s':={ s.tick with files:=Y9 s.files n λf=>{ f with text:=f.text++t },peak:=max s.peak (Zs s.files+O t) })
    (by rw[g5];simp only[af];rfl)
    (by rw[z m (λe=>h.om e.symm) (λe=>w.2 e.symm)];exact p3.at' m (Zq N.map) ac)
    rfl (by show Y9 s.files n _=_;rw[<-h.files,AW a d b n _ c3 c4])
    ⟨by
     rw[<-G,zG (λe=>w.1 e.symm),<-F,zG (λe=>w.1 e.symm),<-E];exact Zu _ g1,p2.frame λy j=>z y (hT y j).1 (hT y j).2⟩ hS
    (by
     rw[FD.own,zE];refine⟨λj=>(hT _ j).2 rfl,?_⟩;show (ZA u).Nodup;rcases p2 with ⟨rfl,_⟩|⟨t',e',rfl,_⟩|rfl <;> simp[ZA])
    D
   refine⟨H5,_,?_,h.fileRes q3 aa hS D⟩;simp only[q1,go_sem,zA,zB,P,Bq,l0,l1,hw,e2,AH,m0,p1,s1,n1,s2,n2,n3,ad,s3]
theorem Zmh {H:Hp}{o:Nat}{s:Sto}{A:dv}(h:StoreAt H o s A)(M:StoOk s)(n:Zj)(i k:Int)(hi:-9223372036854775808<=i/\i<=9223372036854775807) :
 ∃ H',GP [.ptr o 0,.str n,Q J i,Q J k] H=K (.tuple [.str (s.read n i k).1,Q J (s.read n i k).2],H')/\StoRes H H' o s.tick A A:=by
 obtain⟨m,ab,ds,h,rfl⟩:=h;obtain⟨p,e,H1,q1,E,q3,q4⟩:=jR h M.count n;rw[cD];unfold MN Sto.read;rcases q4 with ⟨C,rfl⟩|⟨C,c2,rfl⟩|⟨C,rfl,a,d,b,rfl,c3,c4,c5,rfl⟩
 ·have D:((19:Int) != 0)=I:=rfl;rw[if_pos C];exact⟨H1,by simp only[q1,go_sem,zA,zB,D],E.res q3⟩
 ·have D:((5:Int) != 0)=I:=rfl;rw[if_neg (by simp[C]),c2];exact⟨H1,by simp only[q1,go_sem,zA,zB,D],E.res q3⟩
 ·have D:((0:Int) != 0)=Y:=rfl;rw[if_neg (by simp[C]),c5];obtain⟨k1,F,k3,k4⟩:=E.mid;have m0:=ld F.cells 0 (v:=d.tx) rfl;have w:=F.text.len 5
  have G:Zs s.files=Zs (a.map FD.fil)+(O d.fil.text+Zs (b.map FD.fil)):=by
   rw[<-h.files,zF,zQ,XG]
  have S:=M.used;have aa:=M.limit;refine⟨H1,?_,E.res q3⟩;simp only[q1,go_sem,zA,zB,D,bG];by_cases u:i<0
  ·simp only[decide_eq_true u,go_sem,if_pos (show i<0\/(O d.fil.text:Int)<i\/k<0 from .inl u)]
  by_cases z:(O d.fil.text:Int)<i
  ·simp only[decide_eq_false u,go_sem,m0,w,decide_eq_true z,if_pos (show i<0\/(O d.fil.text:Int)<i\/k<0 from .inr (.inl z))]
  by_cases B:k<0
  ·simp only[decide_eq_false u,go_sem,m0,w,decide_eq_false z,decide_eq_true B,if_pos (show i<0\/(O d.fil.text:Int)<i\/k<0 from .inr (.inr B))]
  have P:¬ (i<0\/(O d.fil.text:Int)<i\/k<0):=X
  have T:xR.wrap ((O d.fil.text:Int)-i)=(O d.fil.text:Int)-i:=Zl X X;have Z:xR.wrap (i+min k ((O d.fil.text:Int)-i))=((i.toNat+min k.toNat (O d.fil.text-i.toNat):Nat):Int):=by rw[Zl X X];omega
  obtain⟨y,p1,p2⟩:=F.text.part (i:=i.toNat) (j:=i.toNat+min k.toNat (O d.fil.text-i.toNat)) X X H1;have L:((i.toNat:Nat):Int)=i:=X
  rw[L]at p1
  have R:(d.fil.text.take (i.toNat+min k.toNat (O d.fil.text-i.toNat))).drop i.toNat=(d.fil.text.drop i.toNat).take k.toNat:=by
   rw[List.drop_take,Nat.add_sub_cancel_left];by_cases N:k.toNat<=O d.fil.text-i.toNat
   ·rw[xG N]
   ·rw[Nat.min_eq_right X,zT U,zT (by simp;omega)]
  rw[R]at p2;simp only[decide_eq_false u,go_sem,m0,w,decide_eq_false z,decide_eq_false B,bH,T,Z,p1,p2,if_neg P]
def A4 (j x8:AV):Option AV :=
 Z0 (Z2 .geq j (.int .u8 97)) λw =>
 Z0 (Z8 w I bf (K j)) λD =>
 Z0 (Z8 w I bf (Z2 .leq D (.int .u8 122))) λE =>
 Z0 (Zm w E (.bool Y)) λu =>
 Z0 (Z8 u Y bf (K j)) λF =>
 Z0 (Z8 u Y bf (Z2 .geq F (.int .u8 65))) λG =>
 Z0 (Z8 u Y bf (K G)) λy =>
 Z0 (Z8 y I bf (K j)) λH =>
 Z0 (Z8 y I bf (Z2 .leq H (.int .u8 90))) λL =>
 Z0 (Z8 u Y bf (Zm y L (.bool Y))) λM =>
 Z0 (Zm u (.bool I) M) λz =>
 Z0 (Z8 z Y bf (K j)) λN =>
 Z0 (Z8 z Y bf (Z2 .eql N (.int .u8 95))) λP =>
 Z0 (Zm z (.bool I) P) λA =>
 Z0 (Z8 A Y bf (K j)) λR =>
 Z0 (Z8 A Y bf (Z2 .eql R (.int .u8 46))) λS =>
 Z0 (Zm A (.bool I) S) λT =>
 Z0 (YU .not T) λh =>
 Z0 (Z8 h I bf (K x8)) λZ =>
 Z0 (Z8 h I bf (Z2 .eql Z (Q J 0))) λaa =>
 Z0 (Z8 h I bf (K aa)) λB =>
 Z0 (Z8 B Y bf (K j)) λab =>
 Z0 (Z8 B Y bf (Z2 .lss ab (.int .u8 48))) λac =>
 Z0 (Z8 h I bf (Zm B (.bool I) ac)) λad =>
 Z0 (Z8 h I bf (K ad)) λC =>
 Z0 (Z8 C Y bf (K j)) λae =>
 Z0 (Z8 C Y bf (Z2 .gtr ae (.int .u8 57))) λaf =>
 Z0 (Z8 h I bf (Zm C (.bool I) af)) λag =>
 Z0 (Zm h ag (.bool Y)) λah =>
 K ah
theorem Zeu (w z u A:AV)(y H:Hp):DK w z u A y H =
 Z0 (Zp w u) λj =>
 Z0 (A4 j u) λh =>
 Zh h (K ((.bool Y),H)) (DL w z u y H):=by
 rw[kQ];simp only[A4,Bc,Xz]
theorem Zi3:((xI 256).all λn=>(F4 (A4 (.int .u8 (n:Int)) (Q J 1))==K (!(Kk (zH n) || Uv (zH n))))&&(F4 (A4 (.int .u8 (n:Int)) (Q J 0))==K (!Kk (zH n))))=I:=dz
theorem Zn1 (b:UInt8):A4 (.int .u8 b.toNat) (Q J 0)=K (.bool (!Kk b)):=by
 have h:=W2 Zi3 (Oy b);simp only[zW,beq_iff_eq,xA]at h;exact Ud h.2
theorem ZoQ (b:UInt8){i:Int}(hi:(i==0)=Y):A4 (.int .u8 b.toNat) (Q J i)=K (.bool (!(Kk b || Uv b))):=by
 have h:=W2 Zi3 (Oy b);simp only[zW,beq_iff_eq,xA]at h;rw[<-Ud h.1];have e:Z2 .eql (Q J i) (Q J 0)=Z2 .eql (Q J 1) (Q J 0):=by simp only[Z2,X6,X8,hi];rfl
 unfold A4
 iterate 18 refine congrArg (Z0 _) (funext λt=>?_)
 cases t with
 |bool b =>
  cases b
  ·rfl
  ·simp only[Zn5,Xz,e]
 |_=>rfl
theorem Zn2 (s:Zj)(h H:Hp):DJ (.str s) h H=K (.bool (!s.isEmpty&&decide (O s<=32)),H):=by
 rw[kP]
 cases s with
 |nil=>simp[go_sem,Y1,QC]
 |cons b l =>
  simp only[Y1,QC,go_sem,Zf];have:(!((b::l)==([]:Zj)))=I:=rfl;have c:decide (((b::l).length:Int)<=32)=decide ((b::l).length<=32):=by rw[Bool.eq_iff_iff];simp;omega
  simp only[this,go_sem,c,xB,yC,yE]
theorem Zr1 (s:Zj)(D:O s<=1048576)(w H:Hp):∀ (k i:Nat),O s-i=k->0<i->i<=O s ->
 Jj (.str s) (Q J (O s)) (Q J i) w H=K (.bool (((s.drop i).all λc=>Kk c || Uv c)&&(!s.isEmpty&&decide (O s<=32))),H):=by
 intro k
 induction k with
 |zero =>
  intro i A y hi;rw[U3];have h:decide ((i:Int)<(O s:Int))=Y:=by simp;omega
  have z:s.drop i=[]:=List.drop_eq_nil_iff.2 X;simp only[go_sem,h,Zn2 s,z,List.all_nil,yE]
 |succ k B =>
  intro i A y hi;rw[U3];have u:i<O s:=X
  have h:decide ((i:Int)<(O s:Int))=I:=by simp;omega
  have hw:xR.wrap ((i:Int)+1)=((i+1:Nat):Int):=by rw[Zl X X];omega
  have j:((i:Int)==0)=Y:=by simp;omega
  simp only[go_sem,h,Zeu,ZG (yA u),ZoQ _ j];rw[List.drop_eq_getElem_cons u,xO]
  cases C:(Kk s[i] || Uv s[i]) with
  |false=>simp only[go_sem,yC,yD]
  |true =>
   simp only[go_sem,yF,yE,Pv,hw];exact B (i+1) X X X
theorem Zr0 (s:Zj)(w:O s<=1048576)(H:Hp):Ze Rb [.str s] H=K (.bool (UN s),H):=by
 refine YG (a':=.str s) rfl (H1:=[]) ?_ rfl;rw[oA];unfold CN;simp only[go_sem,Zf]
 cases s with
 |nil=>rw[U3];simp[go_sem,Zn2 [],UN]
 |cons b l =>
  rw[U3];have j:decide ((0:Int)<((b::l).length:Int))=I:=U
  have hw:xR.wrap ((0:Int)+1)=((0+1:Nat):Int):=di
  have h:Zp (.str (b::l)) (Q J 0)=K (.int .u8 b.toNat):=by simp[Zp]
  simp only[go_sem,j,Zeu,h,Zn1];unfold UN
  cases u:Kk b with
  |false=>simp only[go_sem,yC,u,yD]
  |true =>
   have:=Zr1 (b::l) w [] [] (O l) 1 U X U;rw[show ((1:Nat):Int)=((0+1:Nat):Int) from rfl]at this;simp only[go_sem,yF,Pv,hw,this];simp only[xN,xJ,xB,yC,yE,u]
theorem ZyV {H:Hp}{m j:Nat}{u:List (AV×AV×Nat)}(h:H[m]?=K (.map u j)):K7 (.map m) H=K (Q J (O u:Int)):=by
 unfold K7 Xs;dsimp only;rw[h]
theorem ZpT {H:Hp}{o:Nat}{s:Sto}{A:dv}(h:StoreAt H o s A)(hk:StoOk s)(n:Zj)(hn:O n<=1048576) :
 ∃ H' A',JV [.ptr o 0,.str n] H=K (Q J (s.create n).1,H')/\StoRes H H' o (s.create n).2 A A':=by
 obtain⟨m,j,z,h,rfl⟩:=h;obtain⟨H1,G,D,M⟩:=Zkh h hk.count;have B:=Zr0 n hn H1;have hc:H1[o]?=K (.cells (YI m s.tick)):=D.cells;have l3:=ld hc 3 (v:=.map m) rfl;have R:=D.look n;rw[Yh]at R;have F:=ZyV D.map;have ab:(z.map FD.ent).length=O s.files:=by rw[zZ,<-h.files,zZ]
 rw[ab]at F;rw[I1];unfold Tm Sto.create
 cases P:s.tick.crashed with
 |true =>
  rw[P]at G;rw[if_pos rfl];exact⟨H1,_,by simp only[go_sem,G],D.res M⟩
 |false =>
  rw[P]at G;rw[if_neg U]
  cases T:UN n with
  |false =>
   rw[T]at B;rw[if_pos rfl];exact⟨H1,_,by simp only[go_sem,G,B,yC],D.res M⟩
  |true =>
   rw[T]at B;rw[if_neg U];rcases R with ⟨k1,k2⟩|⟨a,d,b,k1,k2,k3,k4,k5⟩
   ·rw[k1];by_cases N:64<=O s.files
    ·have e1:decide ((64:Int)<=(O s.files:Int))=I:=by rw[decide_eq_true_eq];omega
     simp only[if_pos N];exact⟨H1,_,by simp only[go_sem,G,B,yF,l3,k2,F,e1],D.res M⟩
    ·have e1:decide ((64:Int)<=(O s.files:Int))=Y:=by simp;omega
     have e2:Y5 (.map 9 98) .eql (.map m) .nilm=K (.bool Y):=rfl;have aa:ZY (.agg [.nils,Q J 0]) H1=K (.ptr (O H1) 0,H1++[.cells [.nils,Q J 0]]):=rfl;have S:(H1++[zR [.nils,Q J 0]])[m]?=K (.map (z.map FD.ent) j):=XC D.map _
     have Z:XL .string (.map m) (.str n) (.ptr (O H1) 0) (H1++[zR [.nils,Q J 0]])=K (.tuple [],(H1++[zR [.nils,Q J 0]]).set m (.map (z.map FD.ent++[(.str n,.ptr (O H1) 0,j)]) (j+1))):=by
      have ac:Wr .string (.str n)=I:=rfl;unfold XL;dsimp only;rw[S];dsimp only;rw[if_pos ac,Zi0 z n 0 (by rw[h.files];exact k1)]
     simp only[if_neg N];have af:=Zq D.map;have ag:=Zq hc
     have hS:Stp [o,m] H1 ((H1++[zR [.nils,Q J 0]]).set m (.map (z.map FD.ent++[(.str n,.ptr (O H1) 0,j)]) (j+1))) :=
      (Stp.push (A:=[o,m]) H1 _).trans (Stp.set _ _ U) (λ_ h=>h) λ_ h=>.inl h
     have E:∀ d∈z,FileAt ((H1++[zR [.nils,Q J 0]]).set m (.map (z.map FD.ent++[(.str n,.ptr (O H1) 0,j)]) (j+1))) d:=λd w=>(D.file d w).frame λy L=>by
      have:=D.own_lt w L;exact hS.at' y ((D.file d w).lt y L) (by simp[this.1,this.2])
     have ad:=D.lt;have ah:=ld (XC hc [zR [.nils,Q J 0]]) 3 (show (YI m s.tick)[3]?=K (.map m) from rfl);refine⟨(H1++[zR [.nils,Q J 0]]).set m (.map (z.map FD.ent++[(.str n,.ptr (O H1) 0,j)]) (j+1)),o::m::(z++[FD.mk ⟨n,[],0⟩ (O H1) .nils j]).flatMap FD.own,?_,⟨⟨m,j+1,z++[⟨⟨n,[],0⟩,O H1,.nils,j⟩],⟨?_,?_,?_,?_,?_,?_⟩,rfl⟩,?_,?_⟩⟩
     ·simp only[go_sem,G,B,yF,l3,k2,F,e1,AI,e2,AJ,aa,Z]
     ·show _=s.files++[_];rw[zF,h.files];rfl
     ·rw[YX _ h.om.symm (XC hc _)];simp only[YI,Ug,Zs,Yh];rfl
     ·rw[Zu _ S];simp[FD.ent]
     ·intro d w;rcases zM.1 w with w|w
      ·exact E d w
      ·rw[zD.1 w];exact⟨YX _ (by show m≠O H1;omega) U,.inl ⟨rfl,rfl⟩⟩
     ·rw[zC];have h0:=h.nd;have u:(o::m::z.flatMap FD.own)++[O H1]=o::m::(z.flatMap FD.own++[FD.mk ⟨n,[],0⟩ (O H1) .nils j].flatMap FD.own):=by simp[FD.own,ZA]
      rw[<-u,zK];refine⟨h0,U,λx u y L=>?_⟩;rw[zD.1 L];have:=ad x u;omega
     ·obtain⟨b1,b2⟩:=h.born;refine⟨?_,λd w=>?_⟩
      ·rw[zF,zK];refine⟨b1,U,λx u y L=>?_⟩;obtain⟨d,w,rfl⟩:=yQ.1 u;have:=b2 d w;simp at L;omega
      ·rcases zM.1 w with w|w
       ·have:=b2 d w;omega
       ·rw[zD.1 w];simp
     ·refine (M.trans hS (C:=o::m::z.flatMap FD.own) (λx u=>by rw[zD.1 u];simp) λx u=>.inl ?_);simp at u;rcases u with e|e <;> subst e <;> simp
     ·intro x u;rcases zI.1 u with e|u
      ·subst e;exact .inl U
      rcases zI.1 u with e|u
      ·subst e;exact .inl U
      rw[zC]at u;rcases zM.1 u with u|u
      ·exact .inl (by simp[u])
      ·have ae:x=O H1:=by simpa[FD.own,ZA]using u
       rw[ae];exact .inr M.len
   ·rw[k4];exact⟨H1,_,by simp only[go_sem,G,B,yF,l3,k5],D.res M⟩
theorem Zby {α:Type}(a:List α)(d:α)(b:List α):(a++d::b).eraseIdx (O a)=a++b:=by
 induction a with
 |nil=>rfl
 |cons x a h=>simp only[yG,yN,List.eraseIdx_cons_succ,h]
theorem Zhq {H:Hp}{o:Nat}{s:Sto}{A:dv}(h:StoreAt H o s A)(hk:StoOk s)(n:Zj) :
 ∃ H' A',VR [.ptr o 0,.str n] H=K (Q J (s.remove n).1,H')/\StoRes H H' o (s.remove n).2 A A':=by
 obtain⟨m,u,ds,h,rfl⟩:=h;obtain⟨p,e,H1,q1,E,q3,q4⟩:=jR h hk.count n;rw[I2];unfold Tn Sto.remove;rcases q4 with ⟨M,rfl⟩|⟨M,c2,rfl⟩|⟨M,rfl,a,d,b,rfl,Z,c4,c5,rfl⟩
 ·have N:((19:Int)==0)=Y:=rfl;rw[if_pos M];exact⟨H1,_,by simp only[q1,go_sem,zA,zB,N,UE],E.res q3⟩
 ·have N:((5:Int)==0)=Y:=rfl;rw[if_neg (by simp[M]),c2];exact⟨H1,_,by simp only[q1,go_sem,zA,zB,N,UE],E.res q3⟩
 ·have N:((0:Int)==0)=I:=rfl;rw[if_neg (by simp[M]),c5];obtain⟨k1,hd,k3,k4⟩:=E.mid
  have G:Zs s.files=Zs (a.map FD.fil)+(O d.fil.text+Zs (b.map FD.fil)):=by
   rw[<-h.files,zF,zQ,XG]
  have S:JI s.files n=a.map FD.fil++b.map FD.fil:=by rw[<-h.files,Zzb a d b n Z c4]
  have ad:Zs (JI s.files n)=Zs s.files-O d.fil.text:=by rw[S,Ug,G];omega
  have ae:=hk.used;have ag:=hk.limit;have T:H1[o]?=K (.cells (YI m s.tick)):=E.cells;have l1:=ld T 1 (v:=Q J (Zs s.files:Int)) (by rw[<-Yh s];rfl);have l3:=ld T 3 (v:=.map m) rfl;have m0:=ld hd.cells 0 (v:=d.tx) rfl;have R:=hd.text.len 5
  have ac:Yj .string .nilp Y (.map m) (.str n) H1=K (.ptr d.f 0):=by
   rcases E.look n with ⟨k,_⟩|⟨a',d',b',k5,k6,k7,k8,k9⟩
   ·rw[Yh,c5]at k;cases k
   ·rw[k9];have w:X2 (.str n) ((a++d::b).map FD.ent) 0=X2 (.str n) ((a'++d'::b').map FD.ent) 0:=by rw[k5]
    rw[SN a d b n 0 Z c4,SN a' d' b' n 0 k6 k7]at w;injection w with w;injection w with w;injection w with _ w;injection w with w;rw[w]
  have hw:xR.wrap ((Zs s.files:Int)-(O d.fil.text:Int))=((Zs s.files-O d.fil.text:Nat):Int):=by rw[Zl X X];omega
  have s1:=st T 1 (v:=Q J ((Zs s.files-O d.fil.text:Nat):Int)) rfl rfl (by simp[YI]);have g1:=Zu (zR (zL (YI m s.tick) 1 (Q J ((Zs s.files-O d.fil.text:Nat):Int)))) T;have g2:=YX (.cells (zL (YI m s.tick) 1 (Q J ((Zs s.files-O d.fil.text:Nat):Int)))) h.om E.map;have n3:=ld g1 3 (v:=.map m) rfl;generalize aa:H1.set o (.cells (zL (YI m s.tick) 1 (Q J ((Zs s.files-O d.fil.text:Nat):Int))))=L at s1 g1 g2 n3
  have P:Jx .string (.map m) (.str n) L=K (.tuple [],L.set m (.map ((a++b).map FD.ent) u)):=by
   have ab:Wr .string (.str n)=I:=rfl;unfold Jx;dsimp only;rw[g2];dsimp only;rw[if_pos ab,SN a d b n 0 Z c4];dsimp only;rw[yP,zF,zQ,show O a=(a.map FD.ent).length by simp,Zby,zF]
  have hS:Stp [o,m] H1 (L.set m (.map ((a++b).map FD.ent) u)):=by
   rw[<-aa];exact (Stp.set _ _ U).trans (Stp.set _ _ U) (λ_ h=>h) λ_ h=>.inl h
  have j:∀ y∈a++b,y∈a++d::b:=λy D=>by rcases zM.1 D with k|k <;> simp[k]
  refine⟨L.set m (.map ((a++b).map FD.ent) u),o::m::(a++b).flatMap FD.own,?_,⟨⟨m,u,a++b,⟨?_,?_,?_,?_,?_,?_⟩,rfl⟩,?_,?_⟩⟩
  ·have F:GR [.ptr o 0,.str n] H1=K (.tuple [],L.set m (.map ((a++b).map FD.ent) u)):=by
    rw[cF];unfold MP;simp only[go_sem,l3,ac,l1,m0,R,hw,s1,n3,P]
   simp only[q1,go_sem,zA,zB,N,F,UE]
  ·show _=JI s.files n;rw[S,zF]
  ·rw[YX _ h.om.symm g1];simp only[YI,ad];rfl
  ·exact Zu _ g2
  ·intro y D;refine (E.file y (j y D)).frame λz hz=>hS.at' z ((E.file y (j y D)).lt z hz) ?_;have:=E.own_lt (j y D) hz;simp[this.1,this.2]
  ·refine (yX ?_ h.nd);rw[zC,zC,zS];exact ((xC _).append (List.sublist_append_right _ _)).cons_cons m |>.cons_cons o
  ·obtain⟨b1,b2⟩:=h.born;refine⟨?_,λy D=>b2 y (j y D)⟩;rw[zF,zQ]at b1;rw[zF];exact yX ((xC _).append (List.sublist_cons_self _ _)) b1
  ·refine q3.trans hS (C:=o::m::(a++d::b).flatMap FD.own) (λx B=>by rw[zD.1 B];simp) λx B=>.inl ?_;simp at B;rcases B with e|e <;> subst e <;> simp
  ·intro x B;rcases zI.1 B with e|B
   ·subst e;exact .inl U
   rcases zI.1 B with e|B
   ·subst e;exact .inl U
   obtain⟨y,D,af⟩:=xD.1 B;exact .inl (yW _ (yW _ (xD.2 ⟨y,j y D,af⟩)))
def ZH (l:List Fil):List Fil:=(VJ (l.map Fil.name)).filterMap (Y2 l)
def ZL (f:Fil):AV:=.agg [.str f.name,Q J (O f.text:Int),Q J (f.syn:Int)]
theorem Zv9:∀ h:List FD,Ou (h.map FD.ent)=K (h.map λd=>d.fil.name):=by
 intro h
 induction h with
 |nil=>rfl
 |cons d h j=>rw[zQ,FD.ent,Ou,j];rfl
theorem ZtC:∀ l:List Zj,l.Nodup->Ab l=I:=by
 intro l
 induction l with
 |nil=>intro _;rfl
 |cons s r y =>
  intro h;obtain⟨j,u⟩:=zE.1 h;simp only[Ab,zW,zY];refine⟨λt w=>?_,y u⟩;have:t≠s:=λe=>j (e ▸ w);simp[this]
theorem ZvR (c:Nat):∀ l:dv,l.Nodup->(∀ n∈l,n<c)->hJ c l=I:=by
 intro l
 induction l with
 |nil=>intro _ _;rfl
 |cons s r A =>
  intro h j;obtain⟨u,w⟩:=zE.1 h;simp only[hJ,zW,zY,decide_eq_true_eq];refine⟨j s U,λt z=>?_,A w λn y=>j n (by simp[y])⟩;have:t≠s:=λe=>u (e ▸ z);simp[this]
theorem Zg6 {n:Zj}(h:UN n=I):O n<=32:=by
 unfold UN at h;rw[zW,decide_eq_true_eq]at h;exact h.2
theorem ZkK {H:Hp}{o m j:Nat}{w:List FD}{s:Sto}(h:StAt H o m j w s)(y:StoOk s):∃ x,namesE.run [.ptr o 0] H=K (x,H)/\SS x (VJ (s.files.map Fil.name)):=by
 have z:w.map (λd=>d.fil.name)=s.files.map Fil.name:=by rw[<-h.files,xQ];rfl
 have F:BT H o=K (Zik (s.files.map Fil.name)):=by
  unfold BT;rw[h.cells];dsimp only;rw[show ([xM .i64 (s.limit:Int),Q J (Zs s.files:Int),Q J (s.peak:Int),.map m,.bool s.crashed,Q J (s.count:Int)])[3]?=K (.map m) from rfl];dsimp only;rw[h.map];dsimp only;rw[Zv9,z];dsimp only;rw[if_pos]
  have A:=ZvR j _ h.born.1 λn u=>by
   obtain⟨d,B,rfl⟩:=yQ.1 u;exact h.born.2 d B
  have C:(w.map FD.ent).map (·.2.2)=w.map FD.born:=by rw[xQ];rfl
  rw[C,A,ZtC _ y.nd];simp only[yE,zW,zY,decide_eq_true_eq,zZ];refine⟨λt E=>?_,by have:=y.len;omega⟩;obtain⟨f,D,rfl⟩:=yQ.1 E;have:=Zg6 (y.name f D);omega
 refine⟨Zik (s.files.map Fil.name),?_,?_⟩
 ·show (BT H o).map (·,H)=_;rw[F];rfl
 ·unfold Zik;split
  ·rename_i u;exact .inl ⟨rfl,by rw[u];rfl⟩
  ·rename_i G r u;exact .inr ⟨.no,by rw[u]⟩
theorem Zu1 {w:Hp}{o m F:Nat}{ds:List FD}{s:Sto}(h:StAt w o m F ds s)(hk:StoOk s){x:AV}{u:List Zj}(hx:SS x u)(aa:∀ n∈u,∃ f,Y2 s.files n=K f)(hl:O u<=64)(HB:Hp):∀ (r d:List Zj) (N:AV) (H:Hp),u=d++r ->
 RowN (O w) H 3 N ((d.filterMap (Y2 s.files)).map ZL)->Keep (O w) w H->O w<=O H ->
 ∃ y H',UR (.ptr o 0) N x (Q J (O u:Int)) (Q J (O d:Int)) HB H=K (y,H')/\RowN (O w) H' 3 y ((u.filterMap (Y2 s.files)).map ZL)/\Keep (O w) w H'/\O w<=O H':=by
 intro r
 induction r with
 |nil =>
  intro d N H A P M j;rw[zX]at A;subst A;have E:decide ((O u:Int)<(O u:Int))=Y:=U
  rw[Fl];simp only[go_sem,E,bD];exact⟨_,_,rfl,P,M,j⟩
 |cons n r ih =>
  intro d N H A P M j;have Z:O u=O d+(O r+1):=by rw[A];simp
  have E:decide ((O d:Int)<(O u:Int))=I:=by simp;omega
  have ab:xR.wrap ((O d:Int)+1)=((O d+1:Nat):Int):=by rw[Zl X X];omega
  have T:u[O d]?=K n:=by rw[A,zN (zJ _)];simp
  have G:=SS.idx hx T;have z:StAt H o m F ds s:=h.frame λa ha=>M a (h.lt a ha);obtain⟨f,R⟩:=aa n (by rw[A];simp);have l3:=ld z.cells 3 (v:=.map m) rfl;rcases z.look n with ⟨k,_⟩|⟨a',d',b',k5,k6,k7,k8,k9⟩
  ·rw[R]at k;cases k
  ·have B:=z.file d' (by rw[k5];simp);have S:f=d'.fil:=by rw[R]at k8;injection k8
   have m0:=ld B.cells 0 (v:=d'.tx) rfl;have m1:=ld B.cells 1 (v:=Q J (d'.fil.syn:Int)) rfl;have D:=B.text.len 5;have C:(Yb [(0,1,.str n),(1,1,Q J (O d'.fil.text:Int)),(2,1,Q J (d'.fil.syn:Int))] [(.str []),(Q J 0),(Q J 0)]).map AV.agg=K (ZL d'.fil):=by rw[<-k6];rfl
   have L:(ZB 3 [(0,ZL d'.fil)] [(.agg [(.str []),(Q J 0),(Q J 0)])]).map (AV.vs 3 .clip)=K (.vs 3 .clip [ZL d'.fil]):=rfl;have ac:(d.filterMap (Y2 s.files)).length<=O d:=List.length_filterMap_le _ _;obtain⟨x',H1,q1,q2,q3,q4,_⟩:=P.app j 32 (.vs 3 .clip [ZL d'.fil]) [ZL d'.fil] rfl (by simp;omega);obtain⟨y,H',p1,p2,p3,p4⟩:=ih (d++[n]) x' H1 (by rw[A];simp) (by rw[List.filterMap_append,zF];simpa[R,S]using q2) (M.trans q4) q3;rw[zU,zP]at p1;refine⟨y,H',?_,p2,p3,p4⟩;rw[Fl];simp only[go_sem,E,bE,G,ZE,l3,k9,m0,m1,D,C,L,q1,bF,ab];exact p1
theorem Zl3 (l:List Zj)(n:Zj):n∈VJ l↔n∈l:=(Qy l).mem_iff
theorem ZfY {l:List Fil}{n:Zj}(h:n∈l.map Fil.name):∃ f,Y2 l n=K f:=by
 cases u:Y2 l n with
 |some f=>exact⟨f,rfl⟩
 |none =>
  obtain⟨f,j,rfl⟩:=yQ.1 h;exact absurd rfl (Lf.1 u f j)
theorem ZmB (H:Hp)(n f:Nat)(x:Fil):Zk H n (f+2) (ZL x)=K (ZL x):=rfl
theorem Zg4 (H:Hp)(n f:Nat):∀ l:List Fil,(l.map ZL).mapM (Zk H n (f+2))=K (l.map ZL):=by
 intro l
 induction l with
 |nil=>rfl
 |cons a l h=>rw[zQ,xK,ZmB,h];rfl
theorem Qx {f:du->Hp->Z3}{args:du}{H H1:Hp}{v v':AV}(j:f args H=K (v,H1))(h:Keep (O H) H H1)(y:O H<=O H1)(w:Zk H1 (O H) 9 v=K v'):Ve f args H=K (v',H):=by
 have u:H1.take (O H)=H:=by
  apply List.ext_getElem?;intro i;by_cases hi:i<O H
  ·rw[List.getElem?_take_of_lt hi,h i hi]
  ·rw[yV (by simp;omega),yV X]
 unfold Ve;rw[j];dsimp only;rw[u,if_pos (Zbx _),w]
theorem cH {H:Hp}{o:Nat}{s:Sto}{A:dv}(h:StoreAt H o s A)(u:StoOk s):∃ x,Ve Xw [.ptr o 0] H=K (x,H)/\Sl 3 x ((ZH s.files).map ZL):=by
 obtain⟨m,E,N,h,rfl⟩:=h;obtain⟨x,M,D⟩:=ZkK h u;have z:(VJ (s.files.map Fil.name)).length<=64:=by rw[(Qy _).length_eq,zZ];exact u.len
 obtain⟨y,H1,G,L,B,C⟩:=Zu1 h u D (λn w=>ZfY ((Zl3 _ _).1 w)) z H _ [] .nils H rfl (.inl ⟨rfl,rfl⟩) (Keep.refl _ _) (zJ _)
 have j:Xw [.ptr o 0] H=K (y,H1):=by
  rw[cC];unfold MM;simp only[go_sem,bC,M,SS.len D 9];exact G
 rcases L with ⟨rfl,w⟩|⟨t,e,rfl,P,F⟩
 ·exact⟨.nils,Qx j B C rfl,.inl ⟨rfl,w⟩⟩
 ·refine⟨.vs 3 (if t<O H then .own t e else .no) ((ZH s.files).map ZL),Qx j B C (by rw[BI,Zg4];rfl),.inr ⟨_,rfl⟩⟩
theorem Zps (n:Int)(u:-9223372036854775808<=n/\n<=9223372036854775807)(H:Hp):∃ H',Mb [Q J n] H=K (.ptr (O H+1) 0,H')/\StoreAt H' (O H+1) ⟨(min (max n 0) 262144).toNat,0,[],Y,0⟩ [O H+1,O H]/\H'=H++[.map [] 0,.cells [Q J (min (max n 0) 262144),Q J 0,Q J 0,.map (O H),.bool Y,Q J 0]]:=by
 have j:(Yb [(0,1,Q J (min (max n 0) 262144)),(3,1,.map (O H))] [(Q J 0),(Q J 0),(Q J 0),.nilm,(.bool Y),(Q J 0)]).map AV.agg=K (.agg [Q J (min (max n 0) 262144),Q J 0,Q J 0,.map (O H),.bool Y,Q J 0]):=rfl;have h:∀ l:du,ZY (.agg l) (H++[.map [] 0])=K (.ptr (O H+1) 0,H++[.map [] 0]++[.cells l]):=λl=>by rw[VE rfl];simp[AV.cells]
 refine⟨_,?_,⟨O H,0,[],⟨rfl,?_,?_,U,U,U,U⟩,rfl⟩,rfl⟩
 ·rw[Zji];unfold ZdT;simp only[go_sem,j,h,yM,yG,yR]
 ·have:((min (max n 0) 262144).toNat:Int)=min (max n 0) 262144:=X
  simp[Zs,this]
 ·simp
def KJ (a b:Int):Int:=IntKind.u32.wrap ((BitVec.ofInt IntKind.u32.bits a ^^^ BitVec.ofInt IntKind.u32.bits b).toNat:Int)
def SH (a b:Int):Int:=IntKind.u32.wrap ((BitVec.ofInt IntKind.u32.bits a &&& BitVec.ofInt IntKind.u32.bits b).toNat:Int)
theorem Zra (a b:Int):Z2 .xor (.int .u32 a) (.int .u32 b)=K (.int .u32 (KJ a b)):=by simp[Z2,X6,X8,KJ]
theorem Zr9 (a b:Int):Z2 .and (.int .u32 a) (.int .u32 b)=K (.int .u32 (SH a b)):=by simp[Z2,X6,X8,SH]
def QN (k:IntKind)(n:Nat)(a:Int):Int:=a.fdiv (2 ^ (min n k.bits))
def kG (a:Int):Int:=xR.wrap (a*2 ^ (min 8 IntKind.i64.bits))
theorem Bk (k k':IntKind)(a:Int)(n:Nat):Z2 .shr (.int k a) (.int k' (n:Int))=K (.int k (QN k n a)):=by
 simp only[Z2,X6,QN];rw[if_neg X,zV]
theorem Zep (a:Int):0<=SH a 15/\SH a 15<16:=by
 have h:(BitVec.ofInt IntKind.u32.bits a &&& BitVec.ofInt IntKind.u32.bits 15).toNat<=15:=by
  rw[BitVec.toNat_and];exact xP Nat.and_le_right di
 unfold SH;generalize (BitVec.ofInt IntKind.u32.bits a &&& BitVec.ofInt IntKind.u32.bits 15).toNat=n at h
 have:IntKind.u32.wrap (n:Int)=(n:Int):=by
  have j:(2 ^ IntKind.u32.bits:Int)=4294967296:=di
  have u:IntKind.u32.signed=Y:=rfl;unfold IntKind.wrap;simp only[j,u,yD,yB,if_false];omega
 rw[this];omega
def Zo0 (i:Int):Int:=crcTab.getD i.toNat 0
theorem ZpO {i:Int}(h:0<=i/\i<16)(H:Hp):∃ p,NJ 16 1 ZqE (.int .u32 i)=K p/\Z4 Y 1 p H=K (.int .u32 (Zo0 i)):=by
 have j:O crcTab=16:=rfl;refine⟨.vp ((crcTab.map (xM .u32)).drop (i.toNat*1)),?_,?_⟩
 ·unfold NJ;dsimp only;rw[if_pos X];unfold Z6 ZqE;dsimp only;rw[if_pos (by simp[j];omega)]
 ·unfold Z4 Go.Am.apart Zo0;dsimp only;rw[if_neg U,List.getElem?_drop,Nat.add_zero,yU,List.getElem?_map,yA (show i.toNat<O crcTab by omega),List.getD_eq_getElem?_getD,yA (show i.toNat<O crcTab by omega)];rfl
def iS (c:Int):Int:=KJ (Zo0 (SH c 15)) (QN .u32 4 c)
def ZiJ (c:Int)(b:UInt8):Int:=iS (iS (KJ c (IntKind.u32.wrap (b.toNat:Int))))
def P9 (s:Zj):Int:=s.foldl ZiJ 4294967295
def Ri (s:Zj):Int:=KJ IntKind.u32.max (P9 s)
theorem Zwd (s:Zj)(R:O s<=1048576)(D H:Hp):∀ (r d:Zj),s=d++r->Pm (.str s) (.int .u32 (P9 d)) (Q J (O s:Int)) (Q J (O d:Int)) D H=K (.int .u32 (Ri s),H):=by
 intro r
 induction r with
 |nil =>
  intro d j;rw[zX]at j;subst j;have h:decide ((O s:Int)<(O s:Int))=Y:=U
  have N:YU .xor (.int .u32 (P9 s))=K (.int .u32 (Ri s)):=rfl;rw[IY];simp only[go_sem,h,Zi6,N]
 |cons b r P =>
  intro d j;have A:O s=O d+(O r+1):=by rw[j];simp
  have h:decide ((O d:Int)<(O s:Int))=I:=by simp;omega
  have z:xR.wrap ((O d:Int)+1)=((O d+1:Nat):Int):=by rw[Zl X X];omega
  have u:Zp (.str s) (Q J (O d:Int))=K (.int .u8 (b.toNat:Int)):=ZG (by rw[j,zN (zJ _)];simp);have y:ZS .u32 (.int .u8 (b.toNat:Int))=K (.int .u32 (IntKind.u32.wrap (b.toNat:Int))):=rfl;obtain⟨S,E,F⟩:=ZpO (Zep (KJ (P9 d) (IntKind.u32.wrap (b.toNat:Int)))) H;obtain⟨T,G,L⟩:=ZpO (Zep (iS (KJ (P9 d) (IntKind.u32.wrap (b.toNat:Int))))) H;have B:=Bk .u32 .u64 (KJ (P9 d) (IntKind.u32.wrap (b.toNat:Int))) 4;have C:=Bk .u32 .u64 (iS (KJ (P9 d) (IntKind.u32.wrap (b.toNat:Int)))) 4;rw[show ((4:Nat):Int)=4 from rfl]at B C;have w:=P (d++[b]) (by rw[j];simp);rw[zU,zP,show P9 (d++[b])=ZiJ (P9 d) b by simp[P9]]at w;have M:KJ (Zo0 (SH (KJ (P9 d) (IntKind.u32.wrap (b.toNat:Int))) 15)) (QN .u32 4 (KJ (P9 d) (IntKind.u32.wrap (b.toNat:Int))))=iS (KJ (P9 d) (IntKind.u32.wrap (b.toNat:Int))):=rfl;rw[IY];simp only[go_sem,h,Zi7,u,y,Zra,Zr9,E,F,B,M,G,L,C,Zi8,z];exact w
theorem Zwc (s:Zj)(h:O s<=1048576)(H:Hp):Ze OH [.str s] H=K (.int .u32 (Ri s),H):=by
 refine YG (a':=.str s) rfl (H1:=[]) ?_ rfl;rw[Zjf];unfold ZdQ;simp only[go_sem];exact Zwd s h [] [] s [] rfl
def V2 (n:Int):UInt8:=zH (IntKind.u8.wrap n).toNat
def Gh (s:Zj):Zj:=[V2 (Ri s),V2 (QN .u32 8 (Ri s)),V2 (QN .u32 16 (Ri s)),V2 (QN .u32 24 (Ri s))]
theorem Zgg (s:Zj)(A:O s<=1048576)(H:Hp):Ze M9 [.str s] H=K (.str (Gh s),H):=by
 have y:=Bk .u32 .u64 (Ri s) 8;have h:=Bk .u32 .u64 (Ri s) 16;have j:=Bk .u32 .u64 (Ri s) 24;rw[show ((8:Nat):Int)=8 from rfl]at y;rw[show ((16:Nat):Int)=16 from rfl]at h;rw[show ((24:Nat):Int)=24 from rfl]at j;have z:∀ n,ZS .u8 (.int .u32 n)=K (.int .u8 (IntKind.u8.wrap n)):=λn=>rfl;have w:∀ a b c d:Int,(ZB 1 [(0,.int .u8 a),(1,.int .u8 b),(2,.int .u8 c),(3,.int .u8 d)] [(.int .u8 0),(.int .u8 0),(.int .u8 0),(.int .u8 0)]).map (AV.vs 1 .clip)=K (.vs 1 .clip [.int .u8 a,.int .u8 b,.int .u8 c,.int .u8 d]):=λa b c d=>rfl;have u:∀ (a b c d:Int) (H:Hp),XM (.vs 1 .clip [.int .u8 a,.int .u8 b,.int .u8 c,.int .u8 d]) H=K (.str [zH a.toNat,zH b.toNat,zH c.toNat,zH d.toNat]):=λa b c d H=>rfl;refine YG (a':=.str s) rfl (H1:=[]) ?_ rfl;rw[Zjg];unfold ZdR;simp only[Zwc s A,go_sem,z,y,h,j,w,u];rfl
theorem ZnY (s:Zj):(Gh s).length=4:=rfl
def VF (s:Zj):Zj:=[V2 (QN .i64 8 (O s:Int)),V2 (O s:Int)]++s
def X0 (s:Zj):Zj:=VF s++Gh (VF s)
theorem Qq (s:Zj):(VF s).length=O s+2:=by simp[VF]
theorem Kq (s:Zj):(X0 s).length=O s+6:=by simp[X0,Qq,ZnY]
theorem Zxk (s:Zj)(D:O s<=1048576)(H:Hp):Ze Nw [.str s] H=K (if 4096<O s then .tuple [.str [],Q J 3] else .tuple [.str (X0 s),Q J 0],H):=by
 refine YG (a':=.str s) rfl (H1:=[]) ?_ (by split <;> rfl)
 rw[ZcT];unfold bV;by_cases h:4096<O s
 ·have j:decide ((4096:Int)<(O s:Int))=I:=by rw[decide_eq_true_eq];omega
  simp only[go_sem,j,if_pos h]
 ·have j:decide ((4096:Int)<(O s:Int))=Y:=by simp;omega
  have z:=Bk .i64 .u64 (O s:Int) 8;rw[show ((8:Nat):Int)=8 from rfl]at z;have C:∀ n,ZS .u8 (Q J n)=K (.int .u8 (IntKind.u8.wrap n)):=λn=>rfl;have y:∀ a b:Int,(ZB 1 [(0,.int .u8 a),(1,.int .u8 b)] [(.int .u8 0),(.int .u8 0)]).map (AV.vs 1 .clip)=K (.vs 1 .clip [.int .u8 a,.int .u8 b]):=λa b=>rfl;have w:∀ (a b:Int) (H:Hp),XM (.vs 1 .clip [.int .u8 a,.int .u8 b]) H=K (.str [zH a.toNat,zH b.toNat]):=λa b H=>rfl;have u:[zH (IntKind.u8.wrap (QN .i64 8 (O s:Int))).toNat,zH (IntKind.u8.wrap (O s:Int)).toNat]++s=VF s:=rfl;have A:Y1 .add (.str [zH (IntKind.u8.wrap (QN .i64 8 (O s:Int))).toNat,zH (IntKind.u8.wrap (O s:Int)).toNat]) (.str s)=K (.str (VF s)):=by rw[Vc (by simp;omega),u]
  have B:Y1 .add (.str (VF s)) (.str (Gh (VF s)))=K (.str (X0 s)):=by rw[Vc (by rw[Qq,ZnY];omega)];rfl
  simp only[go_sem,j,ZbK,z,C,y,w,A,Zgg (VF s) (by rw[Qq];omega),B,if_neg h]
def Ym:List Zj->Zj
 |[]=>[]
 |s::r=>X0 s++Ym r
theorem ZmR (a b:List Zj):Ym (a++b)=Ym a++Ym b:=by
 induction a with
 |nil=>rfl
 |cons s a h=>simp only[yG,Ym,h,yM]
def Yo:List Zj->Nat
 |[]=>0
 |s::r=>O s+6+Yo r
theorem Rk (l:List Zj):(Ym l).length=Yo l:=by
 induction l with
 |nil=>rfl
 |cons s r h=>simp only[Ym,Yo,zU,Kq,h]
theorem Zkn (a b:List Zj):Yo (a++b)=Yo a+Yo b:=by
 induction a with
 |nil=>simp[Yo]
 |cons s a h=>simp only[yG,Yo,h];omega
def Wq (l:List Zj):Bool:=l.all λs=>decide (O s<=4096)
theorem ZxM (j s:Zj)(h:O j+O s<=4194304):∃ v,textE.run [.ptr 0 0,.str s] [yS NK NL j]=K (v,[yS NK NL (j++s)]):=by
 have u:O j+O s<=Zg5:=by unfold Zg5;omega
 refine⟨.tuple [Q J (O s),.nili],?_⟩;simp only[textE,ZxZ,ZjI,HM,ZlZ,zA,ZfM,and_self,if_true,if_pos u,List.set_cons_zero]
theorem Zwq {x:AV}{l:List Zj}(Z:SS x l)(R:∀ s∈l,O s<=1048576)(hl:Yo l<=4194304)(N:Hp):∀ (r d:List Zj),l=d++r->Wq d=I ->
 ∃ H',Gx (.ptr 0 0) x (Q J (O l:Int)) (Q J (O d:Int)) N [yS NK NL (Ym d)]=K (if Wq l=I then .tuple [.str (Ym l),Q J 0] else .tuple [.str [],Q J 3],H'):=by
 intro r
 induction r with
 |nil =>
  intro d u C;rw[zX]at u;subst u;have w:decide ((O l:Int)<(O l:Int))=Y:=U
  have F:stringE.run [.ptr 0 0] [yS NK NL (Ym l)]=K (.str (Ym l),[yS NK NL (Ym l)]):=ZiK _;rw[Ld];simp only[go_sem,w,ZbH,F,if_pos C];exact⟨_,rfl⟩
 |cons s r L =>
  intro d u C
  have z:∀ l:List Zj,6*O l<=Yo l:=by
   intro l
   induction l with
   |nil=>simp[Yo]
   |cons s l L=>simp only[Yo,yN];omega
  have:=z l;have H:O l=O d+(O r+1):=by rw[u];simp
  have w:decide ((O d:Int)<(O l:Int))=I:=by simp;omega
  have G:xR.wrap ((O d:Int)+1)=((O d+1:Nat):Int):=by rw[Zl X X];omega
  have D:l[O d]?=K s:=by rw[u,zN (zJ _)];simp
  have y:=SS.idx Z D;have S:=R s (by rw[u];simp);have j:=Zxk s S [yS NK NL (Ym d)];rw[Ld];by_cases h:4096<O s
  ·have E:Wq l=Y:=by
    rw[u];simp only[Wq,List.all_append,xO];rw[show decide (O s<=4096)=Y by simp;omega];simp
   have P:((3:Int) != 0)=I:=rfl;rw[if_pos h]at j;simp only[go_sem,w,Lc,y,ZE,j,zA,zB,P,E,yB,if_false];exact⟨_,rfl⟩
  ·have e0:((0:Int) != 0)=Y:=rfl;rw[if_neg h]at j;have A:Yo l=Yo d+(O s+6+Yo r):=by rw[u,Zkn];rfl
   obtain⟨v,T⟩:=ZxM (Ym d) (X0 s) (by rw[Rk,Kq];omega);have B:Ym (d++[s])=Ym d++X0 s:=by rw[ZmR];simp[Ym]
   obtain⟨H',M⟩:=L (d++[s]) (by rw[u];simp) (by
    have:Wq (d++[s])=(Wq d&&(decide (O s<=4096)&&I)):=by simp[Wq]
    rw[this,C];simp;omega)
   rw[zU,zP,B]at M;refine⟨H',?_⟩;simp only[go_sem,w,Lc,y,ZE,j,zA,zB,e0,ZbJ,T,ZbI,G];exact M
theorem Zwp {x:AV}{l:List Zj}(u:SS x l)(h:∀ s∈l,O s<=1048576)(j:Yo l<=4194304)(H:Hp) :
 Ze Nv [x] H=K (if Wq l=I then .tuple [.str (Ym l),Q J 0] else .tuple [.str [],Q J 3],H):=by
 obtain⟨z,w,k2⟩:=SS.closed u [] 0 7;obtain⟨H',y⟩:=Zwq k2 h j [] l [] rfl rfl;refine YG w (H1:=H') ?_ (by split <;> rfl)
 rw[ZcS];unfold bU;simp only[go_sem,SS.len k2 9,xF,yR];exact y
def jS (a b:Int):Int:=xR.wrap ((BitVec.ofInt IntKind.i64.bits a ||| BitVec.ofInt IntKind.i64.bits b).toNat:Int)
def UO (a b:UInt8):Int:=jS (kG (xR.wrap (a.toNat:Int))) (xR.wrap (b.toNat:Int))
theorem ZuB:((xI 4097).all λn=>decide (UO (V2 (QN .i64 8 (n:Int))) (V2 (n:Int))=(n:Int)))=I:=dz
theorem Zxg {n:Nat}(h:n<=4096):UO (V2 (QN .i64 8 (n:Int))) (V2 (n:Int))=(n:Int):=by
 have:=zY.1 ZuB n (xL.2 X);simpa using this
theorem Zuf (s rest:Zj)(R:O s<=4096)(hr:O rest<=1048576)(H:Hp):Ze Te [.str (X0 s++rest),Q J 0] H=K (.tuple [.str s,Q J ((O s+6:Nat):Int),Q J 0],H):=by
 refine Xn (a':=.str (X0 s++rest)) (b':=Q J 0) rfl rfl (H1:=[]) ?_ rfl;have j:(X0 s++rest).length=O s+6+O rest:=by rw[zU,Kq]
 have h:X0 s++rest=V2 (QN .i64 8 (O s:Int))::V2 (O s:Int)::(s++(Gh (VF s)++rest)):=by simp[X0,VF]
 generalize E:X0 s++rest=g at j h;have G:decide ((0:Int)<0)=Y:=rfl;have L:decide ((O g:Int)<0)=Y:=by rw[decide_eq_false_iff_not];omega
 have A:ZR (.str g) (K (Q J 0)) V V=K (.str g):=by
  rw[P6 .i64 X X];simp
 have M:decide ((O g:Int)<2)=Y:=by rw[decide_eq_false_iff_not];omega
 have S:Zp (.str g) (Q J 0)=K (.int .u8 ((V2 (QN .i64 8 (O s:Int))).toNat:Int)):=ZG (i:=0) (by rw[h];rfl);have T:Zp (.str g) (Q J 1)=K (.int .u8 ((V2 (O s:Int)).toNat:Int)):=ZG (i:=1) (by rw[h];rfl);have F:∀ n,ZS .i64 (.int .u8 n)=K (Q J (xR.wrap n)):=λn=>rfl;have z:∀ a:Int,Z2 .shl (Q J a) (.int .u64 8)=K (Q J (kG a)):=λa=>rfl;have w:∀ a b:Int,Z2 .or (Q J a) (Q J b)=K (Q J (jS a b)):=λa b=>by simp[Z2,X6,X8,jS]
 have y:jS (kG (xR.wrap ((V2 (QN .i64 8 (O s:Int))).toNat:Int))) (xR.wrap ((V2 (O s:Int)).toNat:Int))=(O s:Int):=Zxg R;have N:decide ((4096:Int)<(O s:Int))=Y:=by simp;omega
 have w6:xR.wrap ((O s:Int)+6)=((O s+6:Nat):Int):=by rw[Zl X X];omega
 have w2:xR.wrap ((O s:Int)+2)=((O s+2:Nat):Int):=by rw[Zl X X];omega
 have Z:xR.wrap (0+(O s:Int))=(O s:Int):=by rw[Zl X X];omega
 have P:decide ((O g:Int)<((O s+6:Nat):Int))=Y:=by simp;omega
 have B:ZR (.str g) (K (Q J ((O s+2:Nat):Int))) (K (Q J ((O s+6:Nat):Int))) V=K (.str (Gh (VF s))):=by
  rw[VV .i64 .i64 X X X];congr 2;rw[<-E,zV,zV,yI (by rw[Kq];exact zJ _),zT (by rw[Kq];exact zJ _)];unfold X0;rw[List.drop_append_of_le_length (by rw[Qq];exact zJ _),List.drop_of_length_le (by rw[Qq];exact zJ _)];rfl
 have C:ZR (.str g) V (K (Q J ((O s+2:Nat):Int))) V=K (.str (VF s)):=by
  rw[BG .i64 X X];congr 2;rw[<-E,zV];unfold X0;rw[yM,yI (by rw[Qq];exact zJ _),zT (by rw[Qq];exact zJ _)]
 have D:ZR (.str g) (K (Q J 2)) (K (Q J ((O s+2:Nat):Int))) V=K (.str s):=by
  rw[VV .i64 .i64 X X X];congr 2;rw[h,zV];simp
 have u:(!(Gh (VF s)==Gh (VF s)))=Y:=U
 rw[Ir];unfold CD;simp only[go_sem,G,L,Ki,A,M,A6,S,T,F,z,w,y,N,A8,w6,P,A9,w2,B,C,Zgg (VF s) (by rw[Qq];omega),u,Aa,D,Z]
def Vp (c:Nat):Nat:=if c % 2=1 then (c / 2) ^^^ 3988292384 else c / 2
theorem ZxW (a b:Nat):(a ^^^ b) / 2=a / 2 ^^^ b / 2:=Nat.xor_div_two
theorem ZxX (a b:Nat):(a ^^^ b) % 2=(a % 2+b % 2) % 2:=by
 have h:=Nat.xor_mod_two_eq_one (a:=a) (b:=b);have:=zO (a ^^^ b);have:=zO a;have:=zO b;omega
theorem SJ (a b:Nat):Vp (a ^^^ b)=Vp a ^^^ Vp b:=by
 unfold Vp;rw[ZxW,ZxX];rcases zO a with h|h <;> rcases zO b with j|j <;> simp only[h,j]
 ·rfl
 ·show (a / 2 ^^^ b / 2) ^^^ 3988292384=a / 2 ^^^ (b / 2 ^^^ 3988292384);rw[yH]
 ·show (a / 2 ^^^ b / 2) ^^^ 3988292384=(a / 2 ^^^ 3988292384) ^^^ b / 2;rw[yH,yH,yZ 3988292384]
 ·show (a / 2 ^^^ b / 2)=(a / 2 ^^^ 3988292384) ^^^ (b / 2 ^^^ 3988292384);rw[yH,yZ (b / 2),<-yH 3988292384,Nat.xor_self,Nat.zero_xor]
theorem SI (z:Nat):Vp (2*z)=z:=by
 unfold Vp;rw[if_neg X];omega
theorem Zzj (c:Nat):c=(16*(c / 16)) ^^^ (c % 16):=by
 apply Nat.eq_of_testBit_eq;intro i;have:c=2 ^ 4*(c / 16)+c % 16:=X
 conv=>lhs;rw[this]
 rw[Nat.testBit_two_pow_mul_add _ X,Nat.testBit_xor,show 16*(c / 16)=2 ^ 4*(c / 16) by omega,Nat.testBit_two_pow_mul];by_cases h:i<4
 ·simp[h,Nat.not_le.2 h]
 ·have j:2 ^ 4<=2 ^ i:=Nat.pow_le_pow_right di (Nat.not_lt.1 h);have:(c % 16).testBit i=Y:=Nat.testBit_lt_two_pow (Nat.lt_of_lt_of_le (Nat.mod_lt c di) j);simp[h,Nat.not_lt.1 h,this]
def Kp:Nat->Nat:=λc=>Vp (Vp (Vp (Vp c)))
theorem ZyZ (c:Nat):Kp c=(c / 16) ^^^ Kp (c % 16):=by
 conv=>lhs;rw[Zzj c]
 unfold Kp;rw[SJ,SJ,SJ,SJ];congr 1;rw[show 16*(c / 16)=2*(2*(2*(2*(c / 16)))) by omega,SI,SI,SI,SI]
theorem L7 {c:Nat}(h:c<4294967296):Vp c<4294967296:=by
 unfold Vp;split
 ·exact yJ (n:=32) X X
 ·omega
theorem Zzp {c:Nat}(h:c<4294967296):4294967295 ^^^ c=4294967295-c:=by
 have j:=BitVec.toNat_not (x:=BitVec.ofNat 32 c);rw[<-BitVec.allOnes_xor]at j;rw[BitVec.toNat_xor,BitVec.toNat_ofNat,xE X]at j;exact j
theorem ZcK {c:Nat}(h:c<4294967296):Kp c<4294967296:=L7 (L7 (L7 (L7 h)))
theorem ZiV {n:Nat}(h:n<4294967296):IntKind.u32.wrap (n:Int)=(n:Int):=by
 have j:(2 ^ IntKind.u32.bits:Int)=4294967296:=di
 have u:IntKind.u32.signed=Y:=rfl;unfold IntKind.wrap;simp only[j,u,yD,yB,if_false];omega
theorem ZvU {n:Nat}(h:n<4294967296):(BitVec.ofInt IntKind.u32.bits (n:Int)).toNat=n:=by
 rw[BitVec.ofInt_natCast,BitVec.toNat_ofNat];exact xE h
theorem Zct {m n:Nat}(h:m<4294967296)(j:n<4294967296):KJ (m:Int) (n:Int)=((m ^^^ n:Nat):Int):=by
 unfold KJ;rw[BitVec.toNat_xor,ZvU h,ZvU j];exact ZiV (yJ (n:=32) h j)
theorem ZsB {m:Nat}(j:m<4294967296):SH (m:Int) 15=((m % 16:Nat):Int):=by
 unfold SH;have h:(BitVec.ofInt IntKind.u32.bits 15).toNat=15:=di
 rw[BitVec.toNat_and,ZvU j,h,show (15:Nat)=2 ^ 4-1 from rfl,Nat.and_two_pow_sub_one_eq_mod];exact ZiV X
theorem Ol (m k:Nat)(h:k<=32):QN .u32 k (m:Int)=((m / 2 ^ k:Nat):Int):=by
 unfold QN;have:min k IntKind.u32.bits=k:=xG h;rw[this,show (2:Int) ^ k=((2 ^ k:Nat):Int) by simp];exact Int.fdiv_eq_ediv_of_nonneg _ (Int.natCast_nonneg _)
theorem Zzl:((xI 16).all λr=>Zo0 (r:Int)==((Kp r:Nat):Int))=I:=dz
theorem Zkv {c:Nat}(h:c<4294967296):iS (c:Int)=((Kp c:Nat):Int):=by
 unfold iS;rw[ZsB h,Ol c 4 X];have j:=zY.1 Zzl (c % 16) (xL.2 (Nat.mod_lt _ X));rw[beq_iff_eq]at j;have u:Kp (c % 16)<4294967296:=ZcK X;rw[j,Zct u X,ZyZ c,yZ]
def Jy (s:Zj):Nat:=s.foldl (λc b=>Kp (Kp (c ^^^ b.toNat))) 4294967295
theorem Zwa (s:Zj)(b:UInt8):Jy (s++[b])=Kp (Kp (Jy s ^^^ b.toNat)):=by simp[Jy]
theorem ZpM {c:Nat}(h:c<4294967296)(b:UInt8):c ^^^ b.toNat<4294967296:=yJ (n:=32) h (by have:=b.toNat_lt;omega)
theorem Zwb:∀ (r:Zj) (c:Nat),c<4294967296->r.foldl ZiJ (c:Int)=((r.foldl (λc b=>Kp (Kp (c ^^^ b.toNat))) c:Nat):Int)/\r.foldl (λc b=>Kp (Kp (c ^^^ b.toNat))) c<4294967296:=by
 intro r
 induction r with
 |nil=>intro c h;exact⟨rfl,h⟩
 |cons b r w =>
  intro c h;have y:=b.toNat_lt;have j:=ZpM h b
  have u:ZiJ (c:Int) b=((Kp (Kp (c ^^^ b.toNat)):Nat):Int):=by
   unfold ZiJ;rw[ZiV X,Zct h X,Zkv j,Zkv (ZcK j)]
  rw[xH,xH,u];exact w _ (ZcK (ZcK j))
theorem hY (s:Zj):P9 s=((Jy s:Nat):Int)/\Jy s<4294967296:=Zwb s 4294967295 X
theorem ZfQ (s:Zj):Ri s=((4294967295-Jy s:Nat):Int):=by
 obtain⟨j,h⟩:=hY s;unfold Ri;have u:IntKind.u32.max=((4294967295:Nat):Int):=di
 rw[j,u,Zct X h,Zzp h]
def byN (n:Nat):UInt8:=zH (n % 256)
theorem BH (n:Nat):V2 (n:Int)=byN n:=by
 have h:(2 ^ IntKind.u8.bits:Int)=256:=di
 have j:IntKind.u8.signed=Y:=rfl;unfold V2 byN IntKind.wrap;simp only[h,j,yD,yB,if_false];congr 1
theorem ZxK (s:Zj):Gh s=[byN (4294967295-Jy s),byN ((4294967295-Jy s) / 256),byN ((4294967295-Jy s) / 256 / 256),byN ((4294967295-Jy s) / 256 / 256 / 256)]:=by
 unfold Gh;rw[ZfQ,Ol _ 8 X,Ol _ 16 X,Ol _ 24 X,BH,BH,BH,BH,yT,yT]
end Go.Am
