/- Lists of lists of strings -/
import Derived.Test.YtnaneekpogohaaaGreatDoorXeMzx
import Derived.Test.YtnaneekpogohaaaGreatDoorXeSax
import Derived.Test.YtnaneekpogohaaaGreatDoorXeGSx
import Derived.Test.YtnaneekpogohaaaGreatDoorXeEx
import Derived.Lib.ItoaLen
open Go.Am.AV renaming int->xO
open Go.IntKind renaming i64->J
open Go.IntKind renaming i64->xN
open List renaming getElem?_cons_zero->zA,getElem?_cons_succ->zB,getElem?_set_ne->zC,nodup_cons->zE,mem_cons->zF,map_cons->zG,mem_singleton->zH,getElem?_append_right->zI,flatMap_append->zK,mem_append->zM,map_append->zN,set->zO,length_singleton->zP,length_append->zQ,nodup_append->zS,append_nil->zT,flatMap_cons->zU,take_of_length_le->zV,cons_append->zY,length_map->yA,length_cons->yC,getElem?_append_left->yD,getElem?_eq_getElem->yF,all_eq_true->yH,mem_cons_of_mem->yI,mem_append_left->yJ,take_append_of_le_length->yK,mem_map->yL,getD_eq_getElem?_getD->yM,getElem?_eq_some_iff->yN,flatten_cons->yO,append_assoc->yP,flatten_nil->yQ,nil_append->yR,getElem?_eq_none->yU,map_nil->yX,isEmpty_cons->yZ,mem_flatMap->xC,length_nil->xD,tail_cons->xE,mapM_cons->xF,drop_one->xH,all_cons->xI,map_map->xK,range->xM
open Nat renaming zero_add->zD,le_refl->zL,mul_one->yT,le_trans->xJ,add_zero->xL
open Bool renaming and_eq_true->zX,false_eq_true->zZ,not_false->yB,not_true->yE,true_and->yG,false_and->yV
open Int renaming toNat_natCast->zW
open UInt8 renaming ofNat->zR,ofNat_toNat->yY
open Go.Am.AObj renaming cells->zJ,bld->yS
open Go.Am.AV renaming str->xB,int->xG
open List.Sublist renaming nodup->yW,refl->xA
namespace Go.Am
set_option linter.unusedSectionVars false
set_option maxRecDepth 100000
theorem SS.cell {e:AV}{l:List Zl}(h:SS e l):e.cells=[e]/\e.known=true:=by
 rcases h with ⟨rfl,_⟩|⟨t,rfl⟩ <;> exact⟨rfl,rfl⟩
structure EE (es:List AV)(ls:List (List Zl)):Prop where
 len:es.length=ls.length
 at':∀ (i:Nat) (l:List Zl),ls[i]?=some l->∃ e,es[i]?=some e/\SS e l
theorem EE.nil:EE [] []:=⟨rfl,fun i l h=>by simp at h⟩
theorem EE.app {w:List AV}{g:List (List Zl)}(h:EE w g){e:AV}{l:List Zl}(z:SS e l):EE (w++[e]) (g++[l]):=by
 refine⟨by simp[h.len],fun j m hm=>?_⟩;by_cases y:j<g.length
 ·rw[yD y]at hm;rw[yD (by rw[h.len];exact y)];exact h.at' j m hm
 ·have u:=(yN.1 hm).1;have:j=g.length:=by simp at u;omega
  subst this;rw[zI (zL _)]at hm;simp at hm;subst hm;exact⟨e,by rw[zI (by rw[h.len];exact zL _),h.len];simp,z⟩
def Rst (o:Nat)(H:Hp)(x:AV)(g:List (List Zl)):Prop :=
 g=[]/\(x=.nils\/x=.vs 1 .clip [])\/∃ e h,x=.ws false 1 o e g.length/\H[o]?=some (.row e h)/\EE h g
theorem Zoj {o e i:Nat}{H:Hp}{g:List AV}{a:AV}(h:H[o]?=some (.row e g))(j:g[i]?=some a):Z3 false 1 (.wp o e (i*1)) H=some a:=by
 simp[Z3,h,Go.Am.apart,j]
theorem Zoe {l:List AV}{i:Nat}{a:AV}(h:i<l.length):splice l (i*1) [a]=l.set i a:=by
 unfold splice;rw[yT,List.set_eq_take_append_cons_drop,if_pos h];simp
theorem ZvG {o e i:Nat}{H:Hp}{g:List AV}{a:AV}(h:H[o]?=some (.row e g))(j:a.cells=[a]/\a.known=true)(hi:i<g.length):Zb 1 (.wp o e (i*1)) a H=some (.tuple [],H.set o (.row e (g.set i a))):=by
 unfold Zb YU;simp only[h];rw[if_pos ⟨trivial,j.2,by rw[j.1];rfl,by omega⟩,j.1,Zoe hi]
theorem Zmz {o e n i:Nat}(h:i<n):Zo 1 (.ws false 1 o e n) (xO J (i:Int))=some (.wp o e (i*1)):=by
 unfold Zo;dsimp only;rw[if_pos (by omega)];rfl
theorem ZeL:∀ l:List AV,Uf false 1 l.length l=l:=by
 intro l
 induction l with
 |nil=>rfl
 |cons a l g=>simp only[yC,Uf];rw[xH,xE,g];rfl
def LL (H:Hp)(x:AV)(h:List (List Zl)):Prop :=
 h=[]/\(x=.nils\/x=.vs 1 .clip [])\/(∃ t g,x=.vs 1 t g/\EE g h)\/∃ o e g,x=.ws false 1 o e h.length/\H[o]?=some (.row e g)/\EE g h
theorem Rst.ll {o:Nat}{H:Hp}{x:AV}{g:List (List Zl)}(h:Rst o H x g):LL H x g:=by
 rcases h with h|⟨e,j,u,y,w⟩
 ·exact .inl h
 ·exact .inr (.inr ⟨o,e,j,u,y,w⟩)
theorem LL.len {H:Hp}{x:AV}{u:List (List Zl)}(h:LL H x u)(e:Nat):Zk (.slice e) x=some (xO J (u.length:Int)):=by
 rcases h with ⟨rfl,rfl|rfl⟩|⟨t,g,rfl,j⟩|⟨o,e,g,rfl,w,j⟩
 ·rfl
 ·rfl
 ·show some (xG .i64 (g.length:Int))=_;rw[j.len]
 ·rfl
theorem LL.get {H:Hp}{x:AV}{w:List (List Zl)}(h:LL H x w){i:Nat}{l:List Zl}(hi:w[i]?=some l):∃ p a,Zo 1 x (xO J (i:Int))=some p/\Z3 false 1 p H=some a/\SS a l:=by
 rcases h with ⟨rfl,_⟩|⟨t,y,rfl,u⟩|⟨o,e,y,rfl,z,u⟩
 ·simp at hi
 ·obtain⟨a,j,g⟩:=u.at' i l hi;refine⟨.vp a.cells,a,?_,?_,g⟩
  ·unfold Zo;dsimp only;rw[if_pos ⟨rfl,by omega⟩,zW,j]
  ·rw[g.cell.1];rfl
 ·obtain⟨a,j,g⟩:=u.at' i l hi;exact⟨_,a,Zmz (yN.1 hi).1,Zoj z j,g⟩
theorem Rst.app {o:Nat}{H:Hp}{x:AV}{A:List (List Zl)}(h:Rst o H x A){a:AV}{m:List Zl}(j:SS a m)(L:A.length<=1048576) :
 ∃ K D H',Gj false 1 24 x (.vs 1 .clip [a]) H=some (D,H')/\Rst K H' D (A++[m])/\H.length<=H'.length/\(∀ i y,H[i]?=some y->i≠o->H'[i]?=some y):=by
 unfold Gj;have E:Go.Am.elems 1 (.vs 1 .clip [a]) H=some [a]:=rfl;rw[E];dsimp only;have u:X9 1 24=true:=rfl;have w:X9 (A.length+1) 24=true:=by simp[X9];omega
 rcases h with ⟨rfl,rfl|rfl⟩|⟨e,B,rfl,C,g⟩
 ·refine⟨H.length,.ws false 1 H.length 0 1,H++[.row 0 [a]],?_,.inr ⟨0,[a],rfl,by simp,EE.nil.app j⟩,by simp,fun i y z _=>Y5 z _⟩;unfold DZ;simp only[zP,u,if_true,zG,yX,yO,yQ,j.cell.1,zT];rw[if_neg (by simp)]
 ·refine⟨H.length,.ws false 1 H.length 0 1,H++[.row 0 [a]],?_,.inr ⟨0,[a],rfl,by simp,EE.nil.app j⟩,by simp,fun i y z _=>Y5 z _⟩;unfold DZ;simp only[xD,yR,zD,zP,u,and_self,if_true,zG,yX,yO,yQ,j.cell.1,zT];rw[if_neg (by simp)]
 ·refine⟨o,.ws false 1 o (e+1) (A.length+1),H.set o (.row (e+1) (B++[a])),?_,.inr ⟨e+1,B++[a],by simp,Zs _ C,g.app j⟩,by simp,fun i y z F=>Yi _ (fun e=>F e.symm) z⟩;unfold DZ;simp only[zP,w,and_self,if_true,C,g.len,yT,zL,Zit,zV (Nat.le_of_eq g.len),zG,yX,yO,yQ,j.cell.1,zT];rw[if_neg (by simp)]
theorem EE.tail {e:AV}{j:List AV}{l:List Zl}{u:List (List Zl)}(h:EE (e::j) (l::u)):SS e l/\EE j u:=by
 obtain⟨g,w,y⟩:=h.at' 0 l rfl;obtain rfl:e=g:=Option.some.inj w
 exact⟨y,by have:=h.len;simpa using this,fun i m hm=>by
  obtain⟨g,z,A⟩:=h.at' (i+1) m (by simpa using hm);exact⟨g,by simpa using z,A⟩⟩
theorem EE.cons {e:AV}{g:List AV}{l:List Zl}{j:List (List Zl)}(h:SS e l)(k:EE g j):EE (e::g) (l::j) :=
 ⟨by simp[k.len],fun i m hm=>by
  cases i with
  |zero=>simp at hm;subst hm;exact⟨e,rfl,h⟩
  |succ i=>simpa using k.at' i m (by simpa using hm)⟩
theorem EE.close {u:List AV}{j:List (List Zl)}(h:EE u j)(H:Hp)(n f:Nat):∃ g,u.mapM (Zd H n (f+2))=some g/\EE g j:=by
 induction u generalizing j with
 |nil =>
  have:j=[]:=List.length_eq_zero_iff.1 (by rw[<-h.len];rfl);subst this;exact⟨[],rfl,EE.nil⟩
 |cons e u A =>
  cases j with
  |nil=>have:=h.len;simp at this
  |cons l j =>
   obtain⟨y,z⟩:=h.tail;obtain⟨w,B,C⟩:=SS.closed y H n f;obtain⟨g,D,E⟩:=A z;exact⟨w::g,by rw[xF,B];simp[D],EE.cons C E⟩
theorem MZ (H:Hp)(n f k:Nat)(t:Tok)(l:List AV):Zd H n (f+1) (.vs k t l)=match l.mapM (Zd H n f) with
 |some l=>some (.vs k (match t with|.own t e=>if t<n then .own t e else .no|tok=>tok) l)
 |none=>none:=rfl
theorem ZgO (H:Hp)(n f:Nat)(ag:Bool)(k o e len:Nat):Zd H n (f+1) (.ws ag k o e len)=if o<n then some (.ws ag k o e len) else
 match elems k (.ws ag k o e len) H with
 |some l=>match l.mapM (Zd H n f) with
  |some l=>some (.vs k .no l)
  |none=>none
 |none=>none:=rfl
def LsV (x:AV)(h:List (List Zl)):Prop:=x=.nils/\h=[]\/∃ t g,x=.vs 1 t g/\EE g h
theorem LsV.ll {x:AV}{g:List (List Zl)}(h:LsV x g)(H:Hp):LL H x g:=by
 rcases h with ⟨j,u⟩|h
 ·exact .inl ⟨u,.inl j⟩
 ·exact .inr (.inl h)
theorem LsV.len {x:AV}{g:List (List Zl)}(h:LsV x g)(e:Nat):Zk (.slice e) x=some (xO J (g.length:Int)):=(h.ll []).len e
theorem LsV.get {x:AV}{g:List (List Zl)}(h:LsV x g){i:Nat}{l:List Zl}(hi:g[i]?=some l)(H:Hp):∃ p a,Zo 1 x (xO J (i:Int))=some p/\Z3 false 1 p H=some a/\SS a l:=(h.ll H).get hi
theorem LL.close0 {H:Hp}{x:AV}{w:List (List Zl)}(h:LL H x w):∃ B,Zd H 0 9 x=some B/\LsV B w:=by
 rcases h with ⟨rfl,rfl|rfl⟩|⟨t,A,rfl,j⟩|⟨o,e,A,rfl,C,j⟩
 ·exact⟨.nils,rfl,.inl ⟨rfl,rfl⟩⟩
 ·exact⟨.vs 1 .clip [],rfl,.inr ⟨_,[],rfl,EE.nil⟩⟩
 ·obtain⟨g,y,z⟩:=j.close H 0 6;exact⟨_,by rw[MZ,y],.inr ⟨_,g,rfl,z⟩⟩
 ·obtain⟨g,y,z⟩:=j.close H 0 6
  have u:Go.Am.elems 1 (.ws false 1 o e w.length) H=some A:=by
   unfold Go.Am.elems;dsimp only;rw[if_pos ⟨rfl,.inr rfl⟩,C];dsimp only;rw[if_pos ⟨rfl,by rw[j.len];omega⟩,<-j.len,ZeL]
  exact⟨.vs 1 .no g,by rw[ZgO,if_neg (Nat.not_lt_zero _),u];dsimp only;rw[y],.inr ⟨_,g,rfl,z⟩⟩
theorem SS.cut {x:AV}{l:List Zl}(h:SS x l){i j:Nat}(u:i<=j)(B:j<=l.length):∃ y,Yx 1 x (some (xO J (i:Int))) (some (xO J (j:Int))) (some (xO J (j:Int)))=some y/\SS y ((l.take j).drop i):=by
 have A:∀ n,j<=n->YM n n (some (xO J (i:Int))) (some (xO J (j:Int))) (some (xO J (j:Int)))=some (i,j,j):=fun n D=>by
  delta YM
  simp[Xb,D,u]
 rcases h with ⟨rfl,C⟩|⟨t,rfl⟩
 ·have z:l=[]:=by simpa using C
  subst z;have w:j=0:=by simpa using B
  have g:i=0:=by omega
  subst w g;refine⟨.nils,?_,.inl ⟨rfl,rfl⟩⟩;simp only[Yx];rw[A 0 (zL _)]
 ·refine⟨.vs 1 .clip (((l.map xB).take j).drop i),?_,.inr ⟨.clip,by rw[<-List.map_take,<-List.map_drop]⟩⟩;simp only[Yx,if_true,yA];rw[A _ B];simp
def WI (m:Nat)(s:Sto):List AV:=[xO J (s.limit:Int),xO J (Zv s.files:Int),xO J (s.peak:Int),.map m,.bool s.crashed,xO J (s.count:Int)]
theorem StAt.cell {H H':Hp}{o m g:Nat}{u:List FD}{s s':Sto}(h:StAt H o m g u s)(w:Stp [o] H H')(z:H'[o]?=some (.cells (WI m s')))(A:s'.files=s.files):StAt H' o m g u s' where
 files:=by rw[A];exact h.files
 cells:=z
 map:=w.get h.map (by simpa using h.om.symm)
 file:=fun d j=>(h.file d j).frame fun a y=>w.at' a ((h.file d j).lt a y) (by simpa using (h.own_lt j y).1)
 nd:=h.nd
 born:=h.born
theorem ld {H:Hp}{o:Nat}{l:List AV}(h:H[o]?=some (.cells l))(i:Nat){v:AV}(g:l[i]?=some v):Z3 false 1 (.ptr o (0+i)) H=some v:=by
 rw[YA h,zD];exact g
theorem st {H:Hp}{o:Nat}{l:List AV}(h:H[o]?=some (.cells l))(i:Nat){v:AV}(g:v.cells=[v])(hk:v.known=true)(hi:i<l.length):Zb 1 (.ptr o (0+i)) v H=some (.tuple [],H.set o (.cells (l.set i v))):=by
 rw[zD,WG h hk (by rw[g];rfl) (by omega),g];congr 4;have:=Zoe (l:=l) (i:=i) (a:=v) hi
 rwa [yT]at this
theorem Zj2 {H:Hp}{o m B:Nat}{N:List FD}{s:Sto}(h:StAt H o m B N s)(hk:s.count<=9223372036854775807) :
 ∃ H',Ur [.ptr o 0] H=some (.bool s.tick.crashed,H')/\StAt H' o m B N s.tick/\Stp [o] H H':=by
 have z:H[o]?=some (.cells (WI m s)):=h.cells;have A:=ld z 4 (v:=.bool s.crashed) rfl;have L:=ld z 5 (v:=xO J (s.count:Int)) rfl;rw[Hk];unfold Te
 cases g:s.crashed with
 |true =>
  have w:s.tick=s:=by unfold Sto.tick;rw[if_pos g]
  rw[w,g];rw[g]at A;exact⟨H,by simp only[go_sem,A,WQ],h,Stp.refl _ _⟩
 |false =>
  rw[g]at A;by_cases F:s.count=1
  ·have w:s.tick={ s with crashed:=true,count:=0 }:=by unfold Sto.tick;rw[if_neg (by simp[g]),if_pos F]
   have D:((s.count:Int)==1)=true:=by rw[F];rfl
   have Q:=st z 4 (v:=.bool true) rfl rfl (by simp[WI]);have C:=Zs (zJ (zO (WI m s) 4 (.bool true))) z;have M:=st C 5 (v:=xO J 0) rfl rfl (by simp[WI]);have j:=Zs (zJ (zO (zO (WI m s) 4 (.bool true)) 5 (xG .i64 0))) C;have u:=ld j 4 (v:=.bool true) rfl;refine⟨(H.set o (.cells ((WI m s).set 4 (.bool true)))).set o (.cells (((WI m s).set 4 (.bool true)).set 5 (xO J 0))),by simp only[go_sem,A,L,D,Q,M,WQ,u,w],?_,?_⟩
   ·rw[w];refine h.cell ?_ ?_ rfl
    ·exact (Stp.set H _ (by simp)).trans (Stp.set _ _ (zH.2 rfl)) (fun a y=>y) (fun a y=>.inl y)
    ·exact j
   ·exact (Stp.set H _ (by simp)).trans (Stp.set _ _ (zH.2 rfl)) (fun a y=>y) (fun a y=>.inl y)
  ·have D:((s.count:Int)==1)=false:=by rw[beq_eq_false_iff_ne];omega
   have w:s.tick={ s with count:=s.count-1 }:=by unfold Sto.tick;rw[if_neg (by simp[g]),if_neg F]
   by_cases R:1<s.count
   ·have E:decide ((1:Int)<(s.count:Int))=true:=by rw[decide_eq_true_eq];omega
    have hw:xN.wrap ((s.count:Int)-1)=((s.count-1:Nat):Int):=by rw[Zr (by omega) (by omega)];omega
    have M:=st z 5 (v:=xO J ((s.count-1:Nat):Int)) rfl rfl (by simp[WI]);have j:=Zs (zJ (zO (WI m s) 5 (xG .i64 ((s.count-1:Nat):Int)))) z;have u:=ld j 4 (v:=.bool s.crashed) rfl;rw[g]at u;refine⟨H.set o (.cells ((WI m s).set 5 (xO J ((s.count-1:Nat):Int)))),by simp only[go_sem,A,L,D,E,hw,M,WQ,u,w,g],?_,Stp.set _ _ (by simp)⟩;rw[w];exact h.cell (Stp.set _ _ (by simp)) j rfl
   ·have E:decide ((1:Int)<(s.count:Int))=false:=by simp;omega
    have O:s.count=0:=by omega
    have K:s.tick=s:=by rw[w];cases s;simp only at O;subst O;rfl
    rw[K,g];exact⟨H,by simp only[go_sem,A,L,D,E,WQ],h,Stp.refl _ _⟩
theorem Xr (s:Sto):s.tick.files=s.files:=by unfold Sto.tick;split;rfl;split <;> rfl
theorem T8 (s:Sto):s.tick.limit=s.limit:=by unfold Sto.tick;split;rfl;split <;> rfl
theorem ZjN (s:Sto):s.tick.peak=s.peak:=by unfold Sto.tick;split;rfl;split <;> rfl
theorem OD {H:Hp}{o m j:Nat}{A:List FD}{s:Sto}(h:StAt H o m j A s)(hk:s.count<=9223372036854775807)(n:Zm) :
 ∃ (p:AV) (e:Int) (H':Hp),W9 [.ptr o 0,.str n] H=some (.tuple [p,xO J e],H')/\StAt H' o m j A s.tick/\Stp [o] H H' /\
  (s.tick.crashed=true/\e=19\/s.tick.crashed=false/\ZQ s.files n=none/\e=5 \/
   s.tick.crashed=false/\e=0/\∃ a d b,A=a++d::b/\d.fil.name=n/\(∀ g∈a,g.fil.name≠n)/\ZQ s.files n=some d.fil/\p=.ptr d.f 0):=by
 obtain⟨H1,y,z,D⟩:=Zj2 h hk;rw[Av];unfold N1
 cases u:s.tick.crashed with
 |true =>
  rw[u]at y;exact⟨.nilp,19,H1,by simp only[go_sem,Qw,y],z,D,.inl ⟨rfl,rfl⟩⟩
 |false =>
  rw[u]at y;have E:=ld z.cells 3 (v:=.map m) rfl;have w:=z.look n;rw[Xr]at w;rcases w with ⟨B,C⟩|⟨a,d,b,B,C,F,K,L⟩
  ·exact⟨.nilp,5,H1,by simp only[go_sem,Qw,y,DK,E,C],z,D,.inr (.inl ⟨rfl,B,rfl⟩)⟩
  ·exact⟨.ptr d.f 0,0,H1,by simp only[go_sem,Qw,y,DK,E,L,HZ],z,D,.inr (.inr ⟨rfl,rfl,a,d,b,B,C,F,K,rfl⟩)⟩
structure StoRes (H H':Hp)(o:Nat)(s':Sto)(A A':List Nat):Prop where
 at':StoreAt H' o s' A'
 stp:Stp A H H'
 own:∀ a∈A',a∈A\/H.length<=a
theorem StAt.res {H H':Hp}{o m g:Nat}{j:List FD}{s':Sto}(h:StAt H' o m g j s')(w:Stp [o] H H'):StoRes H H' o s' (o::m::j.flatMap FD.own) (o::m::j.flatMap FD.own) :=
 ⟨⟨m,g,j,h,rfl⟩,w.mono (fun a u=>by rw[zH.1 u];simp),fun a u=>.inl u⟩
theorem ZlX (d:FD):d.f∈d.own:=by simp[FD.own]
theorem Ztn {H:Hp}{o:Nat}{s:Sto}{A:List Nat}(h:StoreAt H o s A)(hk:s.count<=9223372036854775807)(n:Zm) :
 ∃ H' A',Gd [.ptr o 0,.str n] H=some (xO J (s.sync n).1,H')/\StoRes H H' o (s.sync n).2 A A':=by
 obtain⟨m,B,Y,h,rfl⟩:=h;obtain⟨p,e,H1,M,j,N,W⟩:=OD h hk n;rw[At];unfold PZ Sto.sync;rcases W with ⟨u,rfl⟩|⟨u,T,rfl⟩|⟨u,rfl,a,d,b,rfl,O,Q,U,rfl⟩
 ·have w:((19:Int)==0)=false:=rfl;rw[if_pos u];exact⟨H1,_,by simp only[M,go_sem,zA,zB,w,Qv],j.res N⟩
 ·have w:((5:Int)==0)=false:=rfl;rw[if_neg (by simp[u]),T];exact⟨H1,_,by simp only[M,go_sem,zA,zB,w,Qv],j.res N⟩
 ·have w:((0:Int)==0)=true:=rfl;rw[if_neg (by simp[u]),U];have y:=j.file d (by simp);have V:=ld y.cells 0 (v:=d.tx) rfl;have z:=y.text.len 5;have X:=st y.cells 1 (v:=xO J (d.fil.text.length:Int)) rfl rfl (by simp);refine⟨H1.set d.f (.cells (zO [d.tx,xO J (d.fil.syn:Int)] 1 (xO J (d.fil.text.length:Int)))),o::m::(a++{ d with fil:={ d.fil with syn:=d.fil.text.length } }::b).flatMap FD.own,by simp only[M,go_sem,zA,zB,w,V,z,X,Qv],?_⟩;have D:d.f≠o:=(j.own_lt (d:=d) (by simp) (ZlX d)).1;have E:d.f≠m:=(j.own_lt (d:=d) (by simp) (ZlX d)).2;have R:Stp (o::d.own) H1 (H1.set d.f (.cells (zO [d.tx,xO J (d.fil.syn:Int)] 1 (xO J (d.fil.text.length:Int))))):=Stp.set _ _ (by simp[FD.own])
  have K:∀ t∈ZI d.tx,t≠d.f:=fun t F=>by
   have:=j.nd;rw[zE,zE,zK,zU,zS,zS]at this;obtain⟨_,_,_,⟨S,_⟩,_⟩:=this;rw[FD.own,zE]at S;exact fun e=>S.1 (e ▸ F)
  have L:Zv (Jb s.files n fun f=>{ f with syn:=f.text.length })=Zv s.files:=by
   rw[<-h.files,OZ a d b n _ O Q];simp[XJ,Zv]
  have C:=j.upd (d':={ d with fil:={ d.fil with syn:=d.fil.text.length } }) (s':={ s.tick with files:=Jb s.files n fun f=>{ f with syn:=f.text.length } }) (H':=H1.set d.f (.cells (zO [d.tx,xO J (d.fil.syn:Int)] 1 (xO J (d.fil.text.length:Int)))))
   (by
    rw[zC D,j.cells];simp only[L,Xr])
   (zC E) rfl (by show Jb s.files n _=_;rw[<-h.files,OZ a d b n _ O Q])
   ⟨Zs _ y.cells,y.text.frame fun t F=>zC (fun e=>K t F e.symm)⟩ R
   (by
    have:=j.nd;rw[zE,zE,zK,zU,zS,zS]at this;exact this.2.2.2.1.1)
   (fun x g=>.inl g)
  refine⟨⟨m,B,_,C,rfl⟩,?_,fun x g=>.inl ?_⟩
  ·refine N.trans R (fun x g=>by rw[zH.1 g];simp) fun x g=>.inl ?_;rcases zF.1 g with e|g
   ·subst e;simp
   ·simp[g]
  ·simpa[FD.own]using g
theorem StAt.fileRes {H H1 H':Hp}{o m j:Nat}{a b:List FD}{d d':FD}{s s':Sto}(h:StAt H o m j (a++d::b) s)(y:Stp [o] H H1)(w:StAt H' o m j (a++d'::b) s')(z:Stp (o::d.own) H1 H')
 (u:∀ x∈d'.own,x∈d.own\/H1.length<=x):StoRes H H' o s' (o::m::(a++d::b).flatMap FD.own) (o::m::(a++d'::b).flatMap FD.own):=by
 refine⟨⟨m,j,_,w,rfl⟩,y.trans z (fun x g=>by rw[zH.1 g];simp) fun x g=>.inl ?_,fun x g=>?_⟩
 ·rcases zF.1 g with e|g
  ·subst e;simp
  ·simp[g]
 ·rcases zF.1 g with e|g
  ·subst e;exact .inl (by simp)
  rcases zF.1 g with e|g
  ·subst e;exact .inl (by simp)
  rw[zK,zU]at g;rcases zM.1 g with g|g
  ·exact .inl (by simp only[zK,zF,zM];exact .inr (.inr (.inl g)))
  rcases zM.1 g with g|g
  ·rcases u x g with k|k
   ·exact .inl (by simp only[zK,zU,zF,zM];exact .inr (.inr (.inr (.inl k))))
   ·exact .inr (xJ y.len k)
  ·exact .inl (by simp only[zK,zU,zF,zM];exact .inr (.inr (.inr (.inr g))))
theorem StAt.mid {H:Hp}{o m g:Nat}{a b:List FD}{d:FD}{s:Sto}(h:StAt H o m g (a++d::b) s):d.own.Nodup/\FileAt H d/\(∀ x∈d.own,x≠o/\x≠m)/\∀ t∈ZI d.tx,t≠d.f:=by
 have:=h.nd;rw[zE,zE,zK,zU,zS,zS]at this;obtain⟨_,_,_,⟨j,_⟩,_⟩:=this;refine⟨j,h.file d (by simp),fun x w=>h.own_lt (d:=d) (by simp) w,fun t u=>?_⟩;rw[FD.own,zE]at j;exact fun e=>j.1 (e ▸ u)
theorem CW (a:List Fil)(f:Fil)(b:List Fil):Zv (a++f::b)=Zv a+(f.text.length+Zv b):=by rw[XJ];rfl
theorem Zok {H:Hp}{o:Nat}{s:Sto}{A:List Nat}(h:StoreAt H o s A)(hk:StoOk s)(n t:Zm)(ht:t.length<=1048576) :
 ∃ H' A',Jm [.ptr o 0,.str n,.str t] H=some (xO J (s.append n t).1,H')/\StoRes H H' o (s.append n t).2 A A':=by
 obtain⟨m,ai,ds,h,rfl⟩:=h;obtain⟨p,e,H1,q1,M,q3,q4⟩:=OD h hk.count n;rw[Sf];unfold R1 Sto.append;rcases q4 with ⟨Q,rfl⟩|⟨Q,c2,rfl⟩|⟨Q,rfl,a,d,b,rfl,c3,c4,c5,rfl⟩
 ·have N:((19:Int) != 0)=true:=rfl;rw[if_pos Q];exact⟨H1,_,by simp only[q1,go_sem,zA,zB,N],M.res q3⟩
 ·have N:((5:Int) != 0)=true:=rfl;rw[if_neg (by simp[Q]),c2];exact⟨H1,_,by simp only[q1,go_sem,zA,zB,N],M.res q3⟩
 ·have N:((0:Int) != 0)=false:=rfl;rw[if_neg (by simp[Q]),c5];have ag:=hk.used;have ah:=hk.limit;have aj:=hk.peak;have X:H1[o]?=some (.cells (WI m s.tick)):=M.cells;have l0:=ld X 0 (v:=xO J (s.limit:Int)) (by rw[<-T8 s];rfl);have l1:=ld X 1 (v:=xO J (Zv s.files:Int)) (by rw[<-Xr s];rfl);have hw:xN.wrap ((Zv s.files:Int)+(t.length:Int))=((Zv s.files+t.length:Nat):Int):=by rw[Zr (by omega) (by omega)];omega
  by_cases hf:s.limit<Zv s.files+t.length
  ·have e2:decide ((s.limit:Int)<((Zv s.files+t.length:Nat):Int))=true:=by rw[decide_eq_true_eq];omega
   simp only[if_pos hf];exact⟨H1,_,by simp only[q1,go_sem,zA,zB,N,Gz,l0,l1,hw,e2],M.res q3⟩
  ·have e2:decide ((s.limit:Int)<((Zv s.files+t.length:Nat):Int))=false:=by simp;omega
   simp only[if_neg hf];obtain⟨k1,Y,Z,k4⟩:=M.mid;have ab:=h.files
   have K:Zv s.files=Zv (a.map FD.fil)+(d.fil.text.length+Zv (b.map FD.fil)):=by
    rw[<-ab,zN,zG,CW]
   have m0:=ld Y.cells 0 (v:=d.tx) rfl;obtain⟨j,T,p1,p2,p3,p4,p5⟩:=Y.text.app t (by omega);have g1:T[d.f]?=some (.cells [d.tx,xO J (d.fil.syn:Int)]):=p3.get Y.cells fun L=>k4 _ L rfl
   have S:j.cells=[j]/\j.known=true:=by
    rcases p2 with ⟨rfl,_⟩|⟨t',e',rfl,_⟩|rfl <;> exact⟨rfl,rfl⟩
   have s1:=st g1 0 (v:=j) S.1 S.2 (by simp);have u:=Z d.f (by simp[FD.own]);have ae:o∉ZI d.tx:=fun L=>(Z o (by simp[FD.own,L])).1 rfl;have ac:m∉ZI d.tx:=fun L=>(Z m (by simp[FD.own,L])).2 rfl;have g2:T[o]?=some (.cells (WI m s.tick)):=p3.get X ae;have V:=Yi (.cells (zO [d.tx,xO J (d.fil.syn:Int)] 0 j)) u.1 g2;have n1:=ld V 1 (v:=xO J (Zv s.files:Int)) (by rw[<-Xr s];rfl);have s2:=st V 1 (v:=xO J ((Zv s.files+t.length:Nat):Int)) rfl rfl (by simp[WI]);have O:=Zs (zJ (zO (WI m s.tick) 1 (xO J ((Zv s.files+t.length:Nat):Int)))) V;have n2:=ld O 2 (v:=xO J (s.peak:Int)) (by rw[<-ZjN s];rfl);have n3:=ld O 1 (v:=xO J ((Zv s.files+t.length:Nat):Int)) rfl;have ad:max (s.peak:Int) ((Zv s.files+t.length:Nat):Int)=((max s.peak (Zv s.files+t.length):Nat):Int):=by omega
   have s3:=st O 2 (v:=xO J ((max s.peak (Zv s.files+t.length):Nat):Int)) rfl rfl (by simp[WI]);have W:=Zs (zJ (zO (zO (WI m s.tick) 1 (xO J ((Zv s.files+t.length:Nat):Int))) 2 (xO J ((max s.peak (Zv s.files+t.length):Nat):Int)))) O;generalize D:T.set d.f (.cells (zO [d.tx,xO J (d.fil.syn:Int)] 0 j))=H3 at s1 V n1 s2 O n2 n3 s3 W;generalize E:H3.set o (.cells (zO (WI m s.tick) 1 (xO J ((Zv s.files+t.length:Nat):Int))))=H4 at s2 O n2 n3 s3 W;generalize F:H4.set o (.cells (zO (zO (WI m s.tick) 1 (xO J ((Zv s.files+t.length:Nat):Int))) 2 (xO J ((max s.peak (Zv s.files+t.length):Nat):Int))))=U at s3 W
   have hS:Stp (o::d.own) H1 U:=by
    refine (p3.mono (B:=o::d.own) fun x L=>by simp[FD.own,L]).trans (B:=o::d.own) (C:=o::d.own) ?_ (fun _ h=>h) fun _ h=>.inl h;rw[<-F,<-E,<-D];exact ((Stp.set _ _ (by simp[FD.own])).trans (Stp.set _ _ (by simp)) (fun _ h=>h) fun _ h=>.inl h).trans (Stp.set _ _ (by simp)) (fun _ h=>h) fun _ h=>.inl h
   have w:∀ y,y≠o->y≠d.f->U[y]?=T[y]?:=fun y h1 h2=>by
    rw[<-F,zC (fun e=>h1 e.symm),<-E,zC (fun e=>h1 e.symm),<-D,zC (fun e=>h2 e.symm)]
   have z:∀ y∈FD.own { d with fil:={ d.fil with text:=d.fil.text++t },tx:=j },y∈d.own\/H1.length<=y:=fun y g=>by
    rcases zF.1 g with e|g
    ·subst e;exact .inl (by simp[FD.own])
    ·rcases p4 y g with k|k
     ·exact .inl (by simp[FD.own,k])
     ·exact .inr (by omega)
   have R:∀ y∈d.own,y<H1.length:=Y.lt
   have hT:∀ y∈ZI j,y≠o/\y≠d.f:=fun y g=>by
    rcases p4 y g with k|k
    ·exact⟨(Z y (by simp[FD.own,k])).1,k4 y k⟩
    ·have:=Zh X;have:=R d.f (by simp[FD.own]);omega
   have af:Zv (Jb s.files n fun f=>{ f with text:=f.text++t })=Zv s.files+t.length:=by
    rw[K,<-h.files,OZ a d b n _ c3 c4,CW,zQ];omega
   have aa:=M.upd (H':=U) (d':={ d with fil:={ d.fil with text:=d.fil.text++t },tx:=j }) (s':={ s.tick with files:=Jb s.files n fun f=>{ f with text:=f.text++t },peak:=max s.peak (Zv s.files+t.length) })
    (by rw[W];simp only[af];rfl)
    (by rw[w m (fun e=>h.om e.symm) (fun e=>u.2 e.symm)];exact p3.at' m (Zh M.map) ac)
    rfl (by show Jb s.files n _=_;rw[<-h.files,OZ a d b n _ c3 c4])
    ⟨by
     rw[<-F,zC (fun e=>u.1 e.symm),<-E,zC (fun e=>u.1 e.symm),<-D];exact Zs _ g1,p2.frame fun y g=>w y (hT y g).1 (hT y g).2⟩ hS
    (by
     rw[FD.own,zE];refine⟨fun g=>(hT _ g).2 rfl,?_⟩;show (ZI j).Nodup;rcases p2 with ⟨rfl,_⟩|⟨t',e',rfl,_⟩|rfl <;> simp[ZI])
    z
   refine⟨U,_,?_,h.fileRes q3 aa hS z⟩;simp only[q1,go_sem,zA,zB,N,Gz,l0,l1,hw,e2,ET,m0,p1,s1,n1,s2,n2,n3,ad,s3]
theorem Zkx {H:Hp}{o:Nat}{s:Sto}{A:List Nat}(h:StoreAt H o s A)(hk:StoOk s)(n:Zm)(i k:Int)(hi:-9223372036854775808<=i/\i<=9223372036854775807) :
 ∃ H',Gc [.ptr o 0,.str n,xO J i,xO J k] H=some (.tuple [.str (s.read n i k).1,xO J (s.read n i k).2],H')/\StoRes H H' o s.tick A A:=by
 obtain⟨m,aa,ds,h,rfl⟩:=h;obtain⟨p,e,H1,T,D,U,q4⟩:=OD h hk.count n;rw[As];unfold PY Sto.read;rcases q4 with ⟨B,rfl⟩|⟨B,Y,rfl⟩|⟨B,rfl,a,d,b,rfl,c3,c4,Z,rfl⟩
 ·have C:((19:Int) != 0)=true:=rfl;rw[if_pos B];exact⟨H1,by simp only[T,go_sem,zA,zB,C],D.res U⟩
 ·have C:((5:Int) != 0)=true:=rfl;rw[if_neg (by simp[B]),Y];exact⟨H1,by simp only[T,go_sem,zA,zB,C],D.res U⟩
 ·have C:((0:Int) != 0)=false:=rfl;rw[if_neg (by simp[B]),Z];obtain⟨k1,E,k3,k4⟩:=D.mid;have S:=ld E.cells 0 (v:=d.tx) rfl;have u:=E.text.len 5
  have F:Zv s.files=Zv (a.map FD.fil)+(d.fil.text.length+Zv (b.map FD.fil)):=by
   rw[<-h.files,zN,zG,CW]
  have O:=hk.used;have V:=hk.limit;refine⟨H1,?_,D.res U⟩;simp only[T,go_sem,zA,zB,C,HX];by_cases g:i<0
  ·simp only[decide_eq_true g,go_sem,if_pos (show i<0\/(d.fil.text.length:Int)<i\/k<0 from .inl g)]
  by_cases w:(d.fil.text.length:Int)<i
  ·simp only[decide_eq_false g,go_sem,S,u,decide_eq_true w,if_pos (show i<0\/(d.fil.text.length:Int)<i\/k<0 from .inr (.inl w))]
  by_cases z:k<0
  ·simp only[decide_eq_false g,go_sem,S,u,decide_eq_false w,decide_eq_true z,if_pos (show i<0\/(d.fil.text.length:Int)<i\/k<0 from .inr (.inr z))]
  have M:¬ (i<0\/(d.fil.text.length:Int)<i\/k<0):=by omega
  have Q:xN.wrap ((d.fil.text.length:Int)-i)=(d.fil.text.length:Int)-i:=Zr (by omega) (by omega);have R:xN.wrap (i+min k ((d.fil.text.length:Int)-i))=((i.toNat+min k.toNat (d.fil.text.length-i.toNat):Nat):Int):=by rw[Zr (by omega) (by omega)];omega
  obtain⟨y,W,X⟩:=E.text.part (i:=i.toNat) (j:=i.toNat+min k.toNat (d.fil.text.length-i.toNat)) (by omega) (by omega) H1;have K:((i.toNat:Nat):Int)=i:=by omega
  rw[K]at W
  have N:(d.fil.text.take (i.toNat+min k.toNat (d.fil.text.length-i.toNat))).drop i.toNat=(d.fil.text.drop i.toNat).take k.toNat:=by
   rw[List.drop_take,Nat.add_sub_cancel_left];by_cases L:k.toNat<=d.fil.text.length-i.toNat
   ·rw[Nat.min_eq_left L]
   ·rw[Nat.min_eq_right (by omega),zV (by simp),zV (by simp;omega)]
  rw[N]at X;simp only[decide_eq_false g,go_sem,S,u,decide_eq_false w,decide_eq_false z,HY,Q,R,W,X,if_neg M]
def Em (h x8:AV):Option AV :=
 Z0 (Z5 .geq h (.int .u8 97)) fun u =>
 Z0 (Z8 u true ak (some h)) fun C =>
 Z0 (Z8 u true ak (Z5 .leq C (.int .u8 122))) fun D =>
 Z0 (Zi u D (.bool false)) fun j =>
 Z0 (Z8 j false ak (some h)) fun E =>
 Z0 (Z8 j false ak (Z5 .geq E (.int .u8 65))) fun F =>
 Z0 (Z8 j false ak (some F)) fun w =>
 Z0 (Z8 w true ak (some h)) fun H =>
 Z0 (Z8 w true ak (Z5 .leq H (.int .u8 90))) fun K =>
 Z0 (Z8 j false ak (Zi w K (.bool false))) fun L =>
 Z0 (Zi j (.bool true) L) fun y =>
 Z0 (Z8 y false ak (some h)) fun M =>
 Z0 (Z8 y false ak (Z5 .eql M (.int .u8 95))) fun N =>
 Z0 (Zi y (.bool true) N) fun z =>
 Z0 (Z8 z false ak (some h)) fun O =>
 Z0 (Z8 z false ak (Z5 .eql O (.int .u8 46))) fun Q =>
 Z0 (Zi z (.bool true) Q) fun R =>
 Z0 (Xv .not R) fun g =>
 Z0 (Z8 g true ak (some x8)) fun S =>
 Z0 (Z8 g true ak (Z5 .eql S (xO J 0))) fun T =>
 Z0 (Z8 g true ak (some T)) fun A =>
 Z0 (Z8 A false ak (some h)) fun U =>
 Z0 (Z8 A false ak (Z5 .lss U (.int .u8 48))) fun V =>
 Z0 (Z8 g true ak (Zi A (.bool true) V)) fun W =>
 Z0 (Z8 g true ak (some W)) fun B =>
 Z0 (Z8 B false ak (some h)) fun X =>
 Z0 (Z8 B false ak (Z5 .gtr X (.int .u8 57))) fun Y =>
 Z0 (Z8 g true ak (Zi B (.bool true) Y)) fun Z =>
 Z0 (Zi g Z (.bool false)) fun aa =>
 some aa
theorem ZeP (u y j z:AV)(w H:Hp):D8 u y j z w H =
 Z0 (Zx u j) fun h =>
 Z0 (Em h j) fun g =>
 Zj g (some ((.bool false),H)) (D9 u y j w H):=by
 rw[OR];simp only[Em,N5,WZ]
theorem Zh8:((xM 256).all fun n=>(Rq (Em (.int .u8 (n:Int)) (xO J 1))==some (!(Of (zR n) || IR (zR n))))&&(Rq (Em (.int .u8 (n:Int)) (xO J 0))==some (!Of (zR n))))=true:=by kernel_rfl
theorem Zls (b:UInt8):Em (.int .u8 b.toNat) (xO J 0)=some (.bool (!Of b)):=by
 have h:=WF Zh8 (ZdK b);simp only[zX,beq_iff_eq,yY]at h;exact Qo h.2
theorem Znh (b:UInt8){i:Int}(hi:(i==0)=false):Em (.int .u8 b.toNat) (xO J i)=some (.bool (!(Of b || IR b))):=by
 have h:=WF Zh8 (ZdK b);simp only[zX,beq_iff_eq,yY]at h;rw[<-Qo h.1];have e:Z5 .eql (xO J i) (xO J 0)=Z5 .eql (xO J 1) (xO J 0):=by simp only[Z5,Wa,Wb,hi];rfl
 unfold Em
 iterate 18 refine congrArg (Z0 _) (funext fun t=>?_)
 cases t with
 |bool b =>
  cases b
  ·rfl
  ·simp only[Zlx,WZ,e]
 |_=>rfl
theorem Zlt (s:Zm)(g H:Hp):D7 (.str s) g H=some (.bool (!s.isEmpty&&decide (s.length<=32)),H):=by
 rw[OQ]
 cases s with
 |nil=>simp[go_sem,Yr,Ki]
 |cons b l =>
  simp only[Yr,Ki,go_sem,Zk];have:(!((b::l)==([]:Zm)))=true:=rfl;have c:decide (((b::l).length:Int)<=32)=decide ((b::l).length<=32):=by rw[Bool.eq_iff_iff];simp;omega
  simp only[this,go_sem,c,yZ,yB,yG]
theorem Zpv (s:Zm)(B:s.length<=1048576)(u H:Hp):∀ (k i:Nat),s.length-i=k->0<i->i<=s.length ->
 QO (.str s) (xO J s.length) (xO J i) u H=some (.bool (((s.drop i).all fun c=>Of c || IR c)&&(!s.isEmpty&&decide (s.length<=32))),H):=by
 intro k
 induction k with
 |zero =>
  intro i hk w hi;rw[VW];have g:decide ((i:Int)<(s.length:Int))=false:=by simp;omega
  have y:s.drop i=[]:=List.drop_eq_nil_iff.2 (by omega);simp only[go_sem,g,Zlt s,y,List.all_nil,yG]
 |succ k z =>
  intro i hk w hi;rw[VW];have j:i<s.length:=by omega
  have g:decide ((i:Int)<(s.length:Int))=true:=by simp;omega
  have hw:xN.wrap ((i:Int)+1)=((i+1:Nat):Int):=by rw[Zr (by omega) (by omega)];omega
  have h:((i:Int)==0)=false:=by simp;omega
  simp only[go_sem,g,ZeP,ZX (yF j),Znh _ h];rw[List.drop_eq_getElem_cons j,xI]
  cases A:(Of s[i] || IR s[i]) with
  |false=>simp only[go_sem,yB,yV]
  |true =>
   simp only[go_sem,yE,yG,RZ,hw];exact z (i+1) (by omega) (by omega) (by omega)
theorem Zpu (s:Zm)(u:s.length<=1048576)(H:Hp):Zf Fa [.str s] H=some (.bool (RW s),H):=by
 refine XI (a':=.str s) rfl (H1:=[]) ?_ rfl;rw[ZaF];unfold LN;simp only[go_sem,Zk]
 cases s with
 |nil=>rw[VW];simp[go_sem,Zlt [],RW]
 |cons b l =>
  rw[VW];have h:decide ((0:Int)<((b::l).length:Int))=true:=by simp
  have hw:xN.wrap ((0:Int)+1)=((0+1:Nat):Int):=by decide
  have g:Zx (.str (b::l)) (xO J 0)=some (.int .u8 b.toNat):=by simp[Zx]
  simp only[go_sem,h,ZeP,g,Zls];unfold RW
  cases j:Of b with
  |false=>simp only[go_sem,yB,j,yV]
  |true =>
   have:=Zpv (b::l) u [] [] l.length 1 (by simp) (by omega) (by simp);rw[show ((1:Nat):Int)=((0+1:Nat):Int) from rfl]at this;simp only[go_sem,yE,RZ,hw,this];simp only[xH,xE,yZ,yB,yG,j]
theorem ZwH {H:Hp}{m g:Nat}{j:List (AV×AV×Nat)}(h:H[m]?=some (.map j g)):Jr (.map m) H=some (xO J (j.length:Int)):=by
 unfold Jr Xe;dsimp only;rw[h]
theorem Zoo {H:Hp}{o:Nat}{s:Sto}{A:List Nat}(h:StoreAt H o s A)(hk:StoOk s)(n:Zm)(hn:n.length<=1048576) :
 ∃ H' A',Jn [.ptr o 0,.str n] H=some (xO J (s.create n).1,H')/\StoRes H H' o (s.create n).2 A A':=by
 obtain⟨m,g,w,h,rfl⟩:=h;obtain⟨H1,F,B,L⟩:=Zj2 h hk.count;have z:=Zpu n hn H1;have T:H1[o]?=some (.cells (WI m s.tick)):=B.cells;have l3:=ld T 3 (v:=.map m) rfl;have O:=B.look n;rw[Xr]at O;have E:=ZwH B.map;have W:(w.map FD.ent).length=s.files.length:=by rw[yA,<-h.files,yA]
 rw[W]at E;rw[Sg];unfold R2 Sto.create
 cases N:s.tick.crashed with
 |true =>
  rw[N]at F;rw[if_pos rfl];exact⟨H1,_,by simp only[go_sem,F],B.res L⟩
 |false =>
  rw[N]at F;rw[if_neg (by simp)]
  cases R:RW n with
  |false =>
   rw[R]at z;rw[if_pos rfl];exact⟨H1,_,by simp only[go_sem,F,z,yB],B.res L⟩
  |true =>
   rw[R]at z;rw[if_neg (by simp)];rcases O with ⟨k1,k2⟩|⟨a,d,b,k1,k2,k3,k4,k5⟩
   ·rw[k1];by_cases M:64<=s.files.length
    ·have U:decide ((64:Int)<=(s.files.length:Int))=true:=by rw[decide_eq_true_eq];omega
     simp only[if_pos M];exact⟨H1,_,by simp only[go_sem,F,z,yE,l3,k2,E,U],B.res L⟩
    ·have U:decide ((64:Int)<=(s.files.length:Int))=false:=by simp;omega
     have e2:Yy (.map 9 84) .eql (.map m) .nilm=some (.bool false):=rfl;have V:ZN (.agg [.nils,xO J 0]) H1=some (.ptr H1.length 0,H1++[.cells [.nils,xO J 0]]):=rfl;have Q:(H1++[zJ [.nils,xO J 0]])[m]?=some (.map (w.map FD.ent) g):=Y5 B.map _
     have S:Xq .string (.map m) (.str n) (.ptr H1.length 0) (H1++[zJ [.nils,xO J 0]])=some (.tuple [],(H1++[zJ [.nils,xO J 0]]).set m (.map (w.map FD.ent++[(.str n,.ptr H1.length 0,g)]) (g+1))):=by
      have X:Wf .string (.str n)=true:=rfl;unfold Xq;dsimp only;rw[Q];dsimp only;rw[if_pos X,Zh4 w n 0 (by rw[h.files];exact k1)]
     simp only[if_neg M];have aa:=Zh B.map;have ab:=Zh T
     have hS:Stp [o,m] H1 ((H1++[zJ [.nils,xO J 0]]).set m (.map (w.map FD.ent++[(.str n,.ptr H1.length 0,g)]) (g+1))) :=
      (Stp.push (A:=[o,m]) H1 _).trans (Stp.set _ _ (by simp)) (fun _ h=>h) fun _ h=>.inl h
     have D:∀ d∈w,FileAt ((H1++[zJ [.nils,xO J 0]]).set m (.map (w.map FD.ent++[(.str n,.ptr H1.length 0,g)]) (g+1))) d:=fun d u=>(B.file d u).frame fun y K=>by
      have:=B.own_lt u K;exact hS.at' y ((B.file d u).lt y K) (by simp[this.1,this.2])
     have Y:=B.lt;have ac:=ld (Y5 T [zJ [.nils,xO J 0]]) 3 (show (WI m s.tick)[3]?=some (.map m) from rfl);refine⟨(H1++[zJ [.nils,xO J 0]]).set m (.map (w.map FD.ent++[(.str n,.ptr H1.length 0,g)]) (g+1)),o::m::(w++[FD.mk ⟨n,[],0⟩ H1.length .nils g]).flatMap FD.own,?_,⟨⟨m,g+1,w++[⟨⟨n,[],0⟩,H1.length,.nils,g⟩],⟨?_,?_,?_,?_,?_,?_⟩,rfl⟩,?_,?_⟩⟩
     ·simp only[go_sem,F,z,yE,l3,k2,E,U,EU,e2,EV,V,S]
     ·show _=s.files++[_];rw[zN,h.files];rfl
     ·rw[Yi _ h.om.symm (Y5 T _)];simp only[WI,XJ,Zv,Xr];rfl
     ·rw[Zs _ Q];simp[FD.ent]
     ·intro d u;rcases zM.1 u with u|u
      ·exact D d u
      ·rw[zH.1 u];exact⟨Yi _ (by show m≠H1.length;omega) (by simp),.inl ⟨rfl,rfl⟩⟩
     ·rw[zK];have h0:=h.nd;have j:(o::m::w.flatMap FD.own)++[H1.length]=o::m::(w.flatMap FD.own++[FD.mk ⟨n,[],0⟩ H1.length .nils g].flatMap FD.own):=by simp[FD.own,ZI]
      rw[<-j,zS];refine⟨h0,by simp,fun x j y K=>?_⟩;rw[zH.1 K];have:=Y x j;omega
     ·obtain⟨b1,b2⟩:=h.born;refine⟨?_,fun d u=>?_⟩
      ·rw[zN,zS];refine⟨b1,by simp,fun x j y K=>?_⟩;obtain⟨d,u,rfl⟩:=yL.1 j;have:=b2 d u;simp at K;omega
      ·rcases zM.1 u with u|u
       ·have:=b2 d u;omega
       ·rw[zH.1 u];simp
     ·refine (L.trans hS (C:=o::m::w.flatMap FD.own) (fun x j=>by rw[zH.1 j];simp) fun x j=>.inl ?_);simp at j;rcases j with e|e <;> subst e <;> simp
     ·intro x j;rcases zF.1 j with e|j
      ·subst e;exact .inl (by simp)
      rcases zF.1 j with e|j
      ·subst e;exact .inl (by simp)
      rw[zK]at j;rcases zM.1 j with j|j
      ·exact .inl (by simp[j])
      ·have Z:x=H1.length:=by simpa[FD.own,ZI]using j
       rw[Z];exact .inr L.len
   ·rw[k4];exact⟨H1,_,by simp only[go_sem,F,z,yE,l3,k5],B.res L⟩
theorem Zcm {α:Type}(a:List α)(d:α)(b:List α):(a++d::b).eraseIdx a.length=a++b:=by
 induction a with
 |nil=>rfl
 |cons x a g=>simp only[zY,yC,List.eraseIdx_cons_succ,g]
theorem Iy {H:Hp}{o:Nat}{s:Sto}{A:List Nat}(h:StoreAt H o s A)(hk:StoOk s)(n:Zm) :
 ∃ H' A',Wm [.ptr o 0,.str n] H=some (xO J (s.remove n).1,H')/\StoRes H H' o (s.remove n).2 A A':=by
 obtain⟨m,j,ds,h,rfl⟩:=h;obtain⟨p,e,H1,q1,D,q3,q4⟩:=OD h hk.count n;rw[Sh];unfold R3 Sto.remove;rcases q4 with ⟨L,rfl⟩|⟨L,c2,rfl⟩|⟨L,rfl,a,d,b,rfl,S,T,c5,rfl⟩
 ·have M:((19:Int)==0)=false:=rfl;rw[if_pos L];exact⟨H1,_,by simp only[q1,go_sem,zA,zB,M,Un],D.res q3⟩
 ·have M:((5:Int)==0)=false:=rfl;rw[if_neg (by simp[L]),c2];exact⟨H1,_,by simp only[q1,go_sem,zA,zB,M,Un],D.res q3⟩
 ·have M:((0:Int)==0)=true:=rfl;rw[if_neg (by simp[L]),c5];obtain⟨k1,hd,k3,k4⟩:=D.mid
  have F:Zv s.files=Zv (a.map FD.fil)+(d.fil.text.length+Zv (b.map FD.fil)):=by
   rw[<-h.files,zN,zG,CW]
  have Q:Vv s.files n=a.map FD.fil++b.map FD.fil:=by rw[<-h.files,ZwY a d b n S T]
  have Z:Zv (Vv s.files n)=Zv s.files-d.fil.text.length:=by rw[Q,XJ,F];omega
  have aa:=hk.used;have ac:=hk.limit;have R:H1[o]?=some (.cells (WI m s.tick)):=D.cells;have l1:=ld R 1 (v:=xO J (Zv s.files:Int)) (by rw[<-Xr s];rfl);have l3:=ld R 3 (v:=.map m) rfl;have m0:=ld hd.cells 0 (v:=d.tx) rfl;have O:=hd.text.len 5
  have Y:Y9 .string .nilp false (.map m) (.str n) H1=some (.ptr d.f 0):=by
   rcases D.look n with ⟨k,_⟩|⟨a',d',b',k5,k6,k7,k8,k9⟩
   ·rw[Xr,c5]at k;cases k
   ·rw[k9];have u:YQ (.str n) ((a++d::b).map FD.ent) 0=YQ (.str n) ((a'++d'::b').map FD.ent) 0:=by rw[k5]
    rw[L7 a d b n 0 S T,L7 a' d' b' n 0 k6 k7]at u;injection u with u;injection u with u;injection u with _ u;injection u with u;rw[u]
  have hw:xN.wrap ((Zv s.files:Int)-(d.fil.text.length:Int))=((Zv s.files-d.fil.text.length:Nat):Int):=by rw[Zr (by omega) (by omega)];omega
  have s1:=st R 1 (v:=xO J ((Zv s.files-d.fil.text.length:Nat):Int)) rfl rfl (by simp[WI]);have U:=Zs (zJ (zO (WI m s.tick) 1 (xO J ((Zv s.files-d.fil.text.length:Nat):Int)))) R;have V:=Yi (.cells (zO (WI m s.tick) 1 (xO J ((Zv s.files-d.fil.text.length:Nat):Int)))) h.om D.map;have n3:=ld U 3 (v:=.map m) rfl;generalize W:H1.set o (.cells (zO (WI m s.tick) 1 (xO J ((Zv s.files-d.fil.text.length:Nat):Int))))=K at s1 U V n3
  have N:J0 .string (.map m) (.str n) K=some (.tuple [],K.set m (.map ((a++b).map FD.ent) j)):=by
   have X:Wf .string (.str n)=true:=rfl;unfold J0;dsimp only;rw[V];dsimp only;rw[if_pos X,L7 a d b n 0 S T];dsimp only;rw[zD,zN,zG,show a.length=(a.map FD.ent).length by simp,Zcm,zN]
  have hS:Stp [o,m] H1 (K.set m (.map ((a++b).map FD.ent) j)):=by
   rw[<-W];exact (Stp.set _ _ (by simp)).trans (Stp.set _ _ (by simp)) (fun _ h=>h) fun _ h=>.inl h
  have g:∀ y∈a++b,y∈a++d::b:=fun y B=>by rcases zM.1 B with k|k <;> simp[k]
  refine⟨K.set m (.map ((a++b).map FD.ent) j),o::m::(a++b).flatMap FD.own,?_,⟨⟨m,j,a++b,⟨?_,?_,?_,?_,?_,?_⟩,rfl⟩,?_,?_⟩⟩
  ·have E:Ge [.ptr o 0,.str n] H1=some (.tuple [],K.set m (.map ((a++b).map FD.ent) j)):=by
    rw[Au];unfold N0;simp only[go_sem,l3,Y,l1,m0,O,hw,s1,n3,N]
   simp only[q1,go_sem,zA,zB,M,E,Un]
  ·show _=Vv s.files n;rw[Q,zN]
  ·rw[Yi _ h.om.symm U];simp only[WI,Z];rfl
  ·exact Zs _ V
  ·intro y B;refine (D.file y (g y B)).frame fun z hz=>hS.at' z ((D.file y (g y B)).lt z hz) ?_;have:=D.own_lt (g y B) hz;simp[this.1,this.2]
  ·refine (yW ?_ h.nd);rw[zK,zK,zU];exact ((xA _).append (List.sublist_append_right _ _)).cons_cons m |>.cons_cons o
  ·obtain⟨b1,b2⟩:=h.born;refine⟨?_,fun y B=>b2 y (g y B)⟩;rw[zN,zG]at b1;rw[zN];exact yW ((xA _).append (List.sublist_cons_self _ _)) b1
  ·refine q3.trans hS (C:=o::m::(a++d::b).flatMap FD.own) (fun x w=>by rw[zH.1 w];simp) fun x w=>.inl ?_;simp at w;rcases w with e|e <;> subst e <;> simp
  ·intro x w;rcases zF.1 w with e|w
   ·subst e;exact .inl (by simp)
   rcases zF.1 w with e|w
   ·subst e;exact .inl (by simp)
   obtain⟨y,B,ab⟩:=xC.1 w;exact .inl (yI _ (yI _ (xC.2 ⟨y,g y B,ab⟩)))
def VP (l:List Fil):List Fil:=(Qi (l.map Fil.name)).filterMap (ZQ l)
def Yh (f:Fil):AV:=.agg [.str f.name,xO J (f.text.length:Int),xO J (f.syn:Int)]
theorem Zt6:∀ g:List FD,CR (g.map FD.ent)=some (g.map fun d=>d.fil.name):=by
 intro g
 induction g with
 |nil=>rfl
 |cons d g h=>rw[zG,FD.ent,CR,h];rfl
theorem ZrR:∀ l:List Zm,l.Nodup->En l=true:=by
 intro l
 induction l with
 |nil=>intro _;rfl
 |cons s r w =>
  intro h;obtain⟨g,j⟩:=zE.1 h;simp only[En,zX,yH];refine⟨fun t u=>?_,w j⟩;have:t≠s:=fun e=>g (e ▸ u);simp[this]
theorem ZtJ (c:Nat):∀ l:List Nat,l.Nodup->(∀ n∈l,n<c)->IG c l=true:=by
 intro l
 induction l with
 |nil=>intro _ _;rfl
 |cons s r z =>
  intro h g;obtain⟨j,u⟩:=zE.1 h;simp only[IG,zX,yH,decide_eq_true_eq];refine⟨g s (by simp),fun t y=>?_,z u fun n w=>g n (by simp[w])⟩;have:t≠s:=fun e=>j (e ▸ y);simp[this]
theorem ZlP {n:Zm}(h:RW n=true):n.length<=32:=by
 unfold RW at h;rw[zX,decide_eq_true_eq]at h;exact h.2
theorem Zso {H:Hp}{o m g:Nat}{u:List FD}{s:Sto}(h:StAt H o m g u s)(hk:StoOk s):∃ x,namesE.run [.ptr o 0] H=some (x,H)/\SS x (Qi (s.files.map Fil.name)):=by
 have w:u.map (fun d=>d.fil.name)=s.files.map Fil.name:=by rw[<-h.files,xK];rfl
 have D:GU H o=some (Zhs (s.files.map Fil.name)):=by
  unfold GU;rw[h.cells];dsimp only;rw[show ([xG .i64 (s.limit:Int),xO J (Zv s.files:Int),xO J (s.peak:Int),.map m,.bool s.crashed,xO J (s.count:Int)])[3]?=some (.map m) from rfl];dsimp only;rw[h.map];dsimp only;rw[Zt6,w];dsimp only;rw[if_pos]
  have y:=ZtJ g _ h.born.1 fun n j=>by
   obtain⟨d,z,rfl⟩:=yL.1 j;exact h.born.2 d z
  have A:(u.map FD.ent).map (·.2.2)=u.map FD.born:=by rw[xK];rfl
  rw[A,y,ZrR _ hk.nd];simp only[yG,zX,yH,decide_eq_true_eq,yA];refine⟨fun t C=>?_,by have:=hk.len;omega⟩;obtain⟨f,B,rfl⟩:=yL.1 C;have:=ZlP (hk.name f B);omega
 refine⟨Zhs (s.files.map Fil.name),?_,?_⟩
 ·show (GU H o).map (·,H)=_;rw[D];rfl
 ·unfold Zhs;split
  ·rename_i j;exact .inl ⟨rfl,by rw[j];rfl⟩
  ·rename_i E r j;exact .inr ⟨.no,by rw[j]⟩
theorem Zsc {u:Hp}{o m E:Nat}{V:List FD}{s:Sto}(h:StAt u o m E V s)(hk:StoOk s){x:AV}{j:List Zm}(hx:SS x j)(T:∀ n∈j,∃ f,ZQ s.files n=some f)(hl:j.length<=64)(Y:Hp):∀ (r d:List Zm) (M:AV) (H:Hp),j=d++r ->
 RowN u.length H 3 M ((d.filterMap (ZQ s.files)).map Yh)->Keep u.length u H->u.length<=H.length ->
 ∃ y H',UB (.ptr o 0) M x (xO J (j.length:Int)) (xO J (d.length:Int)) Y H=some (y,H')/\RowN u.length H' 3 y ((j.filterMap (ZQ s.files)).map Yh)/\Keep u.length u H'/\u.length<=H'.length:=by
 intro r
 induction r with
 |nil =>
  intro d M H z N L g;rw[zT]at z;subst z;have D:decide ((j.length:Int)<(j.length:Int))=false:=by simp
  rw[DJ];simp only[go_sem,D,HU];exact⟨_,_,rfl,N,L,g⟩
 |cons n r ih =>
  intro d M H z N L g;have S:j.length=d.length+(r.length+1):=by rw[z];simp
  have D:decide ((d.length:Int)<(j.length:Int))=true:=by simp;omega
  have U:xN.wrap ((d.length:Int)+1)=((d.length+1:Nat):Int):=by rw[Zr (by omega) (by omega)];omega
  have R:j[d.length]?=some n:=by rw[z,zI (zL _)];simp
  have F:=SS.idx hx R;have w:StAt H o m E V s:=h.frame fun a Z=>L a (h.lt a Z);obtain⟨f,O⟩:=T n (by rw[z];simp);have l3:=ld w.cells 3 (v:=.map m) rfl;rcases w.look n with ⟨k,_⟩|⟨a',d',b',k5,k6,k7,W,k9⟩
  ·rw[O]at k;cases k
  ·have A:=w.file d' (by rw[k5];simp);have Q:f=d'.fil:=by rw[O]at W;injection W
   have m0:=ld A.cells 0 (v:=d'.tx) rfl;have m1:=ld A.cells 1 (v:=xO J (d'.fil.syn:Int)) rfl;have C:=A.text.len 5;have B:(YD [(0,1,.str n),(1,1,xO J (d'.fil.text.length:Int)),(2,1,xO J (d'.fil.syn:Int))] [(.str []),(xO J 0),(xO J 0)]).map AV.agg=some (Yh d'.fil):=by rw[<-k6];rfl
   have K:(ZA 3 [(0,Yh d'.fil)] [(.agg [(.str []),(xO J 0),(xO J 0)])]).map (AV.vs 3 .clip)=some (.vs 3 .clip [Yh d'.fil]):=rfl;have aa:(d.filterMap (ZQ s.files)).length<=d.length:=List.length_filterMap_le _ _;obtain⟨x',H1,q1,q2,q3,q4,_⟩:=N.app g 32 (.vs 3 .clip [Yh d'.fil]) [Yh d'.fil] rfl (by simp;omega);obtain⟨y,H',X,p2,p3,p4⟩:=ih (d++[n]) x' H1 (by rw[z];simp) (by rw[List.filterMap_append,zN];simpa[O,Q]using q2) (L.trans q4) q3;rw[zQ,zP]at X;refine⟨y,H',?_,p2,p3,p4⟩;rw[DJ];simp only[go_sem,D,HV,F,Zz,l3,k9,m0,m1,C,B,K,q1,HW,U];exact X
theorem CM (l:List Zm)(n:Zm):n∈Qi l↔n∈l:=(JP l).mem_iff
theorem ZfF {l:List Fil}{n:Zm}(h:n∈l.map Fil.name):∃ f,ZQ l n=some f:=by
 cases j:ZQ l n with
 |some f=>exact⟨f,rfl⟩
 |none =>
  obtain⟨f,g,rfl⟩:=yL.1 h;exact absurd rfl (Zjj.1 j f g)
theorem ZkW (H:Hp)(n f:Nat)(x:Fil):Zd H n (f+2) (Yh x)=some (Yh x):=rfl
theorem ZuV (H:Hp)(n f:Nat):∀ l:List Fil,(l.map Yh).mapM (Zd H n (f+2))=some (l.map Yh):=by
 intro l
 induction l with
 |nil=>rfl
 |cons a l g=>rw[zG,xF,ZkW,g];rfl
theorem Ez {f:List AV->Hp->Z4}{args:List AV}{H H1:Hp}{v v':AV}(h:f args H=some (v,H1))(g:Keep H.length H H1)(w:H.length<=H1.length)(u:Zd H1 H.length 9 v=some v'):G1 f args H=some (v',H):=by
 have j:H1.take H.length=H:=by
  apply List.ext_getElem?;intro i;by_cases hi:i<H.length
  ·rw[List.getElem?_take_of_lt hi,g i hi]
  ·rw[yU (by simp;omega),yU (by omega)]
 unfold G1;rw[h];dsimp only;rw[j,if_pos (Zck _),u]
theorem Zij {H:Hp}{o:Nat}{s:Sto}{A:List Nat}(h:StoreAt H o s A)(hk:StoOk s):∃ x,G1 Xh [.ptr o 0] H=some (x,H)/\Sl 3 x ((VP s.files).map Yh):=by
 obtain⟨m,C,L,h,rfl⟩:=h;obtain⟨x,K,B⟩:=Zso h hk;have u:(Qi (s.files.map Fil.name)).length<=64:=by rw[(JP _).length_eq,yA];exact hk.len
 obtain⟨y,H1,E,F,w,z⟩:=Zsc h hk B (fun n j=>ZfF ((CM _ _).1 j)) u H _ [] .nils H rfl (.inl ⟨rfl,rfl⟩) (Keep.refl _ _) (zL _)
 have g:Xh [.ptr o 0] H=some (y,H1):=by
  rw[Ar];unfold PX;simp only[go_sem,HT,K,SS.len B 9];exact E
 rcases F with ⟨rfl,j⟩|⟨t,e,rfl,M,D⟩
 ·exact⟨.nils,Ez g w z rfl,.inl ⟨rfl,j⟩⟩
 ·refine⟨.vs 3 (if t<H.length then .own t e else .no) ((VP s.files).map Yh),Ez g w z (by rw[MZ,ZuV];rfl),.inr ⟨_,rfl⟩⟩
theorem ZnV (n:Int)(j:-9223372036854775808<=n/\n<=9223372036854775807)(H:Hp):∃ H',PG [xO J n] H=some (.ptr (H.length+1) 0,H')/\StoreAt H' (H.length+1) ⟨(min (max n 0) 262144).toNat,0,[],false,0⟩ [H.length+1,H.length]/\H'=H++[.map [] 0,.cells [xO J (min (max n 0) 262144),xO J 0,xO J 0,.map H.length,.bool false,xO J 0]]:=by
 have h:(YD [(0,1,xO J (min (max n 0) 262144)),(3,1,.map H.length)] [(xO J 0),(xO J 0),(xO J 0),.nilm,(.bool false),(xO J 0)]).map AV.agg=some (.agg [xO J (min (max n 0) 262144),xO J 0,xO J 0,.map H.length,.bool false,xO J 0]):=rfl;have g:∀ l:List AV,ZN (.agg l) (H++[.map [] 0])=some (.ptr (H.length+1) 0,H++[.map [] 0]++[.cells l]):=fun l=>by rw[FH rfl];simp[AV.cells]
 refine⟨_,?_,⟨H.length,0,[],⟨rfl,?_,?_,by simp,by simp,by simp,by simp⟩,rfl⟩,rfl⟩
 ·rw[Zid];unfold Zez;simp only[go_sem,h,g,yP,zY,yR]
 ·have:((min (max n 0) 262144).toNat:Int)=min (max n 0) 262144:=by omega
  simp[Zv,this]
 ·simp
def B5 (a b:Int):Int:=IntKind.u32.wrap ((BitVec.ofInt IntKind.u32.bits a ^^^ BitVec.ofInt IntKind.u32.bits b).toNat:Int)
def IC (a b:Int):Int:=IntKind.u32.wrap ((BitVec.ofInt IntKind.u32.bits a &&& BitVec.ofInt IntKind.u32.bits b).toNat:Int)
theorem ZpD (a b:Int):Z5 .xor (.int .u32 a) (.int .u32 b)=some (.int .u32 (B5 a b)):=by simp[Z5,Wa,Wb,B5]
theorem ZpC (a b:Int):Z5 .and (.int .u32 a) (.int .u32 b)=some (.int .u32 (IC a b)):=by simp[Z5,Wa,Wb,IC]
def Fi (k:IntKind)(n:Nat)(a:Int):Int:=a.fdiv (2 ^ (min n k.bits))
def Zvr (a:Int):Int:=xN.wrap (a*2 ^ (min 8 IntKind.i64.bits))
theorem Pf (k k':IntKind)(a:Int)(n:Nat):Z5 .shr (.int k a) (.int k' (n:Int))=some (.int k (Fi k n a)):=by
 simp only[Z5,Wa,Fi];rw[if_neg (by omega),zW]
theorem ZeI (a:Int):0<=IC a 15/\IC a 15<16:=by
 have h:(BitVec.ofInt IntKind.u32.bits a &&& BitVec.ofInt IntKind.u32.bits 15).toNat<=15:=by
  rw[BitVec.toNat_and];exact xJ Nat.and_le_right (by decide)
 unfold IC;generalize (BitVec.ofInt IntKind.u32.bits a &&& BitVec.ofInt IntKind.u32.bits 15).toNat=n at h
 have:IntKind.u32.wrap (n:Int)=(n:Int):=by
  have g:(2 ^ IntKind.u32.bits:Int)=4294967296:=by decide
  have j:IntKind.u32.signed=false:=rfl;unfold IntKind.wrap;simp only[g,j,yV,zZ,if_false];omega
 rw[this];omega
def Zqt (i:Int):Int:=crcTab.getD i.toNat 0
theorem Zog {i:Int}(h:0<=i/\i<16)(H:Hp):∃ p,P1 16 1 Zp5 (.int .u32 i)=some p/\Z3 false 1 p H=some (.int .u32 (Zqt i)):=by
 have g:crcTab.length=16:=rfl;refine⟨.vp ((crcTab.map (xG .u32)).drop (i.toNat*1)),?_,?_⟩
 ·unfold P1;dsimp only;rw[if_pos (by omega)];unfold Z7 Zp5;dsimp only;rw[if_pos (by simp[g];omega)]
 ·unfold Z3 Go.Am.apart Zqt;dsimp only;rw[if_neg (by simp),List.getElem?_drop,xL,yT,List.getElem?_map,yF (show i.toNat<crcTab.length by omega),yM,yF (show i.toNat<crcTab.length by omega)];rfl
def Zhi (c:Int):Int:=B5 (Zqt (IC c 15)) (Fi .u32 4 c)
def ZvV (c:Int)(b:UInt8):Int:=Zhi (Zhi (B5 c (IntKind.u32.wrap (b.toNat:Int))))
def P5 (s:Zm):Int:=s.foldl ZvV 4294967295
def HD (s:Zm):Int:=B5 IntKind.u32.max (P5 s)
theorem Zu1 (s:Zm)(O:s.length<=1048576)(C H:Hp):∀ (r d:Zm),s=d++r->RH (.str s) (.int .u32 (P5 d)) (xO J (s.length:Int)) (xO J (d.length:Int)) C H=some (.int .u32 (HD s),H):=by
 intro r
 induction r with
 |nil =>
  intro d h;rw[zT]at h;subst h;have g:decide ((s.length:Int)<(s.length:Int))=false:=by simp
  have M:Xv .xor (.int .u32 (P5 s))=some (.int .u32 (HD s)):=rfl;rw[Cs];simp only[go_sem,g,Zhb,M]
 |cons b r N =>
  intro d h;have z:s.length=d.length+(r.length+1):=by rw[h];simp
  have g:decide ((d.length:Int)<(s.length:Int))=true:=by simp;omega
  have y:xN.wrap ((d.length:Int)+1)=((d.length+1:Nat):Int):=by rw[Zr (by omega) (by omega)];omega
  have j:Zx (.str s) (xO J (d.length:Int))=some (.int .u8 (b.toNat:Int)):=ZX (by rw[h,zI (zL _)];simp);have w:Yv .u32 (.int .u8 (b.toNat:Int))=some (.int .u32 (IntKind.u32.wrap (b.toNat:Int))):=rfl;obtain⟨Q,D,E⟩:=Zog (ZeI (B5 (P5 d) (IntKind.u32.wrap (b.toNat:Int)))) H;obtain⟨R,F,K⟩:=Zog (ZeI (Zhi (B5 (P5 d) (IntKind.u32.wrap (b.toNat:Int))))) H;have A:=Pf .u32 .u64 (B5 (P5 d) (IntKind.u32.wrap (b.toNat:Int))) 4;have B:=Pf .u32 .u64 (Zhi (B5 (P5 d) (IntKind.u32.wrap (b.toNat:Int)))) 4;rw[show ((4:Nat):Int)=4 from rfl]at A B;have u:=N (d++[b]) (by rw[h];simp);rw[zQ,zP,show P5 (d++[b])=ZvV (P5 d) b by simp[P5]]at u;have L:B5 (Zqt (IC (B5 (P5 d) (IntKind.u32.wrap (b.toNat:Int))) 15)) (Fi .u32 4 (B5 (P5 d) (IntKind.u32.wrap (b.toNat:Int))))=Zhi (B5 (P5 d) (IntKind.u32.wrap (b.toNat:Int))):=rfl;rw[Cs];simp only[go_sem,g,Zhc,j,w,ZpD,ZpC,D,E,A,L,F,K,B,Zhd,y];exact u
theorem Zu0 (s:Zm)(g:s.length<=1048576)(H:Hp):Zf Hd [.str s] H=some (.int .u32 (HD s),H):=by
 refine XI (a':=.str s) rfl (H1:=[]) ?_ rfl;rw[Zi9];unfold Zev;simp only[go_sem];exact Zu1 s g [] [] s [] rfl
def VH (n:Int):UInt8:=zR (IntKind.u8.wrap n).toNat
def Zdq (s:Zm):Zm:=[VH (HD s),VH (Fi .u32 8 (HD s)),VH (Fi .u32 16 (HD s)),VH (Fi .u32 24 (HD s))]
theorem Zmo (s:Zm)(z:s.length<=1048576)(H:Hp):Zf PD [.str s] H=some (.str (Zdq s),H):=by
 have w:=Pf .u32 .u64 (HD s) 8;have g:=Pf .u32 .u64 (HD s) 16;have h:=Pf .u32 .u64 (HD s) 24;rw[show ((8:Nat):Int)=8 from rfl]at w;rw[show ((16:Nat):Int)=16 from rfl]at g;rw[show ((24:Nat):Int)=24 from rfl]at h;have y:∀ n,Yv .u8 (.int .u32 n)=some (.int .u8 (IntKind.u8.wrap n)):=fun n=>rfl;have u:∀ a b c d:Int,(ZA 1 [(0,.int .u8 a),(1,.int .u8 b),(2,.int .u8 c),(3,.int .u8 d)] [(.int .u8 0),(.int .u8 0),(.int .u8 0),(.int .u8 0)]).map (AV.vs 1 .clip)=some (.vs 1 .clip [.int .u8 a,.int .u8 b,.int .u8 c,.int .u8 d]):=fun a b c d=>rfl;have j:∀ (a b c d:Int) (H:Hp),UG (.vs 1 .clip [.int .u8 a,.int .u8 b,.int .u8 c,.int .u8 d]) H=some (.str [zR a.toNat,zR b.toNat,zR c.toNat,zR d.toNat]):=fun a b c d H=>rfl;refine XI (a':=.str s) rfl (H1:=[]) ?_ rfl;rw[Zia];unfold Zew;simp only[Zu0 s z,go_sem,y,w,g,h,u,j];rfl
theorem Zmn (s:Zm):(Zdq s).length=4:=rfl
def QF (s:Zm):Zm:=[VH (Fi .i64 8 (s.length:Int)),VH (s.length:Int)]++s
def X0 (s:Zm):Zm:=QF s++Zdq (QF s)
theorem Jf (s:Zm):(QF s).length=s.length+2:=by simp[QF]
theorem Gx (s:Zm):(X0 s).length=s.length+6:=by simp[X0,Jf,Zmn]
theorem Zve (s:Zm)(C:s.length<=1048576)(H:Hp):Zf TS [.str s] H=some (if 4096<s.length then .tuple [.str [],xO J 3] else .tuple [.str (X0 s),xO J 0],H):=by
 refine XI (a':=.str s) rfl (H1:=[]) ?_ (by split <;> rfl)
 rw[ZdP];unfold Ag;by_cases h:4096<s.length
 ·have g:decide ((4096:Int)<(s.length:Int))=true:=by rw[decide_eq_true_eq];omega
  simp only[go_sem,g,if_pos h]
 ·have g:decide ((4096:Int)<(s.length:Int))=false:=by simp;omega
  have y:=Pf .i64 .u64 (s.length:Int) 8;rw[show ((8:Nat):Int)=8 from rfl]at y;have B:∀ n,Yv .u8 (xO J n)=some (.int .u8 (IntKind.u8.wrap n)):=fun n=>rfl;have w:∀ a b:Int,(ZA 1 [(0,.int .u8 a),(1,.int .u8 b)] [(.int .u8 0),(.int .u8 0)]).map (AV.vs 1 .clip)=some (.vs 1 .clip [.int .u8 a,.int .u8 b]):=fun a b=>rfl;have u:∀ (a b:Int) (H:Hp),UG (.vs 1 .clip [.int .u8 a,.int .u8 b]) H=some (.str [zR a.toNat,zR b.toNat]):=fun a b H=>rfl;have j:[zR (IntKind.u8.wrap (Fi .i64 8 (s.length:Int))).toNat,zR (IntKind.u8.wrap (s.length:Int)).toNat]++s=QF s:=rfl;have z:Yr .add (.str [zR (IntKind.u8.wrap (Fi .i64 8 (s.length:Int))).toNat,zR (IntKind.u8.wrap (s.length:Int)).toNat]) (.str s)=some (.str (QF s)):=by rw[ED (by simp;omega),j]
  have A:Yr .add (.str (QF s)) (.str (Zdq (QF s)))=some (.str (X0 s)):=by rw[ED (by rw[Jf,Zmn];omega)];rfl
  simp only[go_sem,g,ZcR,y,B,w,u,z,Zmo (QF s) (by rw[Jf];omega),A,if_neg h]
def ZY:List Zm->Zm
 |[]=>[]
 |s::r=>X0 s++ZY r
theorem Zli (a b:List Zm):ZY (a++b)=ZY a++ZY b:=by
 induction a with
 |nil=>rfl
 |cons s a g=>simp only[zY,ZY,g,yP]
def Y8:List Zm->Nat
 |[]=>0
 |s::r=>s.length+6+Y8 r
theorem Qp (l:List Zm):(ZY l).length=Y8 l:=by
 induction l with
 |nil=>rfl
 |cons s r g=>simp only[ZY,Y8,zQ,Gx,g]
theorem C5 (a b:List Zm):Y8 (a++b)=Y8 a+Y8 b:=by
 induction a with
 |nil=>simp[Y8]
 |cons s a g=>simp only[zY,Y8,g];omega
def YR (l:List Zm):Bool:=l.all fun s=>decide (s.length<=4096)
theorem Zvz (g s:Zm)(h:g.length+s.length<=4194304):∃ v,textE.run [.ptr 0 0,.str s] [yS P3 P4 g]=some (v,[yS P3 P4 (g++s)]):=by
 have j:g.length+s.length<=ZfK:=by unfold ZfK;omega
 refine⟨.tuple [xO J s.length,.nili],?_⟩;simp only[textE,ZvJ,Ziq,E0,Zks,zA,Zfr,and_self,if_true,if_pos j,List.set_cons_zero]
theorem Zuh {x:AV}{l:List Zm}(S:SS x l)(O:∀ s∈l,s.length<=1048576)(T:Y8 l<=4194304)(M:Hp):∀ (r d:List Zm),l=d++r->YR d=true ->
 ∃ H',KV (.ptr 0 0) x (xO J (l.length:Int)) (xO J (d.length:Int)) M [yS P3 P4 (ZY d)]=some (if YR l=true then .tuple [.str (ZY l),xO J 0] else .tuple [.str [],xO J 3],H'):=by
 intro r
 induction r with
 |nil =>
  intro d j B;rw[zT]at j;subst j;have u:decide ((l.length:Int)<(l.length:Int))=false:=by simp
  have E:stringE.run [.ptr 0 0] [yS P3 P4 (ZY l)]=some (.str (ZY l),[yS P3 P4 (ZY l)]):=ZhL _;rw[Nh];simp only[go_sem,u,ZcO,E,if_pos B];exact⟨_,rfl⟩
 |cons s r K =>
  intro d j B
  have y:∀ l:List Zm,6*l.length<=Y8 l:=by
   intro l
   induction l with
   |nil=>simp[Y8]
   |cons s l K=>simp only[Y8,yC];omega
  have:=y l;have H:l.length=d.length+(r.length+1):=by rw[j];simp
  have u:decide ((d.length:Int)<(l.length:Int))=true:=by simp;omega
  have F:xN.wrap ((d.length:Int)+1)=((d.length+1:Nat):Int):=by rw[Zr (by omega) (by omega)];omega
  have C:l[d.length]?=some s:=by rw[j,zI (zL _)];simp
  have w:=SS.idx S C;have Q:=O s (by rw[j];simp);have g:=Zve s Q [yS P3 P4 (ZY d)];rw[Nh];by_cases h:4096<s.length
  ·have D:YR l=false:=by
    rw[j];simp only[YR,List.all_append,xI];rw[show decide (s.length<=4096)=false by simp;omega];simp
   have N:((3:Int) != 0)=true:=rfl;rw[if_pos h]at g;simp only[go_sem,u,Ng,w,Zz,g,zA,zB,N,D,zZ,if_false];exact⟨_,rfl⟩
  ·have e0:((0:Int) != 0)=false:=rfl;rw[if_neg h]at g;have z:Y8 l=Y8 d+(s.length+6+Y8 r):=by rw[j,C5];rfl
   obtain⟨v,R⟩:=Zvz (ZY d) (X0 s) (by rw[Qp,Gx];omega);have A:ZY (d++[s])=ZY d++X0 s:=by rw[Zli];simp[ZY]
   obtain⟨H',L⟩:=K (d++[s]) (by rw[j];simp) (by
    have:YR (d++[s])=(YR d&&(decide (s.length<=4096)&&true)):=by simp[YR]
    rw[this,B];simp;omega)
   rw[zQ,zP,A]at L;refine⟨H',?_⟩;simp only[go_sem,u,Ng,w,Zz,g,zA,zB,e0,ZcQ,R,ZcP,F];exact L
theorem Zug {x:AV}{l:List Zm}(u:SS x l)(h:∀ s∈l,s.length<=1048576)(j:Y8 l<=4194304)(H:Hp) :
 Zf TR [x] H=some (if YR l=true then .tuple [.str (ZY l),xO J 0] else .tuple [.str [],xO J 3],H):=by
 obtain⟨z,w,g⟩:=SS.closed u [] 0 7;obtain⟨H',y⟩:=Zuh g h j [] l [] rfl rfl;refine XI w (H1:=H') ?_ (by split <;> rfl)
 rw[ZdO];unfold Af;simp only[go_sem,SS.len g 9,xD,yR];exact y
def Zq5 (a b:Int):Int:=xN.wrap ((BitVec.ofInt IntKind.i64.bits a ||| BitVec.ofInt IntKind.i64.bits b).toNat:Int)
def ZvT (a b:UInt8):Int:=Zq5 (Zvr (xN.wrap (a.toNat:Int))) (xN.wrap (b.toNat:Int))
theorem ZsK:((xM 4097).all fun n=>decide (ZvT (VH (Fi .i64 8 (n:Int))) (VH (n:Int))=(n:Int)))=true:=by kernel_rfl
theorem Zvb {n:Nat}(h:n<=4096):ZvT (VH (Fi .i64 8 (n:Int))) (VH (n:Int))=(n:Int):=by
 have:=yH.1 ZsK n (List.mem_range.2 (by omega));simpa using this
theorem Zsq (s rest:Zm)(Q:s.length<=4096)(W:rest.length<=1048576)(H:Hp):Zf Lx [.str (X0 s++rest),xO J 0] H=some (.tuple [.str s,xO J ((s.length+6:Nat):Int),xO J 0],H):=by
 refine F1 (a':=.str (X0 s++rest)) (b':=xO J 0) rfl rfl (H1:=[]) ?_ rfl;have j:(X0 s++rest).length=s.length+6+rest.length:=by rw[zQ,Gx]
 have h:X0 s++rest=VH (Fi .i64 8 (s.length:Int))::VH (s.length:Int)::(s++(Zdq (QF s)++rest)):=by simp[X0,QF]
 generalize E:X0 s++rest=g at j h;have K:decide ((0:Int)<0)=false:=rfl;have L:decide ((g.length:Int)<0)=false:=by rw[decide_eq_false_iff_not];omega
 have A:ZU (.str g) (some (xO J 0)) none none=some (.str g):=by
  rw[MW .i64 (by omega) (by omega)];simp
 have M:decide ((g.length:Int)<2)=false:=by rw[decide_eq_false_iff_not];omega
 have R:Zx (.str g) (xO J 0)=some (.int .u8 ((VH (Fi .i64 8 (s.length:Int))).toNat:Int)):=ZX (i:=0) (by rw[h];rfl);have S:Zx (.str g) (xO J 1)=some (.int .u8 ((VH (s.length:Int)).toNat:Int)):=ZX (i:=1) (by rw[h];rfl);have F:∀ n,Yv .i64 (.int .u8 n)=some (xO J (xN.wrap n)):=fun n=>rfl;have z:∀ a:Int,Z5 .shl (xO J a) (.int .u64 8)=some (xO J (Zvr a)):=fun a=>rfl;have w:∀ a b:Int,Z5 .or (xO J a) (xO J b)=some (xO J (Zq5 a b)):=fun a b=>by simp[Z5,Wa,Wb,Zq5]
 have y:Zq5 (Zvr (xN.wrap ((VH (Fi .i64 8 (s.length:Int))).toNat:Int))) (xN.wrap ((VH (s.length:Int)).toNat:Int))=(s.length:Int):=Zvb Q;have N:decide ((4096:Int)<(s.length:Int))=false:=by simp;omega
 have V:xN.wrap ((s.length:Int)+6)=((s.length+6:Nat):Int):=by rw[Zr (by omega) (by omega)];omega
 have U:xN.wrap ((s.length:Int)+2)=((s.length+2:Nat):Int):=by rw[Zr (by omega) (by omega)];omega
 have T:xN.wrap (0+(s.length:Int))=(s.length:Int):=by rw[Zr (by omega) (by omega)];omega
 have O:decide ((g.length:Int)<((s.length+6:Nat):Int))=false:=by simp;omega
 have B:ZU (.str g) (some (xO J ((s.length+2:Nat):Int))) (some (xO J ((s.length+6:Nat):Int))) none=some (.str (Zdq (QF s))):=by
  rw[IE .i64 .i64 (by omega) (by omega) (by omega)];congr 2;rw[<-E,zW,zW,yK (by rw[Gx];exact zL _),zV (by rw[Gx];exact zL _)];unfold X0;rw[List.drop_append_of_le_length (by rw[Jf];exact zL _),List.drop_of_length_le (by rw[Jf];exact zL _)];rfl
 have C:ZU (.str g) none (some (xO J ((s.length+2:Nat):Int))) none=some (.str (QF s)):=by
  rw[ZgG .i64 (by omega) (by omega)];congr 2;rw[<-E,zW];unfold X0;rw[yP,yK (by rw[Jf];exact zL _),zV (by rw[Jf];exact zL _)]
 have D:ZU (.str g) (some (xO J 2)) (some (xO J ((s.length+2:Nat):Int))) none=some (.str s):=by
  rw[IE .i64 .i64 (by omega) (by omega) (by omega)];congr 2;rw[h,zW];simp
 have u:(!(Zdq (QF s)==Zdq (QF s)))=false:=by simp
 rw[Zg7];unfold Zbs;simp only[go_sem,K,L,ZfA,A,M,ZfB,R,S,F,z,w,y,N,ZfC,V,O,ZfD,U,B,C,Zmo (QF s) (by rw[Jf];omega),u,ZfE,D,T]
structure Tmp where
 owner:Zm
 names:List Zm
 sld:List Zm
 limit:Nat
 last:Nat
 closed:Bool
def NmAt (H:Hp)(x:AV)(l:List Zm):Prop:=x=.nils/\l=[]\/∃ t e,x=.vs 1 (.own t e) (l.map xB)/\H[t]?=some (.tok e)
theorem NmAt.ss {H:Hp}{x:AV}{l:List Zm}(h:NmAt H x l):SS x l:=by
 rcases h with ⟨rfl,rfl⟩|⟨t,e,rfl,_⟩
 ·exact .inl ⟨rfl,rfl⟩
 ·exact .inr ⟨_,rfl⟩
theorem NmAt.frame {H H':Hp}{x:AV}{l:List Zm}(h:NmAt H x l)(u:∀ a∈ZI x,H'[a]?=H[a]?):NmAt H' x l :=
 h.imp id fun⟨t,e,g,j⟩=>⟨t,e,g,(u t (by rw[g];simp[ZI])).trans j⟩
def VO (p:Zm×Nat):AV×AV×Nat:=(.str p.1,.bool true,p.2)
structure TmAt (H:Hp)(o t ms clk:Nat)(nx:AV)(sl:List (Zm×Nat))(tm:Tmp):Prop where
 cells:H[o]?=some (.cells [.ptr t 0,.str tm.owner,nx,.map ms,xO J (tm.limit:Int),xO J (tm.last:Int),.bool tm.closed])
 names:NmAt H nx tm.names
 map:H[ms]?=some (.map (sl.map VO) clk)
 sld:sl.map (·.1)=tm.sld
 nd:(o::ms::ZI nx).Nodup
def TmpAt (H:Hp)(o t:Nat)(tm:Tmp)(B:List Nat):Prop:=∃ h g j sl,TmAt H o t h g j sl tm/\B=o::h::ZI j
structure TmpOk (tm:Tmp):Prop where
 owner:tm.owner.length<=16
 limit:tm.limit<=9223372036854775807
 len:tm.names.length<=tm.last
 last:tm.last<=1000000
theorem TmAt.lt {H:Hp}{o t u j:Nat}{w:AV}{sl:List (Zm×Nat)}{tm:Tmp}(h:TmAt H o t u j w sl tm):∀ a∈o::u::ZI w,a<H.length:=by
 intro a g;rcases zF.1 g with e|g
 ·subst e;exact Zh h.cells
 rcases zF.1 g with e|g
 ·subst e;exact Zh h.map
 rcases h.names with ⟨e,_⟩|⟨t,e,y,z⟩
 ·rw[e]at g;cases g
 ·rw[y]at g;rw[zH.1 g];exact Zh z
theorem TmAt.frame {H H':Hp}{o t u g:Nat}{w:AV}{sl:List (Zm×Nat)}{tm:Tmp}(h:TmAt H o t u g w sl tm)(j:∀ a∈o::u::ZI w,H'[a]?=H[a]?):TmAt H' o t u g w sl tm :=
 ⟨(j _ (by simp)).trans h.cells,h.names.frame fun a y=>j a (by simp[y]),(j _ (by simp)).trans h.map,h.sld,h.nd⟩
theorem TmpAt.lt {H:Hp}{o t:Nat}{tm:Tmp}{B:List Nat}(h:TmpAt H o t tm B):∀ a∈B,a<H.length:=by
 obtain⟨j,g,u,sl,h,rfl⟩:=h;exact h.lt
theorem TmpAt.stp {H H':Hp}{o t:Nat}{tm:Tmp}{B S:List Nat}(h:TmpAt H o t tm B)(w:Stp S H H')(u:∀ a∈B,a∉S):TmpAt H' o t tm B:=by
 obtain⟨y,g,z,sl,h,rfl⟩:=h;exact⟨y,g,z,sl,h.frame fun a j=>w.at' a (h.lt a j) (u a j),rfl⟩
def SysAt (H:Hp)(o t:Nat)(tm:Tmp)(s:Sto)(A:List Nat):Prop:=∃ B S,TmpAt H o t tm B/\StoreAt H t s S/\(∀ a∈B,a∉S)/\A=B++S
structure SysRes (H H':Hp)(o t:Nat)(tm':Tmp)(s':Sto)(A A':List Nat):Prop where
 at':SysAt H' o t tm' s' A'
 stp:Stp A H H'
 own:∀ a∈A',a∈A\/H.length<=a
theorem SysAt.lt {H:Hp}{o t:Nat}{tm:Tmp}{s:Sto}{A:List Nat}(h:SysAt H o t tm s A):∀ a∈A,a<H.length:=by
 obtain⟨B,S,g,j,w,rfl⟩:=h;intro a u;rcases zM.1 u with k|k
 ·exact g.lt a k
 ·exact j.lt a k
theorem SysAt.stp {H H':Hp}{o t:Nat}{tm:Tmp}{s:Sto}{A C:List Nat}(h:SysAt H o t tm s A)(u:Stp C H H')(j:∀ a∈A,a∉C):SysAt H' o t tm s A:=by
 obtain⟨B,S,w,y,z,rfl⟩:=h;exact⟨B,S,w.stp u fun a g=>j a (by simp[g]),y.stp u fun a g=>j a (by simp[g]),z,rfl⟩
theorem SysAt.self {H:Hp}{o t:Nat}{tm:Tmp}{s:Sto}{A:List Nat}(h:SysAt H o t tm s A):SysRes H H o t tm s A A:=⟨h,Stp.refl _ _,fun a g=>.inl g⟩
theorem SysAt.store {H H':Hp}{o t:Nat}{tm:Tmp}{s':Sto}{B S j:List Nat}(u:TmpAt H o t tm B)(w:∀ a∈B,a∉S)(h:StoRes H H' t s' S j):SysRes H H' o t tm s' (B++S) (B++j):=by
 refine⟨⟨B,j,u.stp h.stp w,h.at',fun a g y=>?_,rfl⟩,h.stp.mono fun a g=>by simp[g],fun a g=>?_⟩
 ·rcases h.own a y with k|k
  ·exact w a g k
  ·have:=u.lt a g;omega
 ·rcases zM.1 g with k|k
  ·exact .inl (by simp[k])
  ·rcases h.own a k with k|k
   ·exact .inl (by simp[k])
   ·exact .inr k
theorem ZS {H:Hp}{o:Nat}{l:List AV}(h:H[o]?=some (.cells l))(i:Nat){v:AV}(g:l[i]?=some v):Z3 false 1 (.ptr o i) H=some v:=by
 rw[YA h];exact g
theorem Um {H:Hp}{o:Nat}{l:List AV}(h:H[o]?=some (.cells l))(i:Nat){v:AV}(g:v.cells=[v])(hk:v.known=true)(hi:i<l.length):Zb 1 (.ptr o i) v H=some (.tuple [],H.set o (.cells (l.set i v))):=by
 have:=st h i g hk hi
 rwa [zD]at this
theorem ZpE {x:AV}{l:List Zm}(D:SS x l)(K:l.length<=1048576)(n:Zm)(C H:Hp):∀ (r d:List Zm),l=d++r ->
 ∃ i:Int,X2 x (.str n) (xO J (l.length:Int)) (xO J (d.length:Int)) C H=some (xO J i,H)/\(0<=i↔n∈r):=by
 intro r
 induction r with
 |nil =>
  intro d h;rw[zT]at h;subst h;have g:decide ((l.length:Int)<(l.length:Int))=false:=by simp
  refine⟨-1,?_,by simp⟩;rw[Vw];simp only[go_sem,g,B1]
 |cons s r E =>
  intro d h;have A:l.length=d.length+(r.length+1):=by rw[h];simp
  have g:decide ((d.length:Int)<(l.length:Int))=true:=by simp;omega
  have z:xN.wrap ((d.length:Int)+1)=((d.length+1:Nat):Int):=by rw[Zr (by omega) (by omega)];omega
  have y:l[d.length]?=some s:=by rw[h,zI (zL _)];simp
  have j:=SS.idx D y;rw[Vw];simp only[go_sem,g,B2,j,Zz];by_cases u:n=s
  ·have w:(n==s)=true:=by simpa using u
   simp only[w,go_sem];exact⟨_,rfl,by simp[u]⟩
  ·have w:(n==s)=false:=by simpa using u
   obtain⟨i,B,F⟩:=E (d++[s]) (by rw[h];simp);rw[zQ,zP]at B;simp only[w,go_sem,B3,z];exact⟨i,B,by rw[F];simp[u]⟩
theorem Zah {x:AV}{l:List Zm}(u:SS x l)(j:l.length<=1048576)(n:Zm)(H:Hp):Zf YP [x,.str n] H=some (.bool (decide (n∈l)),H):=by
 obtain⟨B,w,y⟩:=SS.closed u [] 0 7;obtain⟨C,h,g⟩:=SS.closed y [] 0 7;refine F1 w (b':=.str n) rfl (H1:=[]) ?_ rfl;obtain⟨i,z,A⟩:=ZpE g j n [] [] l [] rfl
 have hi:Zf Wk [B,.str n] []=some (xO J i,[]):=by
  refine F1 h (b':=.str n) rfl (H1:=[]) ?_ rfl;rw[BS];unfold UE;simp only[go_sem,SS.len g 9];exact z
 rw[G6];unfold VG;simp only[hi,go_sem];congr 3;rw[decide_eq_decide];exact A
def YG (tm:Tmp)(n:Zm):Int:=if tm.closed then 8 else if n∈tm.names then 0 else 5
theorem Ek {H:Hp}{o t D w:Nat}{A:AV}{sl:List (Zm×Nat)}{tm:Tmp}(h:TmAt H o t D w A sl tm)(hk:TmpOk tm)(n:Zm):Xd [.ptr o 0,.str n] H=some (xO J (YG tm n),H):=by
 have j:=ZS h.cells 6 (v:=.bool tm.closed) rfl;have z:=ZS h.cells 2 (v:=A) rfl;have B:=hk.len;have C:=hk.last;have g:=Zah h.names.ss (by omega) n H;rw[LR];unfold FF YG
 cases y:tm.closed with
 |true =>
  rw[y]at j;simp only[go_sem,zD,j,if_true]
 |false =>
  rw[y]at j;by_cases u:n∈tm.names
  ·rw[decide_eq_true u]at g;simp only[go_sem,zD,j,z,g,yE,Lo,if_pos u,zZ,if_false]
  ·rw[decide_eq_false u]at g;simp only[go_sem,zD,j,z,g,yB,if_neg u,zZ,if_false]
def W6 (o:Zm):Zm:=[46,116,109,112,46]++o++[46]
def Ja (o:Zm)(n:Nat):Zm:=W6 o++Go.Lib.itoa (n:Int)
def CT (tm:Tmp)(s:Sto):(Zm×Int)×(Tmp×Sto) :=
 if tm.closed then (([],8),(tm,s)) else match s.create (Ja tm.owner (tm.last+1)) with
 |(e,s')=>if e=0 then ((Ja tm.owner (tm.last+1),0),({ tm with last:=tm.last+1,names:=tm.names++[Ja tm.owner (tm.last+1)] },s')) else (([],e),(tm,s'))
theorem NmAt.app {H:Hp}{x:AV}{l:List Zm}(h:NmAt H x l)(n:Zm)(A:l.length<=1048576) :
 ∃ g H',Y7 1 16 x (.vs 1 .clip [.str n]) H=some (g,H')/\NmAt H' g (l++[n])/\Stp (ZI x) H H'/\(∀ a∈ZI g,a∈ZI x\/a=H.length)/\g.cells=[g]/\g.known=true/\(ZI g).Nodup:=by
 unfold Y7;have z:Go.Am.elems 1 (.vs 1 .clip [.str n]) H=some [.str n]:=rfl;rw[z];have j:X9 ((l.map xB).length+[xB n].length) 16=true:=by simp[X9];omega
 have u:X9 [xB n].length 16=true:=rfl;rcases h with ⟨rfl,rfl⟩|⟨t,e,rfl,y⟩
 ·refine⟨.vs 1 (.own H.length 1) [.str n],H++[.tok 1],?_,.inr ⟨H.length,1,rfl,by simp⟩,Stp.push _ _,fun a w=>.inr (zH.1 w),rfl,rfl,by simp[ZI]⟩;simp only[YL,u,if_true];rw[if_neg (by simp)];rfl
 ·refine⟨.vs 1 (.own t (e+1)) (l.map xB++[.str n]),H.set t (.tok (e+1)),?_,.inr ⟨t,e+1,by simp,Zs _ y⟩,Stp.set _ _ (by simp[ZI]),fun a w=>.inl (by simpa[ZI]using w),rfl,rfl,by simp[ZI]⟩;simp only[YL,j,and_self,if_true,y];rw[if_neg (by simp)];rfl
theorem ZuK (n:Nat)(g:n<=9223372036854775807)(H:Hp):Zf LB [xO J (n:Int)] H=some (.str (Go.Lib.itoa (n:Int)),H):=by
 refine XI (a':=xO J (n:Int)) rfl (H1:=[]) ?_ rfl
 have:OS ZdG [xO J (n:Int)] []=some (.str (Go.Lib.itoa (n:Int)),[]):=by
  unfold OS ZdG;dsimp only;rw[if_pos (by omega)]
 rw[Zg9];unfold Zbv;simp only[this,go_sem]
theorem ZhB (o:Zm)(g:o.length<=1048576)(H:Hp):Zf Qz [.str o] H=some (.str (W6 o),H):=by
 refine XI (a':=.str o) rfl (H1:=[]) ?_ rfl;rw[Iu];unfold Mg;rw[ED (by simp;omega)];simp only[go_sem];rw[ED (by simp;omega)];rfl
abbrev tmC (t g:Nat)(h:AV)(tm:Tmp):List AV:=[.ptr t 0,.str tm.owner,h,.map g,xO J (tm.limit:Int),xO J (tm.last:Int),.bool tm.closed]
theorem ZwJ (o:Zm)(n:Nat)(j:o.length<=16)(h:n<=1000001):(Ja o n).length<=1048576/\(W6 o).length+(Go.Lib.itoa (n:Int)).length<=1048576:=by
 have:=Go.Lib.itoa_length_le (n:Int) (by omega) (by omega);have g:(W6 o).length=o.length+6:=by simp[W6]
 refine⟨?_,by omega⟩;unfold Ja;rw[zQ];omega
theorem ZkB {H:Hp}{o t:Nat}{tm:Tmp}{s:Sto}{A:List Nat}(h:SysAt H o t tm s A)(hm:TmpOk tm)(hk:StoOk s)(hl:tm.last<1000000) :
 ∃ H' A',VL [.ptr o 0] H=some (.tuple [.str (CT tm s).1.1,xO J (CT tm s).1.2],H')/\SysRes H H' o t (CT tm s).2.1 (CT tm s).2.2 A A':=by
 have aa:=h;obtain⟨B,S,y,h2,h3,rfl⟩:=h;have hB:=y;obtain⟨u,ab,w,sl,y,rfl⟩:=y;have l6:=ZS y.cells 6 (v:=.bool tm.closed) rfl;have l0:=ZS y.cells 0 (v:=.ptr t 0) rfl;have l1:=ZS y.cells 1 (v:=.str tm.owner) rfl;have l5:=ZS y.cells 5 (v:=xO J (tm.last:Int)) rfl;have ho:=hm.owner;have hw:xN.wrap ((tm.last:Int)+1)=((tm.last+1:Nat):Int):=by rw[Zr (by omega) (by omega)];omega
 obtain⟨n1,n2⟩:=ZwJ tm.owner (tm.last+1) ho (by omega);have L:=ZhB tm.owner (by omega) H;have W:=ZuK (tm.last+1) (by omega) H;have F:Yr .add (.str (W6 tm.owner)) (.str (Go.Lib.itoa ((tm.last+1:Nat):Int)))=some (.str (Ja tm.owner (tm.last+1))):=by rw[ED (by omega)];rfl
 have K:Yy (.pointer 82) .eql (.ptr t 0) .nilp=some (.bool false):=rfl;obtain⟨H1,S1,p1,C⟩:=Zoo h2 hk (Ja tm.owner (tm.last+1)) n1;rw[Si];unfold R5 CT
 cases hc:tm.closed with
 |true =>
  rw[hc]at l6;rw[if_pos rfl];exact⟨H,_,by simp only[go_sem,zD,Uo,l6],aa.self⟩
 |false =>
  rw[hc]at l6;rw[if_neg (by simp)]
  cases ad:s.create (Ja tm.owner (tm.last+1)) with
  |mk e s' =>
  rw[ad]at p1 C;simp only at p1 C ⊢;by_cases he:e=0
  ·subst he;rw[if_pos rfl];have O:((0:Int) != 0)=false:=rfl;have M:=y.frame (H':=H1) fun a g=>C.stp.at' a (y.lt a g) (h3 a g);have k5:=ZS M.cells 5 (v:=xO J (tm.last:Int)) rfl;have s5:=Um M.cells 5 (v:=xO J ((tm.last+1:Nat):Int)) rfl rfl (by simp);have g1:=Zs (zJ (zO (tmC t u w tm) 5 (xO J ((tm.last+1:Nat):Int)))) M.cells;have k2:=ZS g1 2 (v:=w) rfl;have Z:=y.nd;rw[zE,zE]at Z;obtain⟨d1,d2,d3⟩:=Z;have R:∀ a∈ZI w,a≠o:=fun a g e=>d1 (by rw[<-e];simp[g]);have Y:∀ a∈ZI w,a≠u:=fun a g e=>d2 (by rw[<-e];exact g);have Q:o≠u:=fun e=>d1 (by rw[e];simp);generalize D:H1.set o (.cells (zO (tmC t u w tm) 5 (xO J ((tm.last+1:Nat):Int))))=H2 at s5 g1 k2;have N:H2.length=H1.length:=by rw[<-D];simp
   have ac:NmAt H2 w tm.names:=M.names.frame fun a g=>by rw[<-D];exact zC (fun e=>R a g e.symm)
   have af:=hm.len;obtain⟨U,H3,q1,q2,q3,q4,q5,q6,q7⟩:=ac.app (Ja tm.owner (tm.last+1)) (by omega);have g2:H3[o]?=some (.cells (zO (tmC t u w tm) 5 (xO J ((tm.last+1:Nat):Int)))):=q3.get g1 fun g=>R o g rfl;have s2:=Um g2 2 (v:=U) q5 q6 (by simp);generalize E:H3.set o (.cells (zO (zO (tmC t u w tm) 5 (xO J ((tm.last+1:Nat):Int))) 2 U))=H4 at s2;have ae:o<H1.length:=Zh M.cells;have X:u<H1.length:=Zh M.map
   have T:∀ a∈ZI U,a≠o/\a≠u:=fun a g=>by
    rcases q4 a g with k|k
    ·exact⟨R a k,Y a k⟩
    ·omega
   have V:Stp (o::u::ZI w) H1 H4:=by
    have e1:Stp (o::u::ZI w) H1 H2:=by rw[<-D];exact Stp.set _ _ (by simp)
    have e3:Stp (o::u::ZI w) H3 H4:=by rw[<-E];exact Stp.set _ _ (by simp)
    exact (e1.trans (q3.mono (B:=o::u::ZI w) fun a g=>by simp[g]) (fun _ h=>h) fun _ h=>.inl h).trans e3 (fun _ h=>h) fun _ h=>.inl h
   refine⟨H4,(o::u::ZI U)++S1,?_,⟨⟨o::u::ZI U,S1,⟨u,ab,U,sl,⟨?_,?_,?_,y.sld,?_⟩,rfl⟩,?_,?_,rfl⟩,?_,?_⟩⟩
   ·simp only[go_sem,zD,Uo,l6,l0,K,GA,l1,L,l5,hw,W,F,p1,O,Sb,k5,s5,k2,FL,q1,s2]
   ·rw[<-E];refine (Zs _ g2).trans ?_;simp only[tmC,hc];rfl
   ·exact q2.frame fun a g=>by rw[<-E];exact zC (fun e=>(T a g).1 e.symm)
   ·rw[<-E,zC Q,q3.at' u (by rw[N];exact X) (fun g=>Y u g rfl),<-D,zC Q];exact M.map
   ·rw[zE,zE];refine⟨fun g=>?_,fun g=>(T u g).2 rfl,q7⟩;rcases zF.1 g with e|g
    ·exact Q e
    ·exact (T o g).1 rfl
   ·refine C.at'.stp V fun a g hb=>?_;rcases C.own a g with k|k
    ·exact h3 a hb k
    ·have:=y.lt a hb;omega
   ·intro a g hs
    have z:a∈o::u::ZI w->False:=fun k=>by
     rcases C.own a hs with j|j
     ·exact h3 a k j
     ·have:=y.lt a k;omega
    rcases zF.1 g with e|g
    ·exact z (by rw[e];simp)
    rcases zF.1 g with e|g
    ·exact z (by rw[e];simp)
    rcases q4 a g with k|k
    ·exact z (by simp[k])
    ·have:=C.at'.lt a hs;omega
   ·refine (C.stp.mono (B:=(o::u::ZI w)++S) fun a g=>by simp[g]).trans V (fun _ h=>h) fun a g=>.inl (yJ _ g)
   ·intro a g;rcases zM.1 g with g|g
    ·rcases zF.1 g with e|g
     ·exact .inl (by rw[e];simp)
     rcases zF.1 g with e|g
     ·exact .inl (by rw[e];simp)
     rcases q4 a g with k|k
     ·exact .inl (by simp[k])
     ·exact .inr (by have:=C.stp.len;omega)
    ·rcases C.own a g with k|k
     ·exact .inl (by simp[k])
     ·exact .inr k
  ·rw[if_neg he];have O:(e != 0)=true:=by simpa using he
   exact⟨H1,_,by simp only[go_sem,zD,Uo,l6,l0,K,GA,l1,L,l5,hw,W,F,p1,O],SysAt.store hB h3 C⟩
def Zfo (l:List Zm)(n:Zm):List Zm:=if n∈l then l else l++[n]
def Sd (tm:Tmp)(s:Sto)(n:Zm):Int×(Tmp×Sto) :=
 if YG tm n≠0 then (YG tm n,(tm,s)) else if (s.sync n).1≠0 then ((s.sync n).1,(tm,(s.sync n).2)) else (0,({ tm with sld:=Zfo tm.sld n },(s.sync n).2))
theorem Zfz:∀ (sl:List (Zm×Nat)) (n:Zm) (i:Nat),(n∉sl.map (·.1)/\YQ (.str n) (sl.map VO) i=some none)\/∃ a p b,sl=a++p::b/\p.1=n/\n∈sl.map (·.1)/\YQ (.str n) (sl.map VO) i=some (some (i+a.length,.bool true)):=by
 intro sl n
 induction sl with
 |nil=>intro i;exact .inl ⟨by simp,rfl⟩
 |cons p sl A =>
  intro i;have j:J4 (.str n) (VO p).1=some (n==p.1):=rfl;by_cases h:n=p.1
  ·refine .inr ⟨[],p,sl,rfl,h.symm,by simp[h],?_⟩;rw[zG,YQ,j,show (n==p.1)=true by simpa using h];rfl
  ·have g:YQ (.str n) ((p::sl).map VO) i=YQ (.str n) (sl.map VO) (i+1):=by
    rw[zG,YQ,j,show (n==p.1)=false by simpa using h]
   rw[g];rcases A (i+1) with ⟨u,w⟩|⟨a,q,b,u,w,y,z⟩
   ·exact .inl ⟨by simp[h]at u ⊢;exact u,w⟩
   ·refine .inr ⟨p::a,q,b,by rw[u];rfl,w,by rw[zG];exact yI _ y,?_⟩;rw[z];simp only[yC];congr 3;omega
theorem Zvq {α:Type}(a:List α)(d:α)(b:List α):(a++d::b).set a.length d=a++d::b:=by
 induction a with
 |nil=>rfl
 |cons x a g=>simp only[zY,yC,List.set_cons_succ,g]
theorem Zvo {H:Hp}{A g:Nat}{sl:List (Zm×Nat)}(h:H[A]?=some (.map (sl.map VO) g))(n:Zm) :
 ∃ (u:List (Zm×Nat)) (j:Nat),Xq .string (.map A) (.str n) (.bool true) H=some (.tuple [],H.set A (.map (u.map VO) j))/\u.map (·.1)=Zfo (sl.map (·.1)) n:=by
 have z:Wf .string (.str n)=true:=rfl;unfold Xq;dsimp only;rw[h];dsimp only;rw[if_pos z];rcases Zfz sl n 0 with ⟨w,y⟩|⟨a,p,b,w,y,D,E⟩
 ·refine⟨sl++[(n,g)],g+1,?_,?_⟩
  ·rw[y];simp[VO]
  ·unfold Zfo;rw[if_neg w];simp
 ·refine⟨sl,g,?_,?_⟩
  ·rw[E];dsimp only;have B:(sl.map VO).getD (0+a.length) (.undef,.undef,0)=VO p:=by rw[w,yM,zN,zG,zI (by simp)];simp
   have C:(sl.map VO).set (0+a.length) (.str n,.bool true,(VO p).2.2)=sl.map VO:=by
    have:((.str n,.bool true,(VO p).2.2):AV×AV×Nat)=VO p:=by rw[<-y];rfl
    rw[this,w,zD,zN,zG,show a.length=(a.map VO).length by simp,Zvq]
   rw[B,C]
  ·unfold Zfo;rw[if_pos D]
theorem Zkz {H:Hp}{o t:Nat}{tm:Tmp}{s:Sto}{A:List Nat}(h:SysAt H o t tm s A)(hm:TmpOk tm)(hk:StoOk s)(n:Zm) :
 ∃ H' A',Vq [.ptr o 0,.str n] H=some (xO J (Sd tm s n).1,H')/\SysRes H H' o t (Sd tm s n).2.1 (Sd tm s n).2.2 A A':=by
 have N:=h;obtain⟨B,S,u,h2,O,rfl⟩:=h;have hB:=u;obtain⟨y,Z,F,sl,u,rfl⟩:=u;have R:=Ek u hm n;have X:=ZS u.cells 0 (v:=.ptr t 0) rfl;obtain⟨H1,V,Y,D⟩:=Ztn h2 hk.count n;rw[LO];unfold FC Sd;by_cases z:YG tm n=0
 ·have e0:(YG tm n != 0)=false:=by rw[z];rfl
  rw[if_neg (by simp[z])];by_cases C:(s.sync n).1=0
  ·have Q:((s.sync n).1 != 0)=false:=by rw[C];rfl
   rw[if_neg (by simp[C])];have L:=u.frame (H':=H1) fun a g=>D.stp.at' a (u.lt a g) (O a g);have k3:=ZS L.cells 3 (v:=.map y) rfl;obtain⟨E,w,q1,q2⟩:=Zvo L.map n;have M:=u.nd;rw[zE,zE]at M;obtain⟨d1,d2,d3⟩:=M;have U:o≠y:=fun e=>d1 (by rw[e];simp);have T:∀ a∈ZI F,a≠y:=fun a g e=>d2 (by rw[<-e];exact g);have K:Stp (o::y::ZI F) H1 (H1.set y (.map (E.map VO) w)):=Stp.set _ _ (by simp);refine⟨H1.set y (.map (E.map VO) w),(o::y::ZI F)++V,?_,⟨⟨o::y::ZI F,V,⟨y,w,F,E,⟨?_,?_,?_,?_,u.nd⟩,rfl⟩,?_,?_,rfl⟩,?_,?_⟩⟩
   ·simp only[R,go_sem,e0,zD,G5,X,Y,Q,Lm,k3,q1]
   ·rw[zC U.symm];exact L.cells
   ·exact L.names.frame fun a g=>zC (fun e=>T a g e.symm)
   ·exact Zs _ L.map
   ·rw[q2,u.sld]
   ·refine D.at'.stp K fun a g W=>?_;rcases D.own a g with k|k
    ·exact O a W k
    ·have:=u.lt a W;omega
   ·intro a g hs;rcases D.own a hs with j|j
    ·exact O a g j
    ·have:=u.lt a g;omega
   ·refine (D.stp.mono (B:=(o::y::ZI F)++S) fun a g=>by simp[g]).trans K (fun _ h=>h) fun a g=>.inl (yJ _ g)
   ·intro a g;rcases zM.1 g with g|g
    ·exact .inl (yJ _ g)
    ·rcases D.own a g with k|k
     ·exact .inl (by simp[k])
     ·exact .inr k
  ·have Q:((s.sync n).1 != 0)=true:=by simpa using C
   rw[if_pos C];exact⟨H1,_,by simp only[R,go_sem,e0,zD,G5,X,Y,Q],SysAt.store hB O D⟩
 ·have e0:(YG tm n != 0)=true:=by simpa using z
  rw[if_pos z];exact⟨H,_,by simp only[R,go_sem,e0],N.self⟩
def X3 (nm:List Zm):List Fil->Nat
 |[]=>0
 |f::r=>(if f.name∈nm then f.text.length else 0)+X3 nm r
theorem Zg1 (nm:List Zm)(l:List Fil):X3 nm l<=Zv l:=by
 induction l with
 |nil=>exact zL _
 |cons f l g=>simp only[X3,Zv];split <;> omega
theorem Ztd (nm:List Zm)(a b:List Fil):X3 nm (a++b)=X3 nm a+X3 nm b:=by
 induction a with
 |nil=>simp[X3]
 |cons f a g=>simp only[zY,X3,g];omega
theorem ZqA (nm:List Zm){a b:List Fil}(h:a.Perm b):X3 nm a=X3 nm b:=by
 induction h with
 |nil=>rfl
 |cons x _ u=>simp only[X3,u]
 |swap x y l=>simp only[X3];omega
 |trans _ _ g j=>rw[g,j]
theorem ZrV {l:List Fil}(h:(l.map Fil.name).Nodup):(l.map Fil.name).filterMap (ZQ l)=l:=by
 have key:∀ (r l:List Fil),(l.map Fil.name).Nodup->(∀ f∈r,f∈l)->(r.map Fil.name).filterMap (ZQ l)=r:=by
  intro r l w
  have u:∀ f∈l,ZQ l f.name=some f:=by
   clear r
   induction l with
   |nil=>intro f j;cases j
   |cons g l z =>
    intro f j;rw[zG,zE]at w;unfold ZQ;rcases zF.1 j with e|j
    ·rw[e,if_pos rfl]
    ·have y:¬ f.name=g.name:=fun e=>w.1 (by rw[<-e];exact yL.2 ⟨f,j,rfl⟩);rw[if_neg y];exact z w.2 f j
  induction r with
  |nil=>intro _;rfl
  |cons f r z =>
   intro h;rw[zG,List.filterMap_cons,u f (h f (by simp)),z fun g u=>h g (by simp[u])]
 exact key l l h fun _ h=>h
theorem ZpN {l:List Fil}(h:(l.map Fil.name).Nodup):(VP l).Perm l:=by
 unfold VP;have:=(JP (l.map Fil.name)).filterMap (ZQ l)
 rwa [ZrV h]at this
def VK (tm:Tmp)(s:Sto):Nat:=X3 tm.names s.files
theorem ZlI (x:Fil)(H:Hp):Z3 true 3 (.vp (Yh x).cells) H=some (Yh x):=rfl
theorem ZoW {u:Hp}{o t V y:Nat}{L:AV}{sl:List (Zm×Nat)}{tm:Tmp}(h:TmAt u o t V y L sl tm)(hm:TmpOk tm){x:AV}{fs:List Fil}(hx:Sl 3 x (fs.map Yh))(hl:fs.length<=64)(hu:Zv fs<=262144)(Y:Hp):∀ (r d:List Fil) (H:Hp),fs=d++r->Keep u.length u H->u.length<=H.length ->
 ∃ H',WT (.ptr o 0) (xO J (X3 tm.names d:Int)) x (xO J (fs.length:Int)) (xO J (d.length:Int)) Y H=some (xO J (X3 tm.names fs:Int),H')/\Keep u.length u H'/\u.length<=H'.length:=by
 have aa:=hm.len;have ab:=hm.last;intro r
 induction r with
 |nil =>
  intro d H A F g;rw[zT]at A;subst A;have B:decide ((fs.length:Int)<(fs.length:Int))=false:=by simp
  rw[Ko];simp only[go_sem,B,M6];exact⟨_,rfl,F,g⟩
 |cons f r ih =>
  intro d H A F g;have S:fs.length=d.length+(r.length+1):=by rw[A];simp
  have B:decide ((d.length:Int)<(fs.length:Int))=true:=by simp;omega
  have E:xN.wrap ((d.length:Int)+1)=((d.length+1:Nat):Int):=by rw[Zr (by omega) (by omega)];omega
  have R:fs[d.length]?=some f:=by rw[A,zI (zL _)];simp
  have D:Zo 3 x (xO J (d.length:Int))=some (.vp (Yh f).cells):=Sl.idx hx (c:=Yh f) (by simp[R]);have z:TmAt H o t V y L sl tm:=h.frame fun a O=>F a (h.lt a O);have X:=Zh z.cells;have Q:(H++[zJ [.str [],xO J 0,xO J 0]])[H.length]?=some (.cells [.str [],xO J 0,xO J 0]):=by simp
  have T:Zb 3 (.ptr H.length 0) (Yh f) (H++[zJ [.str [],xO J 0,xO J 0]])=some (.tuple [],H++[zJ (Yh f).cells]):=by
   rw[WG (v:=Yh f) (sz:=3) Q rfl rfl (by simp)];simp[splice,Yh,AV.cells]
  have W:(H++[zJ (Yh f).cells])[H.length]?=some (.cells (Yh f).cells):=by simp
  have w:TmAt (H++[zJ (Yh f).cells]) o t V y L sl tm:=z.frame fun a O=>yD (z.lt a O);have l2:=ZS w.cells 2 (v:=L) rfl;have m0:=ZS W 0 (v:=.str f.name) rfl;have m1:=ZS W 1 (v:=xO J (f.text.length:Int)) rfl;have C:=Zah w.names.ss (by omega) f.name (H++[zJ (Yh f).cells]);have N:Keep u.length u (H++[zJ (Yh f).cells]):=F.trans (Keep.push H g _);have j:X3 tm.names (d++[f])=X3 tm.names d+(if f.name∈tm.names then f.text.length else 0):=by rw[Ztd];simp[X3]
  have ac:=Zg1 tm.names (d++[f])
  have ad:Zv (d++[f])<=Zv fs:=by
   rw[A,XJ,XJ];simp only[Zv];omega
  obtain⟨H',M,p2,p3⟩:=ih (d++[f]) (H++[zJ (Yh f).cells]) (by rw[A];simp) N (by simp;omega);rw[zQ,zP]at M;refine⟨H',?_,p2,p3⟩;rw[Ko];simp only[go_sem,B,M7,D,ZlI,T,zD,l2,m0,C];by_cases K:f.name∈tm.names
  ·rw[if_pos K]at j;have U:xN.wrap ((X3 tm.names d:Int)+(f.text.length:Int))=(X3 tm.names (d++[f]):Int):=by rw[Zr (by omega) (by omega)];omega
   have Z:(Yh f).cells[1]?=some (xO J (f.text.length:Int)):=rfl;simp only[decide_eq_true K,go_sem,zD,m1,Z,U,Km,E];exact M
  ·rw[if_neg K,xL]at j;rw[j]at M;simp only[decide_eq_false K,go_sem,Km,E];exact M
theorem ZkS {H:Hp}{o t M u:Nat}{N:AV}{sl:List (Zm×Nat)}{tm:Tmp}{s:Sto}{S:List Nat}(h:TmAt H o t M u N sl tm)(F:StoreAt H t s S)(hm:TmpOk tm)(hk:StoOk s) :
 G1 XN [.ptr o 0] H=some (xO J (VK tm s:Int),H):=by
 obtain⟨x,T,D⟩:=Zij F hk;have L:=ZS h.cells 0 (v:=.ptr t 0) rfl;have z:=ZpN hk.nd;have g:(VP s.files).length<=64:=by rw[z.length_eq];exact hk.len
 have A:Zv (VP s.files)<=262144:=by
  have E:∀ {a b:List Fil},a.Perm b->Zv a=Zv b:=fun {a b} h=>by
   induction h with
   |nil=>rfl
   |cons x _ K=>simp only[Zv,K]
   |swap x y l=>simp only[Zv];omega
   |trans _ _ B C=>rw[B,C]
  rw[E z];have:=hk.used;have:=hk.limit;omega
 have w:Zk (.slice 108) x=some (xO J ((VP s.files).length:Int)):=by
  have:=Sl.len D 108
  rwa [yA]at this
 obtain⟨H',O,Q,R⟩:=ZoW h hm D g A H _ [] H rfl (Keep.refl _ _) (zL _)
 have j:XN [.ptr o 0] H=some (xO J (X3 tm.names (VP s.files):Int),H'):=by
  rw[MO];unfold Dk;simp only[go_sem,zD,L,T,w];exact O
 have:=Ez j Q R (v':=xO J (X3 tm.names (VP s.files):Int)) rfl
 rwa [ZqA tm.names z]at this
theorem ZvZ {H:Hp}{o t:Nat}{tm:Tmp}{s:Sto}{A:List Nat}(h:SysAt H o t tm s A)(hm:TmpOk tm)(hk:StoOk s) :
 G1 QU [.ptr o 0] H=some (xO J (if tm.closed then 0 else (VK tm s:Int)),H):=by
 obtain⟨B,S,⟨E,y,F,sl,u,rfl⟩,z,D,rfl⟩:=h;have j:=ZS u.cells 6 (v:=.bool tm.closed) rfl;have C:=ZS u.cells 0 (v:=.ptr t 0) rfl;have g:Yy (.pointer 82) .eql (.ptr t 0) .nilp=some (.bool false):=rfl;refine Ez (H1:=H) (v:=xO J (if tm.closed then 0 else (VK tm s:Int))) ?_ (Keep.refl _ _) (zL _) rfl;rw[LQ];unfold FE
 cases w:tm.closed with
 |true =>
  rw[w]at j;simp only[go_sem,zD,j,if_true]
 |false =>
  rw[w]at j;simp only[go_sem,zD,j,C,g,Ln,ZkS u z hm hk,zZ,if_false]
def Lt (tm:Tmp)(s:Sto)(n:Zm)(l:List Zm):Int×Sto :=
 if YG tm n≠0 then (YG tm n,s) else if n∈tm.sld then (8,s) else if YR l=false then (3,s) else
  if (tm.limit:Int)-(VK tm s:Int)<(Y8 l:Int) then (11,s) else s.append n (ZY l)
theorem ZnK {H:Hp}{u g:Nat}{sl:List (Zm×Nat)}(h:H[u]?=some (.map (sl.map VO) g))(n:Zm):Y9 .string (.bool false) false (.map u) (.str n) H=some (.bool (decide (n∈sl.map (·.1)))):=by
 have B:Xe (.map u) H=some (sl.map VO):=by unfold Xe;dsimp only;rw[h]
 have j:Wf .string (.str n)=true:=rfl;unfold Y9;rw[if_pos j,B];dsimp only;rcases Zfz sl n 0 with ⟨w,y⟩|⟨a,p,b,w,y,z,A⟩
 ·rw[y,decide_eq_false w];rfl
 ·rw[A,decide_eq_true z];rfl
theorem Zj0 {H:Hp}{o t:Nat}{tm:Tmp}{s:Sto}{A:List Nat}(h:SysAt H o t tm s A)(hm:TmpOk tm)(hk:StoOk s)(n:Zm){x:AV}{l:List Zm}(Y:SS x l)(W:∀ s∈l,s.length<=1048576)(hl:Y8 l<=1048576) :
 ∃ H' A',V8 [.ptr o 0,.str n,x] H=some (xO J (Lt tm s n l).1,H')/\SysRes H H' o t tm (Lt tm s n l).2 A A':=by
 have u:=h;obtain⟨B,S,w,N,U,rfl⟩:=h;have V:=w;obtain⟨ms,R,nx,sl,w,rfl⟩:=w;have D:=Ek w hm n;have Z:=ZS w.cells 0 (v:=.ptr t 0) rfl;have K:=ZS w.cells 3 (v:=.map ms) rfl;have Q:=ZS w.cells 4 (v:=xO J (tm.limit:Int)) rfl;have j:=ZnK w.map n;rw[w.sld]at j;have g:=Zug Y W (by omega) H;have C:=ZkS w N hm hk
 have X:VK tm s<=262144:=by
  have:=Zg1 tm.names s.files;have:=hk.used;have:=hk.limit;unfold VK;omega
 have O:=hm.limit;have hw:xN.wrap ((tm.limit:Int)-(VK tm s:Int))=(tm.limit:Int)-(VK tm s:Int):=Zr (by omega) (by omega);rw[MN];unfold Dj Lt;by_cases y:YG tm n=0
 ·have e0:(YG tm n != 0)=false:=by rw[y];rfl
  rw[if_neg (by simp[y])];by_cases z:n∈tm.sld
  ·rw[if_pos z];rw[decide_eq_true z]at j;exact⟨H,_,by simp only[D,go_sem,e0,zD,W3,K,j],u.self⟩
  ·rw[if_neg z];rw[decide_eq_false z]at j
   cases E:YR l with
   |false =>
    have T:((3:Int) != 0)=true:=rfl;rw[E,if_neg (by simp)]at g;rw[if_pos rfl];exact⟨H,_,by simp only[D,go_sem,e0,zD,W3,K,j,VF,g,zA,zB,T],u.self⟩
   |true =>
    have M:((0:Int) != 0)=false:=rfl;rw[E,if_pos rfl]at g;rw[if_neg (by simp)];by_cases F:(tm.limit:Int)-(VK tm s:Int)<(Y8 l:Int)
    ·rw[if_pos F];have L:decide ((tm.limit:Int)-(VK tm s:Int)<((ZY l).length:Int))=true:=by rw[Qp];exact decide_eq_true F
     exact⟨H,_,by simp only[D,go_sem,e0,zD,W3,K,j,VF,g,zA,zB,M,Kk,Q,C,hw,L],u.self⟩
    ·rw[if_neg F];have L:decide ((tm.limit:Int)-(VK tm s:Int)<((ZY l).length:Int))=false:=by rw[Qp];exact decide_eq_false F
     obtain⟨H1,S1,p1,p2⟩:=Zok N hk n (ZY l) (by rw[Qp];omega);exact⟨H1,_,by simp only[D,go_sem,e0,zD,W3,K,j,VF,g,zA,zB,M,Kk,Q,C,hw,L,M5,Z,p1],SysAt.store V U p2⟩
 ·have e0:(YG tm n != 0)=true:=by simpa using y
  rw[if_pos y];exact⟨H,_,by simp only[D,go_sem,e0],u.self⟩
end Go.Am
