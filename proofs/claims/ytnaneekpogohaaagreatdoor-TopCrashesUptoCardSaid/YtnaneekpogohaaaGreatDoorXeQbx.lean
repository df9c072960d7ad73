/- Lists of lists of strings -/
import Derived.Test.YtnaneekpogohaaaGreatDoorXeMzx
import Derived.Test.YtnaneekpogohaaaGreatDoorXeSax
import Derived.Test.YtnaneekpogohaaaGreatDoorXeGSx
import Derived.Test.YtnaneekpogohaaaGreatDoorXeEx
import Derived.Lib.ItoaLen
open Go.Am.AV renaming int->J
open Go.IntKind renaming i64->xO
open Go.IntKind renaming i64->xN
open List renaming getElem?_cons_zero->zA,getElem?_cons_succ->zB,getElem?_set_ne->zC,nodup_cons->zE,mem_cons->zF,map_cons->zG,mem_singleton->zH,getElem?_append_right->zI,flatMap_append->zK,mem_append->zM,map_append->zN,set->zO,length_singleton->zP,length_append->zQ,nodup_append->zS,append_nil->zT,flatMap_cons->zU,take_of_length_le->zV,cons_append->zY,length_map->yA,length_cons->yC,getElem?_append_left->yD,getElem?_eq_getElem->yF,all_eq_true->yH,mem_cons_of_mem->yI,mem_append_left->yJ,take_append_of_le_length->yK,mem_map->yL,getD_eq_getElem?_getD->yM,getElem?_eq_some_iff->yN,flatten_cons->yO,append_assoc->yP,flatten_nil->yQ,nil_append->yR,getElem?_eq_none->yU,map_nil->yX,isEmpty_cons->yZ,mem_flatMap->xC,length_nil->xD,tail_cons->xE,mapM_cons->xF,drop_one->xH,all_cons->xI,map_map->xK,range->xM
open Nat renaming zero_add->zD,le_refl->zL,mul_one->yT,le_trans->xJ,add_zero->xL
open Bool renaming and_eq_true->zX,false_eq_true->zZ,not_false->yB,not_true->yE,true_and->yG,false_and->yV
open Int renaming toNat_natCast->zW
open UInt8 renaming ofNat->zR,ofNat_toNat->yY
open Go.Am.AObj renaming cells->zJ,bld->yS
open Go.Am.AV renaming str->xB,int->xG
open List.Sublist renaming nodup->yW,refl->xA
namespace Go.Am
set_option linter.unusedSectionVars false
set_option maxRecDepth 100000
theorem SS.cell {e:AV}{l:List Zl}(h:SS e l):e.cells=[e]/\e.known=true:=by
 rcases h with ⟨rfl,_⟩|⟨t,rfl⟩ <;> exact⟨rfl,rfl⟩
structure EE (es:List AV)(ls:List (List Zl)):Prop where
 len:es.length=ls.length
 at':∀ (i:Nat) (l:List Zl),ls[i]?=some l->∃ e,es[i]?=some e/\SS e l
theorem EE.nil:EE [] []:=⟨rfl,fun i l h=>by simp at h⟩
theorem EE.app {w:List AV}{g:List (List Zl)}(h:EE w g){e:AV}{l:List Zl}(z:SS e l):EE (w++[e]) (g++[l]):=by
 refine⟨by simp[h.len],fun j m hm=>?_⟩;by_cases y:j<g.length
 ·rw[yD y]at hm;rw[yD (by rw[h.len];exact y)];exact h.at' j m hm
 ·have u:=(yN.1 hm).1;have:j=g.length:=by simp at u;omega
  subst this;rw[zI (zL _)]at hm;simp at hm;subst hm;exact⟨e,by rw[zI (by rw[h.len];exact zL _),h.len];simp,z⟩
def Rst (o:Nat)(H:Hp)(x:AV)(g:List (List Zl)):Prop :=
 g=[]/\(x=.nils\/x=.vs 1 .clip [])\/∃ e h,x=.ws false 1 o e g.length/\H[o]?=some (.row e h)/\EE h g
theorem Zpo {o e i:Nat}{H:Hp}{g:List AV}{a:AV}(h:H[o]?=some (.row e g))(j:g[i]?=some a):Z3 false 1 (.wp o e (i*1)) H=some a:=by
 simp[Z3,h,Go.Am.apart,j]
theorem Zpj {l:List AV}{i:Nat}{a:AV}(h:i<l.length):splice l (i*1) [a]=l.set i a:=by
 unfold splice;rw[yT,List.set_eq_take_append_cons_drop,if_pos h];simp
theorem ZwP {o e i:Nat}{H:Hp}{g:List AV}{a:AV}(h:H[o]?=some (.row e g))(j:a.cells=[a]/\a.known=true)(hi:i<g.length):Za 1 (.wp o e (i*1)) a H=some (.tuple [],H.set o (.row e (g.set i a))):=by
 unfold Za YX;simp only[h];rw[if_pos ⟨trivial,j.2,by rw[j.1];rfl,by omega⟩,j.1,Zpj hi]
theorem ZnG {o e n i:Nat}(h:i<n):Zo 1 (.ws false 1 o e n) (J xO (i:Int))=some (.wp o e (i*1)):=by
 unfold Zo;dsimp only;rw[if_pos (by omega)];rfl
theorem ZfV:∀ l:List AV,UJ false 1 l.length l=l:=by
 intro l
 induction l with
 |nil=>rfl
 |cons a l g=>simp only[yC,UJ];rw[xH,xE,g];rfl
def LL (H:Hp)(x:AV)(h:List (List Zl)):Prop :=
 h=[]/\(x=.nils\/x=.vs 1 .clip [])\/(∃ t g,x=.vs 1 t g/\EE g h)\/∃ o e g,x=.ws false 1 o e h.length/\H[o]?=some (.row e g)/\EE g h
theorem Rst.ll {o:Nat}{H:Hp}{x:AV}{g:List (List Zl)}(h:Rst o H x g):LL H x g:=by
 rcases h with h|⟨e,j,u,y,w⟩
 ·exact .inl h
 ·exact .inr (.inr ⟨o,e,j,u,y,w⟩)
theorem LL.len {H:Hp}{x:AV}{u:List (List Zl)}(h:LL H x u)(e:Nat):Zk (.slice e) x=some (J xO (u.length:Int)):=by
 rcases h with ⟨rfl,rfl|rfl⟩|⟨t,g,rfl,j⟩|⟨o,e,g,rfl,w,j⟩
 ·rfl
 ·rfl
 ·show some (xG .i64 (g.length:Int))=_;rw[j.len]
 ·rfl
theorem LL.get {H:Hp}{x:AV}{w:List (List Zl)}(h:LL H x w){i:Nat}{l:List Zl}(hi:w[i]?=some l):∃ p a,Zo 1 x (J xO (i:Int))=some p/\Z3 false 1 p H=some a/\SS a l:=by
 rcases h with ⟨rfl,_⟩|⟨t,y,rfl,u⟩|⟨o,e,y,rfl,z,u⟩
 ·simp at hi
 ·obtain⟨a,j,g⟩:=u.at' i l hi;refine⟨.vp a.cells,a,?_,?_,g⟩
  ·unfold Zo;dsimp only;rw[if_pos ⟨rfl,by omega⟩,zW,j]
  ·rw[g.cell.1];rfl
 ·obtain⟨a,j,g⟩:=u.at' i l hi;exact⟨_,a,ZnG (yN.1 hi).1,Zpo z j,g⟩
theorem Rst.app {o:Nat}{H:Hp}{x:AV}{A:List (List Zl)}(h:Rst o H x A){a:AV}{m:List Zl}(j:SS a m)(K:A.length<=1048576) :
 ∃ I D H',GV false 1 24 x (.vs 1 .clip [a]) H=some (D,H')/\Rst I H' D (A++[m])/\H.length<=H'.length/\(∀ i y,H[i]?=some y->i≠o->H'[i]?=some y):=by
 unfold GV;have E:Go.Am.elems 1 (.vs 1 .clip [a]) H=some [a]:=rfl;rw[E];dsimp only;have u:Xg 1 24=true:=rfl;have w:Xg (A.length+1) 24=true:=by simp[Xg];omega
 rcases h with ⟨rfl,rfl|rfl⟩|⟨e,B,rfl,C,g⟩
 ·refine⟨H.length,.ws false 1 H.length 0 1,H++[.row 0 [a]],?_,.inr ⟨0,[a],rfl,by simp,EE.nil.app j⟩,by simp,fun i y z _=>ZY z _⟩;unfold FM;simp only[zP,u,if_true,zG,yX,yO,yQ,j.cell.1,zT];rw[if_neg (by simp)]
 ·refine⟨H.length,.ws false 1 H.length 0 1,H++[.row 0 [a]],?_,.inr ⟨0,[a],rfl,by simp,EE.nil.app j⟩,by simp,fun i y z _=>ZY z _⟩;unfold FM;simp only[xD,yR,zD,zP,u,and_self,if_true,zG,yX,yO,yQ,j.cell.1,zT];rw[if_neg (by simp)]
 ·refine⟨o,.ws false 1 o (e+1) (A.length+1),H.set o (.row (e+1) (B++[a])),?_,.inr ⟨e+1,B++[a],by simp,Zq _ C,g.app j⟩,by simp,fun i y z F=>Yd _ (fun e=>F e.symm) z⟩;unfold FM;simp only[zP,w,and_self,if_true,C,g.len,yT,zL,Zju,zV (Nat.le_of_eq g.len),zG,yX,yO,yQ,j.cell.1,zT];rw[if_neg (by simp)]
theorem EE.tail {e:AV}{j:List AV}{l:List Zl}{u:List (List Zl)}(h:EE (e::j) (l::u)):SS e l/\EE j u:=by
 obtain⟨g,w,y⟩:=h.at' 0 l rfl;obtain rfl:e=g:=Option.some.inj w
 exact⟨y,by have:=h.len;simpa using this,fun i m hm=>by
  obtain⟨g,z,A⟩:=h.at' (i+1) m (by simpa using hm);exact⟨g,by simpa using z,A⟩⟩
theorem EE.cons {e:AV}{g:List AV}{l:List Zl}{j:List (List Zl)}(h:SS e l)(k:EE g j):EE (e::g) (l::j) :=
 ⟨by simp[k.len],fun i m hm=>by
  cases i with
  |zero=>simp at hm;subst hm;exact⟨e,rfl,h⟩
  |succ i=>simpa using k.at' i m (by simpa using hm)⟩
theorem EE.close {u:List AV}{j:List (List Zl)}(h:EE u j)(H:Hp)(n f:Nat):∃ g,u.mapM (Ze H n (f+2))=some g/\EE g j:=by
 induction u generalizing j with
 |nil =>
  have:j=[]:=List.length_eq_zero_iff.1 (by rw[<-h.len];rfl);subst this;exact⟨[],rfl,EE.nil⟩
 |cons e u A =>
  cases j with
  |nil=>have:=h.len;simp at this
  |cons l j =>
   obtain⟨y,z⟩:=h.tail;obtain⟨w,B,C⟩:=SS.closed y H n f;obtain⟨g,D,E⟩:=A z;exact⟨w::g,by rw[xF,B];simp[D],EE.cons C E⟩
theorem Ed (H:Hp)(n f k:Nat)(t:Tok)(l:List AV):Ze H n (f+1) (.vs k t l)=match l.mapM (Ze H n f) with
 |some l=>some (.vs k (match t with|.own t e=>if t<n then .own t e else .no|tok=>tok) l)
 |none=>none:=rfl
theorem ZhW (H:Hp)(n f:Nat)(ag:Bool)(k o e len:Nat):Ze H n (f+1) (.ws ag k o e len)=if o<n then some (.ws ag k o e len) else
 match elems k (.ws ag k o e len) H with
 |some l=>match l.mapM (Ze H n f) with
  |some l=>some (.vs k .no l)
  |none=>none
 |none=>none:=rfl
def LsV (x:AV)(h:List (List Zl)):Prop:=x=.nils/\h=[]\/∃ t g,x=.vs 1 t g/\EE g h
theorem LsV.ll {x:AV}{g:List (List Zl)}(h:LsV x g)(H:Hp):LL H x g:=by
 rcases h with ⟨j,u⟩|h
 ·exact .inl ⟨u,.inl j⟩
 ·exact .inr (.inl h)
theorem LsV.len {x:AV}{g:List (List Zl)}(h:LsV x g)(e:Nat):Zk (.slice e) x=some (J xO (g.length:Int)):=(h.ll []).len e
theorem LsV.get {x:AV}{g:List (List Zl)}(h:LsV x g){i:Nat}{l:List Zl}(hi:g[i]?=some l)(H:Hp):∃ p a,Zo 1 x (J xO (i:Int))=some p/\Z3 false 1 p H=some a/\SS a l:=(h.ll H).get hi
theorem LL.close0 {H:Hp}{x:AV}{w:List (List Zl)}(h:LL H x w):∃ B,Ze H 0 9 x=some B/\LsV B w:=by
 rcases h with ⟨rfl,rfl|rfl⟩|⟨t,A,rfl,j⟩|⟨o,e,A,rfl,C,j⟩
 ·exact⟨.nils,rfl,.inl ⟨rfl,rfl⟩⟩
 ·exact⟨.vs 1 .clip [],rfl,.inr ⟨_,[],rfl,EE.nil⟩⟩
 ·obtain⟨g,y,z⟩:=j.close H 0 6;exact⟨_,by rw[Ed,y],.inr ⟨_,g,rfl,z⟩⟩
 ·obtain⟨g,y,z⟩:=j.close H 0 6
  have u:Go.Am.elems 1 (.ws false 1 o e w.length) H=some A:=by
   unfold Go.Am.elems;dsimp only;rw[if_pos ⟨rfl,.inr rfl⟩,C];dsimp only;rw[if_pos ⟨rfl,by rw[j.len];omega⟩,<-j.len,ZfV]
  exact⟨.vs 1 .no g,by rw[ZhW,if_neg (Nat.not_lt_zero _),u];dsimp only;rw[y],.inr ⟨_,g,rfl,z⟩⟩
theorem SS.cut {x:AV}{l:List Zl}(h:SS x l){i j:Nat}(u:i<=j)(B:j<=l.length):∃ y,Yg 1 x (some (J xO (i:Int))) (some (J xO (j:Int))) (some (J xO (j:Int)))=some y/\SS y ((l.take j).drop i):=by
 have A:∀ n,j<=n->Ys n n (some (J xO (i:Int))) (some (J xO (j:Int))) (some (J xO (j:Int)))=some (i,j,j):=fun n D=>by
  delta Ys
  simp[X8,D,u]
 rcases h with ⟨rfl,C⟩|⟨t,rfl⟩
 ·have z:l=[]:=by simpa using C
  subst z;have w:j=0:=by simpa using B
  have g:i=0:=by omega
  subst w g;refine⟨.nils,?_,.inl ⟨rfl,rfl⟩⟩;simp only[Yg];rw[A 0 (zL _)]
 ·refine⟨.vs 1 .clip (((l.map xB).take j).drop i),?_,.inr ⟨.clip,by rw[<-List.map_take,<-List.map_drop]⟩⟩;simp only[Yg,if_true,yA];rw[A _ B];simp
def YD (m:Nat)(s:Sto):List AV:=[J xO (s.limit:Int),J xO (Zr s.files:Int),J xO (s.peak:Int),.map m,.bool s.crashed,J xO (s.count:Int)]
theorem StAt.cell {H H':Hp}{o m g:Nat}{u:List FD}{s s':Sto}(h:StAt H o m g u s)(w:Stp [o] H H')(z:H'[o]?=some (.cells (YD m s')))(A:s'.files=s.files):StAt H' o m g u s' where
 files:=by rw[A];exact h.files
 cells:=z
 map:=w.get h.map (by simpa using h.om.symm)
 file:=fun d j=>(h.file d j).frame fun a y=>w.at' a ((h.file d j).lt a y) (by simpa using (h.own_lt j y).1)
 nd:=h.nd
 born:=h.born
theorem ld {H:Hp}{o:Nat}{l:List AV}(h:H[o]?=some (.cells l))(i:Nat){v:AV}(g:l[i]?=some v):Z3 false 1 (.ptr o (0+i)) H=some v:=by
 rw[Yv h,zD];exact g
theorem st {H:Hp}{o:Nat}{l:List AV}(h:H[o]?=some (.cells l))(i:Nat){v:AV}(g:v.cells=[v])(hk:v.known=true)(hi:i<l.length):Za 1 (.ptr o (0+i)) v H=some (.tuple [],H.set o (.cells (l.set i v))):=by
 rw[zD,WT h hk (by rw[g];rfl) (by omega),g];congr 4;have:=Zpj (l:=l) (i:=i) (a:=v) hi
 rwa [yT]at this
theorem Zk4 {H:Hp}{o m B:Nat}{M:List FD}{s:Sto}(h:StAt H o m B M s)(hk:s.count<=9223372036854775807) :
 ∃ H',UU [.ptr o 0] H=some (.bool s.tick.crashed,H')/\StAt H' o m B M s.tick/\Stp [o] H H':=by
 have z:H[o]?=some (.cells (YD m s)):=h.cells;have A:=ld z 4 (v:=.bool s.crashed) rfl;have K:=ld z 5 (v:=J xO (s.count:Int)) rfl;rw[AY];unfold Pc
 cases g:s.crashed with
 |true =>
  have w:s.tick=s:=by unfold Sto.tick;rw[if_pos g]
  rw[w,g];rw[g]at A;exact⟨H,by simp only[go_sem,A,V2],h,Stp.refl _ _⟩
 |false =>
  rw[g]at A;by_cases F:s.count=1
  ·have w:s.tick={ s with crashed:=true,count:=0 }:=by unfold Sto.tick;rw[if_neg (by simp[g]),if_pos F]
   have D:((s.count:Int)==1)=true:=by rw[F];rfl
   have O:=st z 4 (v:=.bool true) rfl rfl (by simp[YD]);have C:=Zq (zJ (zO (YD m s) 4 (.bool true))) z;have L:=st C 5 (v:=J xO 0) rfl rfl (by simp[YD]);have j:=Zq (zJ (zO (zO (YD m s) 4 (.bool true)) 5 (xG .i64 0))) C;have u:=ld j 4 (v:=.bool true) rfl;refine⟨(H.set o (.cells ((YD m s).set 4 (.bool true)))).set o (.cells (((YD m s).set 4 (.bool true)).set 5 (J xO 0))),by simp only[go_sem,A,K,D,O,L,V2,u,w],?_,?_⟩
   ·rw[w];refine h.cell ?_ ?_ rfl
    ·exact (Stp.set H _ (by simp)).trans (Stp.set _ _ (zH.2 rfl)) (fun a y=>y) (fun a y=>.inl y)
    ·exact j
   ·exact (Stp.set H _ (by simp)).trans (Stp.set _ _ (zH.2 rfl)) (fun a y=>y) (fun a y=>.inl y)
  ·have D:((s.count:Int)==1)=false:=by rw[beq_eq_false_iff_ne];omega
   have w:s.tick={ s with count:=s.count-1 }:=by unfold Sto.tick;rw[if_neg (by simp[g]),if_neg F]
   by_cases Q:1<s.count
   ·have E:decide ((1:Int)<(s.count:Int))=true:=by rw[decide_eq_true_eq];omega
    have hw:xN.wrap ((s.count:Int)-1)=((s.count-1:Nat):Int):=by rw[Zp (by omega) (by omega)];omega
    have L:=st z 5 (v:=J xO ((s.count-1:Nat):Int)) rfl rfl (by simp[YD]);have j:=Zq (zJ (zO (YD m s) 5 (xG .i64 ((s.count-1:Nat):Int)))) z;have u:=ld j 4 (v:=.bool s.crashed) rfl;rw[g]at u;refine⟨H.set o (.cells ((YD m s).set 5 (J xO ((s.count-1:Nat):Int)))),by simp only[go_sem,A,K,D,E,hw,L,V2,u,w,g],?_,Stp.set _ _ (by simp)⟩;rw[w];exact h.cell (Stp.set _ _ (by simp)) j rfl
   ·have E:decide ((1:Int)<(s.count:Int))=false:=by simp;omega
    have N:s.count=0:=by omega
    have I:s.tick=s:=by rw[w];cases s;simp only at N;subst N;rfl
    rw[I,g];exact⟨H,by simp only[go_sem,A,K,D,E,V2],h,Stp.refl _ _⟩
theorem Xx (s:Sto):s.tick.files=s.files:=by unfold Sto.tick;split;rfl;split <;> rfl
theorem P3 (s:Sto):s.tick.limit=s.limit:=by unfold Sto.tick;split;rfl;split <;> rfl
theorem ZkQ (s:Sto):s.tick.peak=s.peak:=by unfold Sto.tick;split;rfl;split <;> rfl
theorem Zb4 {H:Hp}{o m j:Nat}{A:List FD}{s:Sto}(h:StAt H o m j A s)(hk:s.count<=9223372036854775807)(n:Zm) :
 ∃ (p:AV) (e:Int) (H':Hp),Wi [.ptr o 0,.str n] H=some (.tuple [p,J xO e],H')/\StAt H' o m j A s.tick/\Stp [o] H H' /\
  (s.tick.crashed=true/\e=19\/s.tick.crashed=false/\ZP s.files n=none/\e=5 \/
   s.tick.crashed=false/\e=0/\∃ a d b,A=a++d::b/\d.fil.name=n/\(∀ g∈a,g.fil.name≠n)/\ZP s.files n=some d.fil/\p=.ptr d.f 0):=by
 obtain⟨H1,y,z,D⟩:=Zk4 h hk;rw[O4];unfold NW
 cases u:s.tick.crashed with
 |true =>
  rw[u]at y;exact⟨.nilp,19,H1,by simp only[go_sem,J1,y],z,D,.inl ⟨rfl,rfl⟩⟩
 |false =>
  rw[u]at y;have E:=ld z.cells 3 (v:=.map m) rfl;have w:=z.look n;rw[Xx]at w;rcases w with ⟨B,C⟩|⟨a,d,b,B,C,F,I,K⟩
  ·exact⟨.nilp,5,H1,by simp only[go_sem,J1,y,Ft,E,C],z,D,.inr (.inl ⟨rfl,B,rfl⟩)⟩
  ·exact⟨.ptr d.f 0,0,H1,by simp only[go_sem,J1,y,Ft,E,K,ID],z,D,.inr (.inr ⟨rfl,rfl,a,d,b,B,C,F,I,rfl⟩)⟩
structure StoRes (H H':Hp)(o:Nat)(s':Sto)(A A':List Nat):Prop where
 at':StoreAt H' o s' A'
 stp:Stp A H H'
 own:∀ a∈A',a∈A\/H.length<=a
theorem StAt.res {H H':Hp}{o m g:Nat}{j:List FD}{s':Sto}(h:StAt H' o m g j s')(w:Stp [o] H H'):StoRes H H' o s' (o::m::j.flatMap FD.own) (o::m::j.flatMap FD.own) :=
 ⟨⟨m,g,j,h,rfl⟩,w.mono (fun a u=>by rw[zH.1 u];simp),fun a u=>.inl u⟩
theorem Zn3 (d:FD):d.f∈d.own:=by simp[FD.own]
theorem ZlG {H:Hp}{o:Nat}{s:Sto}{A:List Nat}(h:StoreAt H o s A)(hk:s.count<=9223372036854775807)(n:Zm) :
 ∃ H' A',Vy [.ptr o 0,.str n] H=some (J xO (s.sync n).1,H')/\StoRes H H' o (s.sync n).2 A A':=by
 obtain⟨m,B,X,h,rfl⟩:=h;obtain⟨p,e,H1,L,j,M,V⟩:=Zb4 h hk n;rw[O2];unfold NU Sto.sync;rcases V with ⟨u,rfl⟩|⟨u,S,rfl⟩|⟨u,rfl,a,d,b,rfl,N,O,T,rfl⟩
 ·have w:((19:Int)==0)=false:=rfl;rw[if_pos u];exact⟨H1,_,by simp only[L,go_sem,zA,zB,w,J0],j.res M⟩
 ·have w:((5:Int)==0)=false:=rfl;rw[if_neg (by simp[u]),S];exact⟨H1,_,by simp only[L,go_sem,zA,zB,w,J0],j.res M⟩
 ·have w:((0:Int)==0)=true:=rfl;rw[if_neg (by simp[u]),T];have y:=j.file d (by simp);have U:=ld y.cells 0 (v:=d.tx) rfl;have z:=y.text.len 5;have W:=st y.cells 1 (v:=J xO (d.fil.text.length:Int)) rfl rfl (by simp);refine⟨H1.set d.f (.cells (zO [d.tx,J xO (d.fil.syn:Int)] 1 (J xO (d.fil.text.length:Int)))),o::m::(a++{ d with fil:={ d.fil with syn:=d.fil.text.length } }::b).flatMap FD.own,by simp only[L,go_sem,zA,zB,w,U,z,W,J0],?_⟩;have D:d.f≠o:=(j.own_lt (d:=d) (by simp) (Zn3 d)).1;have E:d.f≠m:=(j.own_lt (d:=d) (by simp) (Zn3 d)).2;have Q:Stp (o::d.own) H1 (H1.set d.f (.cells (zO [d.tx,J xO (d.fil.syn:Int)] 1 (J xO (d.fil.text.length:Int))))):=Stp.set _ _ (by simp[FD.own])
  have I:∀ t∈ZI d.tx,t≠d.f:=fun t F=>by
   have:=j.nd;rw[zE,zE,zK,zU,zS,zS]at this;obtain⟨_,_,_,⟨R,_⟩,_⟩:=this;rw[FD.own,zE]at R;exact fun e=>R.1 (e ▸ F)
  have K:Zr (X6 s.files n fun f=>{ f with syn:=f.text.length })=Zr s.files:=by
   rw[<-h.files,CR a d b n _ N O];simp[XQ,Zr]
  have C:=j.upd (d':={ d with fil:={ d.fil with syn:=d.fil.text.length } }) (s':={ s.tick with files:=X6 s.files n fun f=>{ f with syn:=f.text.length } }) (H':=H1.set d.f (.cells (zO [d.tx,J xO (d.fil.syn:Int)] 1 (J xO (d.fil.text.length:Int)))))
   (by
    rw[zC D,j.cells];simp only[K,Xx])
   (zC E) rfl (by show X6 s.files n _=_;rw[<-h.files,CR a d b n _ N O])
   ⟨Zq _ y.cells,y.text.frame fun t F=>zC (fun e=>I t F e.symm)⟩ Q
   (by
    have:=j.nd;rw[zE,zE,zK,zU,zS,zS]at this;exact this.2.2.2.1.1)
   (fun x g=>.inl g)
  refine⟨⟨m,B,_,C,rfl⟩,?_,fun x g=>.inl ?_⟩
  ·refine M.trans Q (fun x g=>by rw[zH.1 g];simp) fun x g=>.inl ?_;rcases zF.1 g with e|g
   ·subst e;simp
   ·simp[g]
  ·simpa[FD.own]using g
theorem StAt.fileRes {H H1 H':Hp}{o m j:Nat}{a b:List FD}{d d':FD}{s s':Sto}(h:StAt H o m j (a++d::b) s)(y:Stp [o] H H1)(w:StAt H' o m j (a++d'::b) s')(z:Stp (o::d.own) H1 H')
 (u:∀ x∈d'.own,x∈d.own\/H1.length<=x):StoRes H H' o s' (o::m::(a++d::b).flatMap FD.own) (o::m::(a++d'::b).flatMap FD.own):=by
 refine⟨⟨m,j,_,w,rfl⟩,y.trans z (fun x g=>by rw[zH.1 g];simp) fun x g=>.inl ?_,fun x g=>?_⟩
 ·rcases zF.1 g with e|g
  ·subst e;simp
  ·simp[g]
 ·rcases zF.1 g with e|g
  ·subst e;exact .inl (by simp)
  rcases zF.1 g with e|g
  ·subst e;exact .inl (by simp)
  rw[zK,zU]at g;rcases zM.1 g with g|g
  ·exact .inl (by simp only[zK,zF,zM];exact .inr (.inr (.inl g)))
  rcases zM.1 g with g|g
  ·rcases u x g with k|k
   ·exact .inl (by simp only[zK,zU,zF,zM];exact .inr (.inr (.inr (.inl k))))
   ·exact .inr (xJ y.len k)
  ·exact .inl (by simp only[zK,zU,zF,zM];exact .inr (.inr (.inr (.inr g))))
theorem StAt.mid {H:Hp}{o m g:Nat}{a b:List FD}{d:FD}{s:Sto}(h:StAt H o m g (a++d::b) s):d.own.Nodup/\FileAt H d/\(∀ x∈d.own,x≠o/\x≠m)/\∀ t∈ZI d.tx,t≠d.f:=by
 have:=h.nd;rw[zE,zE,zK,zU,zS,zS]at this;obtain⟨_,_,_,⟨j,_⟩,_⟩:=this;refine⟨j,h.file d (by simp),fun x w=>h.own_lt (d:=d) (by simp) w,fun t u=>?_⟩;rw[FD.own,zE]at j;exact fun e=>j.1 (e ▸ u)
theorem Bh (a:List Fil)(f:Fil)(b:List Fil):Zr (a++f::b)=Zr a+(f.text.length+Zr b):=by rw[XQ];rfl
theorem Zhf {H:Hp}{o:Nat}{s:Sto}{A:List Nat}(h:StoreAt H o s A)(hk:StoOk s)(n t:Zm)(ht:t.length<=1048576) :
 ∃ H' A',Ww [.ptr o 0,.str n,.str t] H=some (J xO (s.append n t).1,H')/\StoRes H H' o (s.append n t).2 A A':=by
 obtain⟨m,ai,ds,h,rfl⟩:=h;obtain⟨p,e,H1,q1,L,q3,q4⟩:=Zb4 h hk.count n;rw[CT];unfold RX Sto.append;rcases q4 with ⟨O,rfl⟩|⟨O,c2,rfl⟩|⟨O,rfl,a,d,b,rfl,c3,c4,c5,rfl⟩
 ·have M:((19:Int) != 0)=true:=rfl;rw[if_pos O];exact⟨H1,_,by simp only[q1,go_sem,zA,zB,M],L.res q3⟩
 ·have M:((5:Int) != 0)=true:=rfl;rw[if_neg (by simp[O]),c2];exact⟨H1,_,by simp only[q1,go_sem,zA,zB,M],L.res q3⟩
 ·have M:((0:Int) != 0)=false:=rfl;rw[if_neg (by simp[O]),c5];have ag:=hk.used;have ah:=hk.limit;have aj:=hk.peak;have W:H1[o]?=some (.cells (YD m s.tick)):=L.cells;have l0:=ld W 0 (v:=J xO (s.limit:Int)) (by rw[<-P3 s];rfl);have l1:=ld W 1 (v:=J xO (Zr s.files:Int)) (by rw[<-Xx s];rfl);have hw:xN.wrap ((Zr s.files:Int)+(t.length:Int))=((Zr s.files+t.length:Nat):Int):=by rw[Zp (by omega) (by omega)];omega
  by_cases hf:s.limit<Zr s.files+t.length
  ·have e2:decide ((s.limit:Int)<((Zr s.files+t.length:Nat):Int))=true:=by rw[decide_eq_true_eq];omega
   simp only[if_pos hf];exact⟨H1,_,by simp only[q1,go_sem,zA,zB,M,Ba,l0,l1,hw,e2],L.res q3⟩
  ·have e2:decide ((s.limit:Int)<((Zr s.files+t.length:Nat):Int))=false:=by simp;omega
   simp only[if_neg hf];obtain⟨k1,X,Y,k4⟩:=L.mid;have ab:=h.files
   have I:Zr s.files=Zr (a.map FD.fil)+(d.fil.text.length+Zr (b.map FD.fil)):=by
    rw[<-ab,zN,zG,Bh]
   have m0:=ld X.cells 0 (v:=d.tx) rfl;obtain⟨j,S,p1,p2,Z,p4,p5⟩:=X.text.app t (by omega);have g1:S[d.f]?=some (.cells [d.tx,J xO (d.fil.syn:Int)]):=Z.get X.cells fun K=>k4 _ K rfl
   have R:j.cells=[j]/\j.known=true:=by
    rcases p2 with ⟨rfl,_⟩|⟨t',e',rfl,_⟩|rfl <;> exact⟨rfl,rfl⟩
   have s1:=st g1 0 (v:=j) R.1 R.2 (by simp);have u:=Y d.f (by simp[FD.own]);have ae:o∉ZI d.tx:=fun K=>(Y o (by simp[FD.own,K])).1 rfl;have ac:m∉ZI d.tx:=fun K=>(Y m (by simp[FD.own,K])).2 rfl;have g2:S[o]?=some (.cells (YD m s.tick)):=Z.get W ae;have U:=Yd (.cells (zO [d.tx,J xO (d.fil.syn:Int)] 0 j)) u.1 g2;have n1:=ld U 1 (v:=J xO (Zr s.files:Int)) (by rw[<-Xx s];rfl);have s2:=st U 1 (v:=J xO ((Zr s.files+t.length:Nat):Int)) rfl rfl (by simp[YD]);have N:=Zq (zJ (zO (YD m s.tick) 1 (J xO ((Zr s.files+t.length:Nat):Int)))) U;have n2:=ld N 2 (v:=J xO (s.peak:Int)) (by rw[<-ZkQ s];rfl);have n3:=ld N 1 (v:=J xO ((Zr s.files+t.length:Nat):Int)) rfl;have ad:max (s.peak:Int) ((Zr s.files+t.length:Nat):Int)=((max s.peak (Zr s.files+t.length):Nat):Int):=by omega
   have s3:=st N 2 (v:=J xO ((max s.peak (Zr s.files+t.length):Nat):Int)) rfl rfl (by simp[YD]);have V:=Zq (zJ (zO (zO (YD m s.tick) 1 (J xO ((Zr s.files+t.length:Nat):Int))) 2 (J xO ((max s.peak (Zr s.files+t.length):Nat):Int)))) N;generalize D:S.set d.f (.cells (zO [d.tx,J xO (d.fil.syn:Int)] 0 j))=H3 at s1 U n1 s2 N n2 n3 s3 V;generalize E:H3.set o (.cells (zO (YD m s.tick) 1 (J xO ((Zr s.files+t.length:Nat):Int))))=H4 at s2 N n2 n3 s3 V;generalize F:H4.set o (.cells (zO (zO (YD m s.tick) 1 (J xO ((Zr s.files+t.length:Nat):Int))) 2 (J xO ((max s.peak (Zr s.files+t.length):Nat):Int))))=T at s3 V
   have hS:Stp (o::d.own) H1 T:=by
    refine (Z.mono (B:=o::d.own) fun x K=>by simp[FD.own,K]).trans (B:=o::d.own) (C:=o::d.own) ?_ (fun _ h=>h) fun _ h=>.inl h;rw[<-F,<-E,<-D];exact ((Stp.set _ _ (by simp[FD.own])).trans (Stp.set _ _ (by simp)) (fun _ h=>h) fun _ h=>.inl h).trans (Stp.set _ _ (by simp)) (fun _ h=>h) fun _ h=>.inl h
   have w:∀ y,y≠o->y≠d.f->T[y]?=S[y]?:=fun y h1 h2=>by
    rw[<-F,zC (fun e=>h1 e.symm),<-E,zC (fun e=>h1 e.symm),<-D,zC (fun e=>h2 e.symm)]
   have z:∀ y∈FD.own { d with fil:={ d.fil with text:=d.fil.text++t },tx:=j },y∈d.own\/H1.length<=y:=fun y g=>by
    rcases zF.1 g with e|g
    ·subst e;exact .inl (by simp[FD.own])
    ·rcases p4 y g with k|k
     ·exact .inl (by simp[FD.own,k])
     ·exact .inr (by omega)
   have Q:∀ y∈d.own,y<H1.length:=X.lt
   have hT:∀ y∈ZI j,y≠o/\y≠d.f:=fun y g=>by
    rcases p4 y g with k|k
    ·exact⟨(Y y (by simp[FD.own,k])).1,k4 y k⟩
    ·have:=Zg W;have:=Q d.f (by simp[FD.own]);omega
   have af:Zr (X6 s.files n fun f=>{ f with text:=f.text++t })=Zr s.files+t.length:=by
    rw[I,<-h.files,CR a d b n _ c3 c4,Bh,zQ];omega
   have aa:=L.upd (H':=T) (d':={ d with fil:={ d.fil with text:=d.fil.text++t },tx:=j }) (s':={ s.tick with files:=X6 s.files n fun f=>{ f with text:=f.text++t },peak:=max s.peak (Zr s.files+t.length) })
    (by rw[V];simp only[af];rfl)
    (by rw[w m (fun e=>h.om e.symm) (fun e=>u.2 e.symm)];exact Z.at' m (Zg L.map) ac)
    rfl (by show X6 s.files n _=_;rw[<-h.files,CR a d b n _ c3 c4])
    ⟨by
     rw[<-F,zC (fun e=>u.1 e.symm),<-E,zC (fun e=>u.1 e.symm),<-D];exact Zq _ g1,p2.frame fun y g=>w y (hT y g).1 (hT y g).2⟩ hS
    (by
     rw[FD.own,zE];refine⟨fun g=>(hT _ g).2 rfl,?_⟩;show (ZI j).Nodup;rcases p2 with ⟨rfl,_⟩|⟨t',e',rfl,_⟩|rfl <;> simp[ZI])
    z
   refine⟨T,_,?_,h.fileRes q3 aa hS z⟩;simp only[q1,go_sem,zA,zB,M,Ba,l0,l1,hw,e2,Cx,m0,p1,s1,n1,s2,n2,n3,ad,s3]
theorem Zgv {H:Hp}{o:Nat}{s:Sto}{A:List Nat}(h:StoreAt H o s A)(hk:StoOk s)(n:Zm)(i k:Int)(hi:-9223372036854775808<=i/\i<=9223372036854775807) :
 ∃ H',Vx [.ptr o 0,.str n,J xO i,J xO k] H=some (.tuple [.str (s.read n i k).1,J xO (s.read n i k).2],H')/\StoRes H H' o s.tick A A:=by
 obtain⟨m,Z,ds,h,rfl⟩:=h;obtain⟨p,e,H1,S,D,T,q4⟩:=Zb4 h hk.count n;rw[O1];unfold NT Sto.read;rcases q4 with ⟨B,rfl⟩|⟨B,X,rfl⟩|⟨B,rfl,a,d,b,rfl,c3,c4,Y,rfl⟩
 ·have C:((19:Int) != 0)=true:=rfl;rw[if_pos B];exact⟨H1,by simp only[S,go_sem,zA,zB,C],D.res T⟩
 ·have C:((5:Int) != 0)=true:=rfl;rw[if_neg (by simp[B]),X];exact⟨H1,by simp only[S,go_sem,zA,zB,C],D.res T⟩
 ·have C:((0:Int) != 0)=false:=rfl;rw[if_neg (by simp[B]),Y];obtain⟨k1,E,k3,k4⟩:=D.mid;have R:=ld E.cells 0 (v:=d.tx) rfl;have u:=E.text.len 5
  have F:Zr s.files=Zr (a.map FD.fil)+(d.fil.text.length+Zr (b.map FD.fil)):=by
   rw[<-h.files,zN,zG,Bh]
  have N:=hk.used;have U:=hk.limit;refine⟨H1,?_,D.res T⟩;simp only[S,go_sem,zA,zB,C,IB];by_cases g:i<0
  ·simp only[decide_eq_true g,go_sem,if_pos (show i<0\/(d.fil.text.length:Int)<i\/k<0 from .inl g)]
  by_cases w:(d.fil.text.length:Int)<i
  ·simp only[decide_eq_false g,go_sem,R,u,decide_eq_true w,if_pos (show i<0\/(d.fil.text.length:Int)<i\/k<0 from .inr (.inl w))]
  by_cases z:k<0
  ·simp only[decide_eq_false g,go_sem,R,u,decide_eq_false w,decide_eq_true z,if_pos (show i<0\/(d.fil.text.length:Int)<i\/k<0 from .inr (.inr z))]
  have L:¬ (i<0\/(d.fil.text.length:Int)<i\/k<0):=by omega
  have O:xN.wrap ((d.fil.text.length:Int)-i)=(d.fil.text.length:Int)-i:=Zp (by omega) (by omega);have Q:xN.wrap (i+min k ((d.fil.text.length:Int)-i))=((i.toNat+min k.toNat (d.fil.text.length-i.toNat):Nat):Int):=by rw[Zp (by omega) (by omega)];omega
  obtain⟨y,V,W⟩:=E.text.part (i:=i.toNat) (j:=i.toNat+min k.toNat (d.fil.text.length-i.toNat)) (by omega) (by omega) H1;have I:((i.toNat:Nat):Int)=i:=by omega
  rw[I]at V
  have M:(d.fil.text.take (i.toNat+min k.toNat (d.fil.text.length-i.toNat))).drop i.toNat=(d.fil.text.drop i.toNat).take k.toNat:=by
   rw[List.drop_take,Nat.add_sub_cancel_left];by_cases K:k.toNat<=d.fil.text.length-i.toNat
   ·rw[Nat.min_eq_left K]
   ·rw[Nat.min_eq_right (by omega),zV (by simp),zV (by simp;omega)]
  rw[M]at W;simp only[decide_eq_false g,go_sem,R,u,decide_eq_false w,decide_eq_false z,IC,O,Q,V,W,if_neg L]
def SY (h x8:AV):Option AV :=
 Z0 (Z5 .geq h (.int .u8 97)) fun u =>
 Z0 (Z8 u true ap (some h)) fun C =>
 Z0 (Z8 u true ap (Z5 .leq C (.int .u8 122))) fun D =>
 Z0 (Zi u D (.bool false)) fun j =>
 Z0 (Z8 j false ap (some h)) fun E =>
 Z0 (Z8 j false ap (Z5 .geq E (.int .u8 65))) fun F =>
 Z0 (Z8 j false ap (some F)) fun w =>
 Z0 (Z8 w true ap (some h)) fun H =>
 Z0 (Z8 w true ap (Z5 .leq H (.int .u8 90))) fun I =>
 Z0 (Z8 j false ap (Zi w I (.bool false))) fun K =>
 Z0 (Zi j (.bool true) K) fun y =>
 Z0 (Z8 y false ap (some h)) fun L =>
 Z0 (Z8 y false ap (Z5 .eql L (.int .u8 95))) fun M =>
 Z0 (Zi y (.bool true) M) fun z =>
 Z0 (Z8 z false ap (some h)) fun N =>
 Z0 (Z8 z false ap (Z5 .eql N (.int .u8 46))) fun O =>
 Z0 (Zi z (.bool true) O) fun Q =>
 Z0 (XL .not Q) fun g =>
 Z0 (Z8 g true ap (some x8)) fun R =>
 Z0 (Z8 g true ap (Z5 .eql R (J xO 0))) fun S =>
 Z0 (Z8 g true ap (some S)) fun A =>
 Z0 (Z8 A false ap (some h)) fun T =>
 Z0 (Z8 A false ap (Z5 .lss T (.int .u8 48))) fun U =>
 Z0 (Z8 g true ap (Zi A (.bool true) U)) fun V =>
 Z0 (Z8 g true ap (some V)) fun B =>
 Z0 (Z8 B false ap (some h)) fun W =>
 Z0 (Z8 B false ap (Z5 .gtr W (.int .u8 57))) fun X =>
 Z0 (Z8 g true ap (Zi B (.bool true) X)) fun Y =>
 Z0 (Zi g Y (.bool false)) fun Z =>
 some Z
theorem ZfZ (u y j z:AV)(w H:Hp):DM u y j z w H =
 Z0 (Zx u j) fun h =>
 Z0 (SY h j) fun g =>
 Zj g (some ((.bool false),H)) (DN u y j w H):=by
 rw[Zbj];simp only[SY,M0,Vc]
theorem Zif:((xM 256).all fun n=>(To (SY (.int .u8 (n:Int)) (J xO 1))==some (!(ZaJ (zR n) || Zar (zR n))))&&(To (SY (.int .u8 (n:Int)) (J xO 0))==some (!ZaJ (zR n))))=true:=by kernel_rfl
theorem Zmy (b:UInt8):SY (.int .u8 b.toNat) (J xO 0)=some (.bool (!ZaJ b)):=by
 have h:=WS Zif (Zf0 b);simp only[zX,beq_iff_eq,yY]at h;exact QT h.2
theorem Zon (b:UInt8){i:Int}(hi:(i==0)=false):SY (.int .u8 b.toNat) (J xO i)=some (.bool (!(ZaJ b || Zar b))):=by
 have h:=WS Zif (Zf0 b);simp only[zX,beq_iff_eq,yY]at h;rw[<-QT h.1];have e:Z5 .eql (J xO i) (J xO 0)=Z5 .eql (J xO 1) (J xO 0):=by simp only[Z5,XB,XF,hi];rfl
 unfold SY
 iterate 18 refine congrArg (Z0 _) (funext fun t=>?_)
 cases t with
 |bool b =>
  cases b
  ·rfl
  ·simp only[ZmD,Vc,e]
 |_=>rfl
theorem Zmz (s:Zm)(g H:Hp):DL (.str s) g H=some (.bool (!s.isEmpty&&decide (s.length<=32)),H):=by
 rw[Zbi]
 cases s with
 |nil=>simp[go_sem,YR,KX]
 |cons b l =>
  simp only[YR,KX,go_sem,Zk];have:(!((b::l)==([]:Zm)))=true:=rfl;have c:decide (((b::l).length:Int)<=32)=decide ((b::l).length<=32):=by rw[Bool.eq_iff_iff];simp;omega
  simp only[this,go_sem,c,yZ,yB,yG]
theorem Zqu (s:Zm)(B:s.length<=1048576)(u H:Hp):∀ (k i:Nat),s.length-i=k->0<i->i<=s.length ->
 Jo (.str s) (J xO s.length) (J xO i) u H=some (.bool (((s.drop i).all fun c=>ZaJ c || Zar c)&&(!s.isEmpty&&decide (s.length<=32))),H):=by
 intro k
 induction k with
 |zero =>
  intro i hk w hi;rw[Uq];have g:decide ((i:Int)<(s.length:Int))=false:=by simp;omega
  have y:s.drop i=[]:=List.drop_eq_nil_iff.2 (by omega);simp only[go_sem,g,Zmz s,y,List.all_nil,yG]
 |succ k z =>
  intro i hk w hi;rw[Uq];have j:i<s.length:=by omega
  have g:decide ((i:Int)<(s.length:Int))=true:=by simp;omega
  have hw:xN.wrap ((i:Int)+1)=((i+1:Nat):Int):=by rw[Zp (by omega) (by omega)];omega
  have h:((i:Int)==0)=false:=by simp;omega
  simp only[go_sem,g,ZfZ,ZW (yF j),Zon _ h];rw[List.drop_eq_getElem_cons j,xI]
  cases A:(ZaJ s[i] || Zar s[i]) with
  |false=>simp only[go_sem,yB,yV]
  |true =>
   simp only[go_sem,yE,yG,TW,hw];exact z (i+1) (by omega) (by omega) (by omega)
theorem Zqt (s:Zm)(u:s.length<=1048576)(H:Hp):Zh FY [.str s] H=some (.bool (TS s),H):=by
 refine XP (a':=.str s) rfl (H1:=[]) ?_ rfl;rw[Zc6];unfold Sj;simp only[go_sem,Zk]
 cases s with
 |nil=>rw[Uq];simp[go_sem,Zmz [],TS]
 |cons b l =>
  rw[Uq];have h:decide ((0:Int)<((b::l).length:Int))=true:=by simp
  have hw:xN.wrap ((0:Int)+1)=((0+1:Nat):Int):=by decide
  have g:Zx (.str (b::l)) (J xO 0)=some (.int .u8 b.toNat):=by simp[Zx]
  simp only[go_sem,h,ZfZ,g,Zmy];unfold TS
  cases j:ZaJ b with
  |false=>simp only[go_sem,yB,j,yV]
  |true =>
   have:=Zqu (b::l) u [] [] l.length 1 (by simp) (by omega) (by simp);rw[show ((1:Nat):Int)=((0+1:Nat):Int) from rfl]at this;simp only[go_sem,yE,TW,hw,this];simp only[xH,xE,yZ,yB,yG,j]
theorem ZxS {H:Hp}{m g:Nat}{j:List (AV×AV×Nat)}(h:H[m]?=some (.map j g)):K1 (.map m) H=some (J xO (j.length:Int)):=by
 unfold K1 Xk;dsimp only;rw[h]
theorem Zhh {H:Hp}{o:Nat}{s:Sto}{A:List Nat}(h:StoreAt H o s A)(hk:StoOk s)(n:Zm)(hn:n.length<=1048576) :
 ∃ H' A',Wx [.ptr o 0,.str n] H=some (J xO (s.create n).1,H')/\StoRes H H' o (s.create n).2 A A':=by
 obtain⟨m,g,w,h,rfl⟩:=h;obtain⟨H1,F,B,K⟩:=Zk4 h hk.count;have z:=Zqt n hn H1;have S:H1[o]?=some (.cells (YD m s.tick)):=B.cells;have l3:=ld S 3 (v:=.map m) rfl;have N:=B.look n;rw[Xx]at N;have E:=ZxS B.map;have V:(w.map FD.ent).length=s.files.length:=by rw[yA,<-h.files,yA]
 rw[V]at E;rw[CU];unfold RY Sto.create
 cases M:s.tick.crashed with
 |true =>
  rw[M]at F;rw[if_pos rfl];exact⟨H1,_,by simp only[go_sem,F],B.res K⟩
 |false =>
  rw[M]at F;rw[if_neg (by simp)]
  cases Q:TS n with
  |false =>
   rw[Q]at z;rw[if_pos rfl];exact⟨H1,_,by simp only[go_sem,F,z,yB],B.res K⟩
  |true =>
   rw[Q]at z;rw[if_neg (by simp)];rcases N with ⟨Z,k2⟩|⟨a,d,b,Z,k2,k3,k4,k5⟩
   ·rw[Z];by_cases L:64<=s.files.length
    ·have T:decide ((64:Int)<=(s.files.length:Int))=true:=by rw[decide_eq_true_eq];omega
     simp only[if_pos L];exact⟨H1,_,by simp only[go_sem,F,z,yE,l3,k2,E,T],B.res K⟩
    ·have T:decide ((64:Int)<=(s.files.length:Int))=false:=by simp;omega
     have e2:Yr (.map 9 84) .eql (.map m) .nilm=some (.bool false):=rfl;have U:ZQ (.agg [.nils,J xO 0]) H1=some (.ptr H1.length 0,H1++[.cells [.nils,J xO 0]]):=rfl;have O:(H1++[zJ [.nils,J xO 0]])[m]?=some (.map (w.map FD.ent) g):=ZY B.map _
     have R:Xw .string (.map m) (.str n) (.ptr H1.length 0) (H1++[zJ [.nils,J xO 0]])=some (.tuple [],(H1++[zJ [.nils,J xO 0]]).set m (.map (w.map FD.ent++[(.str n,.ptr H1.length 0,g)]) (g+1))):=by
      have W:Wn .string (.str n)=true:=rfl;unfold Xw;dsimp only;rw[O];dsimp only;rw[if_pos W,Zib w n 0 (by rw[h.files];exact Z)]
     simp only[if_neg L];have aa:=Zg B.map;have ab:=Zg S
     have hS:Stp [o,m] H1 ((H1++[zJ [.nils,J xO 0]]).set m (.map (w.map FD.ent++[(.str n,.ptr H1.length 0,g)]) (g+1))) :=
      (Stp.push (A:=[o,m]) H1 _).trans (Stp.set _ _ (by simp)) (fun _ h=>h) fun _ h=>.inl h
     have D:∀ d∈w,FileAt ((H1++[zJ [.nils,J xO 0]]).set m (.map (w.map FD.ent++[(.str n,.ptr H1.length 0,g)]) (g+1))) d:=fun d u=>(B.file d u).frame fun y I=>by
      have:=B.own_lt u I;exact hS.at' y ((B.file d u).lt y I) (by simp[this.1,this.2])
     have X:=B.lt;have ac:=ld (ZY S [zJ [.nils,J xO 0]]) 3 (show (YD m s.tick)[3]?=some (.map m) from rfl);refine⟨(H1++[zJ [.nils,J xO 0]]).set m (.map (w.map FD.ent++[(.str n,.ptr H1.length 0,g)]) (g+1)),o::m::(w++[FD.mk ⟨n,[],0⟩ H1.length .nils g]).flatMap FD.own,?_,⟨⟨m,g+1,w++[⟨⟨n,[],0⟩,H1.length,.nils,g⟩],⟨?_,?_,?_,?_,?_,?_⟩,rfl⟩,?_,?_⟩⟩
     ·simp only[go_sem,F,z,yE,l3,k2,E,T,Cy,e2,Cz,U,R]
     ·show _=s.files++[_];rw[zN,h.files];rfl
     ·rw[Yd _ h.om.symm (ZY S _)];simp only[YD,XQ,Zr,Xx];rfl
     ·rw[Zq _ O];simp[FD.ent]
     ·intro d u;rcases zM.1 u with u|u
      ·exact D d u
      ·rw[zH.1 u];exact⟨Yd _ (by show m≠H1.length;omega) (by simp),.inl ⟨rfl,rfl⟩⟩
     ·rw[zK];have h0:=h.nd;have j:(o::m::w.flatMap FD.own)++[H1.length]=o::m::(w.flatMap FD.own++[FD.mk ⟨n,[],0⟩ H1.length .nils g].flatMap FD.own):=by simp[FD.own,ZI]
      rw[<-j,zS];refine⟨h0,by simp,fun x j y I=>?_⟩;rw[zH.1 I];have:=X x j;omega
     ·obtain⟨b1,b2⟩:=h.born;refine⟨?_,fun d u=>?_⟩
      ·rw[zN,zS];refine⟨b1,by simp,fun x j y I=>?_⟩;obtain⟨d,u,rfl⟩:=yL.1 j;have:=b2 d u;simp at I;omega
      ·rcases zM.1 u with u|u
       ·have:=b2 d u;omega
       ·rw[zH.1 u];simp
     ·refine (K.trans hS (C:=o::m::w.flatMap FD.own) (fun x j=>by rw[zH.1 j];simp) fun x j=>.inl ?_);simp at j;rcases j with e|e <;> subst e <;> simp
     ·intro x j;rcases zF.1 j with e|j
      ·subst e;exact .inl (by simp)
      rcases zF.1 j with e|j
      ·subst e;exact .inl (by simp)
      rw[zK]at j;rcases zM.1 j with j|j
      ·exact .inl (by simp[j])
      ·have Y:x=H1.length:=by simpa[FD.own,ZI]using j
       rw[Y];exact .inr K.len
   ·rw[k4];exact⟨H1,_,by simp only[go_sem,F,z,yE,l3,k5],B.res K⟩
theorem ZdM {α:Type}(a:List α)(d:α)(b:List α):(a++d::b).eraseIdx a.length=a++b:=by
 induction a with
 |nil=>rfl
 |cons x a g=>simp only[zY,yC,List.eraseIdx_cons_succ,g]
theorem E6 {H:Hp}{o:Nat}{s:Sto}{A:List Nat}(h:StoreAt H o s A)(hk:StoOk s)(n:Zm) :
 ∃ H' A',Xv [.ptr o 0,.str n] H=some (J xO (s.remove n).1,H')/\StoRes H H' o (s.remove n).2 A A':=by
 obtain⟨m,j,ds,h,rfl⟩:=h;obtain⟨p,e,H1,q1,D,q3,q4⟩:=Zb4 h hk.count n;rw[CV];unfold RZ Sto.remove;rcases q4 with ⟨K,rfl⟩|⟨K,c2,rfl⟩|⟨K,rfl,a,d,b,rfl,R,S,c5,rfl⟩
 ·have L:((19:Int)==0)=false:=rfl;rw[if_pos K];exact⟨H1,_,by simp only[q1,go_sem,zA,zB,L,UQ],D.res q3⟩
 ·have L:((5:Int)==0)=false:=rfl;rw[if_neg (by simp[K]),c2];exact⟨H1,_,by simp only[q1,go_sem,zA,zB,L,UQ],D.res q3⟩
 ·have L:((0:Int)==0)=true:=rfl;rw[if_neg (by simp[K]),c5];obtain⟨k1,hd,k3,k4⟩:=D.mid
  have F:Zr s.files=Zr (a.map FD.fil)+(d.fil.text.length+Zr (b.map FD.fil)):=by
   rw[<-h.files,zN,zG,Bh]
  have O:VR s.files n=a.map FD.fil++b.map FD.fil:=by rw[<-h.files,Zy8 a d b n R S]
  have Y:Zr (VR s.files n)=Zr s.files-d.fil.text.length:=by rw[O,XQ,F];omega
  have Z:=hk.used;have ab:=hk.limit;have Q:H1[o]?=some (.cells (YD m s.tick)):=D.cells;have l1:=ld Q 1 (v:=J xO (Zr s.files:Int)) (by rw[<-Xx s];rfl);have l3:=ld Q 3 (v:=.map m) rfl;have m0:=ld hd.cells 0 (v:=d.tx) rfl;have N:=hd.text.len 5
  have X:Y7 .string .nilp false (.map m) (.str n) H1=some (.ptr d.f 0):=by
   rcases D.look n with ⟨k,_⟩|⟨a',d',b',k5,k6,k7,k8,k9⟩
   ·rw[Xx,c5]at k;cases k
   ·rw[k9];have u:YT (.str n) ((a++d::b).map FD.ent) 0=YT (.str n) ((a'++d'::b').map FD.ent) 0:=by rw[k5]
    rw[En a d b n 0 R S,En a' d' b' n 0 k6 k7]at u;injection u with u;injection u with u;injection u with _ u;injection u with u;rw[u]
  have hw:xN.wrap ((Zr s.files:Int)-(d.fil.text.length:Int))=((Zr s.files-d.fil.text.length:Nat):Int):=by rw[Zp (by omega) (by omega)];omega
  have s1:=st Q 1 (v:=J xO ((Zr s.files-d.fil.text.length:Nat):Int)) rfl rfl (by simp[YD]);have T:=Zq (zJ (zO (YD m s.tick) 1 (J xO ((Zr s.files-d.fil.text.length:Nat):Int)))) Q;have U:=Yd (.cells (zO (YD m s.tick) 1 (J xO ((Zr s.files-d.fil.text.length:Nat):Int)))) h.om D.map;have n3:=ld T 3 (v:=.map m) rfl;generalize V:H1.set o (.cells (zO (YD m s.tick) 1 (J xO ((Zr s.files-d.fil.text.length:Nat):Int))))=I at s1 T U n3
  have M:Jz .string (.map m) (.str n) I=some (.tuple [],I.set m (.map ((a++b).map FD.ent) j)):=by
   have W:Wn .string (.str n)=true:=rfl;unfold Jz;dsimp only;rw[U];dsimp only;rw[if_pos W,En a d b n 0 R S];dsimp only;rw[zD,zN,zG,show a.length=(a.map FD.ent).length by simp,ZdM,zN]
  have hS:Stp [o,m] H1 (I.set m (.map ((a++b).map FD.ent) j)):=by
   rw[<-V];exact (Stp.set _ _ (by simp)).trans (Stp.set _ _ (by simp)) (fun _ h=>h) fun _ h=>.inl h
  have g:∀ y∈a++b,y∈a++d::b:=fun y B=>by rcases zM.1 B with k|k <;> simp[k]
  refine⟨I.set m (.map ((a++b).map FD.ent) j),o::m::(a++b).flatMap FD.own,?_,⟨⟨m,j,a++b,⟨?_,?_,?_,?_,?_,?_⟩,rfl⟩,?_,?_⟩⟩
  ·have E:GQ [.ptr o 0,.str n] H1=some (.tuple [],I.set m (.map ((a++b).map FD.ent) j)):=by
    rw[O3];unfold NV;simp only[go_sem,l3,X,l1,m0,N,hw,s1,n3,M]
   simp only[q1,go_sem,zA,zB,L,E,UQ]
  ·show _=VR s.files n;rw[O,zN]
  ·rw[Yd _ h.om.symm T];simp only[YD,Y];rfl
  ·exact Zq _ U
  ·intro y B;refine (D.file y (g y B)).frame fun z hz=>hS.at' z ((D.file y (g y B)).lt z hz) ?_;have:=D.own_lt (g y B) hz;simp[this.1,this.2]
  ·refine (yW ?_ h.nd);rw[zK,zK,zU];exact ((xA _).append (List.sublist_append_right _ _)).cons_cons m |>.cons_cons o
  ·obtain⟨b1,b2⟩:=h.born;refine⟨?_,fun y B=>b2 y (g y B)⟩;rw[zN,zG]at b1;rw[zN];exact yW ((xA _).append (List.sublist_cons_self _ _)) b1
  ·refine q3.trans hS (C:=o::m::(a++d::b).flatMap FD.own) (fun x w=>by rw[zH.1 w];simp) fun x w=>.inl ?_;simp at w;rcases w with e|e <;> subst e <;> simp
  ·intro x w;rcases zF.1 w with e|w
   ·subst e;exact .inl (by simp)
   rcases zF.1 w with e|w
   ·subst e;exact .inl (by simp)
   obtain⟨y,B,aa⟩:=xC.1 w;exact .inl (yI _ (yI _ (xC.2 ⟨y,g y B,aa⟩)))
def Uj (l:List Fil):List Fil:=(VT (l.map Fil.name)).filterMap (ZP l)
def Yk (f:Fil):AV:=.agg [.str f.name,J xO (f.text.length:Int),J xO (f.syn:Int)]
theorem Zua:∀ g:List FD,AG (g.map FD.ent)=some (g.map fun d=>d.fil.name):=by
 intro g
 induction g with
 |nil=>rfl
 |cons d g h=>rw[zG,FD.ent,AG,h];rfl
theorem ZsU:∀ l:List Zm,l.Nodup->SZ l=true:=by
 intro l
 induction l with
 |nil=>intro _;rfl
 |cons s r w =>
  intro h;obtain⟨g,j⟩:=zE.1 h;simp only[SZ,zX,yH];refine⟨fun t u=>?_,w j⟩;have:t≠s:=fun e=>g (e ▸ u);simp[this]
theorem ZuN (c:Nat):∀ l:List Nat,l.Nodup->(∀ n∈l,n<c)->Zag c l=true:=by
 intro l
 induction l with
 |nil=>intro _ _;rfl
 |cons s r z =>
  intro h g;obtain⟨j,u⟩:=zE.1 h;simp only[Zag,zX,yH,decide_eq_true_eq];refine⟨g s (by simp),fun t y=>?_,z u fun n w=>g n (by simp[w])⟩;have:t≠s:=fun e=>j (e ▸ y);simp[this]
theorem ZmW {n:Zm}(h:TS n=true):n.length<=32:=by
 unfold TS at h;rw[zX,decide_eq_true_eq]at h;exact h.2
theorem Zkz {H:Hp}{o m g:Nat}{u:List FD}{s:Sto}(h:StAt H o m g u s)(hk:StoOk s):∃ x,namesE.run [.ptr o 0] H=some (x,H)/\SS x (VT (s.files.map Fil.name)):=by
 have w:u.map (fun d=>d.fil.name)=s.files.map Fil.name:=by rw[<-h.files,xK];rfl
 have D:By H o=some (Ziz (s.files.map Fil.name)):=by
  unfold By;rw[h.cells];dsimp only;rw[show ([xG .i64 (s.limit:Int),J xO (Zr s.files:Int),J xO (s.peak:Int),.map m,.bool s.crashed,J xO (s.count:Int)])[3]?=some (.map m) from rfl];dsimp only;rw[h.map];dsimp only;rw[Zua,w];dsimp only;rw[if_pos]
  have y:=ZuN g _ h.born.1 fun n j=>by
   obtain⟨d,z,rfl⟩:=yL.1 j;exact h.born.2 d z
  have A:(u.map FD.ent).map (·.2.2)=u.map FD.born:=by rw[xK];rfl
  rw[A,y,ZsU _ hk.nd];simp only[yG,zX,yH,decide_eq_true_eq,yA];refine⟨fun t C=>?_,by have:=hk.len;omega⟩;obtain⟨f,B,rfl⟩:=yL.1 C;have:=ZmW (hk.name f B);omega
 refine⟨Ziz (s.files.map Fil.name),?_,?_⟩
 ·show (By H o).map (·,H)=_;rw[D];rfl
 ·unfold Ziz;split
  ·rename_i j;exact .inl ⟨rfl,by rw[j];rfl⟩
  ·rename_i E r j;exact .inr ⟨.no,by rw[j]⟩
theorem Ztg {u:Hp}{o m E:Nat}{U:List FD}{s:Sto}(h:StAt u o m E U s)(hk:StoOk s){x:AV}{j:List Zm}(hx:SS x j)(S:∀ n∈j,∃ f,ZP s.files n=some f)(hl:j.length<=64)(X:Hp):∀ (r d:List Zm) (L:AV) (H:Hp),j=d++r ->
 RowN u.length H 3 L ((d.filterMap (ZP s.files)).map Yk)->Keep u.length u H->u.length<=H.length ->
 ∃ y H',Q4 (.ptr o 0) L x (J xO (j.length:Int)) (J xO (d.length:Int)) X H=some (y,H')/\RowN u.length H' 3 y ((j.filterMap (ZP s.files)).map Yk)/\Keep u.length u H'/\u.length<=H'.length:=by
 intro r
 induction r with
 |nil =>
  intro d L H z M K g;rw[zT]at z;subst z;have D:decide ((j.length:Int)<(j.length:Int))=false:=by simp
  rw[Fq];simp only[go_sem,D,Iy];exact⟨_,_,rfl,M,K,g⟩
 |cons n r ih =>
  intro d L H z M K g;have R:j.length=d.length+(r.length+1):=by rw[z];simp
  have D:decide ((d.length:Int)<(j.length:Int))=true:=by simp;omega
  have T:xN.wrap ((d.length:Int)+1)=((d.length+1:Nat):Int):=by rw[Zp (by omega) (by omega)];omega
  have Q:j[d.length]?=some n:=by rw[z,zI (zL _)];simp
  have F:=SS.idx hx Q;have w:StAt H o m E U s:=h.frame fun a Y=>K a (h.lt a Y);obtain⟨f,N⟩:=S n (by rw[z];simp);have l3:=ld w.cells 3 (v:=.map m) rfl;rcases w.look n with ⟨k,_⟩|⟨a',d',b',k5,k6,k7,V,k9⟩
  ·rw[N]at k;cases k
  ·have A:=w.file d' (by rw[k5];simp);have O:f=d'.fil:=by rw[N]at V;injection V
   have m0:=ld A.cells 0 (v:=d'.tx) rfl;have m1:=ld A.cells 1 (v:=J xO (d'.fil.syn:Int)) rfl;have C:=A.text.len 5;have B:(YS [(0,1,.str n),(1,1,J xO (d'.fil.text.length:Int)),(2,1,J xO (d'.fil.syn:Int))] [(.str []),(J xO 0),(J xO 0)]).map AV.agg=some (Yk d'.fil):=by rw[<-k6];rfl
   have I:(ZB 3 [(0,Yk d'.fil)] [(.agg [(.str []),(J xO 0),(J xO 0)])]).map (AV.vs 3 .clip)=some (.vs 3 .clip [Yk d'.fil]):=rfl;have Z:(d.filterMap (ZP s.files)).length<=d.length:=List.length_filterMap_le _ _;obtain⟨x',H1,q1,q2,q3,q4,_⟩:=M.app g 32 (.vs 3 .clip [Yk d'.fil]) [Yk d'.fil] rfl (by simp;omega);obtain⟨y,H',W,p2,p3,p4⟩:=ih (d++[n]) x' H1 (by rw[z];simp) (by rw[List.filterMap_append,zN];simpa[N,O]using q2) (K.trans q4) q3;rw[zQ,zP]at W;refine⟨y,H',?_,p2,p3,p4⟩;rw[Fq];simp only[go_sem,D,Iz,F,Zz,l3,k9,m0,m1,C,B,I,q1,IA,T];exact W
theorem Mp (l:List Zm)(n:Zm):n∈VT l↔n∈l:=(QN l).mem_iff
theorem C0 {l:List Fil}{n:Zm}(h:n∈l.map Fil.name):∃ f,ZP l n=some f:=by
 cases j:ZP l n with
 |some f=>exact⟨f,rfl⟩
 |none =>
  obtain⟨f,g,rfl⟩:=yL.1 h;exact absurd rfl (Zkl.1 j f g)
theorem Zm1 (H:Hp)(n f:Nat)(x:Fil):Ze H n (f+2) (Yk x)=some (Yk x):=rfl
theorem Zw2 (H:Hp)(n f:Nat):∀ l:List Fil,(l.map Yk).mapM (Ze H n (f+2))=some (l.map Yk):=by
 intro l
 induction l with
 |nil=>rfl
 |cons a l g=>rw[zG,xF,Zm1,g];rfl
theorem Cc {f:List AV->Hp->Z4}{args:List AV}{H H1:Hp}{v v':AV}(h:f args H=some (v,H1))(g:Keep H.length H H1)(w:H.length<=H1.length)(u:Ze H1 H.length 9 v=some v'):JQ f args H=some (v',H):=by
 have j:H1.take H.length=H:=by
  apply List.ext_getElem?;intro i;by_cases hi:i<H.length
  ·rw[List.getElem?_take_of_lt hi,g i hi]
  ·rw[yU (by simp;omega),yU (by omega)]
 unfold JQ;rw[h];dsimp only;rw[j,if_pos (ZdK _),u]
theorem Zjj {H:Hp}{o:Nat}{s:Sto}{A:List Nat}(h:StoreAt H o s A)(hk:StoOk s):∃ x,JQ Xn [.ptr o 0] H=some (x,H)/\Sl 3 x ((Uj s.files).map Yk):=by
 obtain⟨m,C,K,h,rfl⟩:=h;obtain⟨x,I,B⟩:=Zkz h hk;have u:(VT (s.files.map Fil.name)).length<=64:=by rw[(QN _).length_eq,yA];exact hk.len
 obtain⟨y,H1,E,F,w,z⟩:=Ztg h hk B (fun n j=>C0 ((Mp _ _).1 j)) u H _ [] .nils H rfl (.inl ⟨rfl,rfl⟩) (Keep.refl _ _) (zL _)
 have g:Xn [.ptr o 0] H=some (y,H1):=by
  rw[O0];unfold NS;simp only[go_sem,Ix,I,SS.len B 9];exact E
 rcases F with ⟨rfl,j⟩|⟨t,e,rfl,L,D⟩
 ·exact⟨.nils,Cc g w z rfl,.inl ⟨rfl,j⟩⟩
 ·refine⟨.vs 3 (if t<H.length then .own t e else .no) ((Uj s.files).map Yk),Cc g w z (by rw[Ed,Zw2];rfl),.inr ⟨_,rfl⟩⟩
theorem Zx8 (n:Int)(j:-9223372036854775808<=n/\n<=9223372036854775807)(H:Hp):∃ H',ND [J xO n] H=some (.ptr (H.length+1) 0,H')/\StoreAt H' (H.length+1) ⟨(min (max n 0) 262144).toNat,0,[],false,0⟩ [H.length+1,H.length]/\H'=H++[.map [] 0,.cells [J xO (min (max n 0) 262144),J xO 0,J xO 0,.map H.length,.bool false,J xO 0]]:=by
 have h:(YS [(0,1,J xO (min (max n 0) 262144)),(3,1,.map H.length)] [(J xO 0),(J xO 0),(J xO 0),.nilm,(.bool false),(J xO 0)]).map AV.agg=some (.agg [J xO (min (max n 0) 262144),J xO 0,J xO 0,.map H.length,.bool false,J xO 0]):=rfl;have g:∀ l:List AV,ZQ (.agg l) (H++[.map [] 0])=some (.ptr (H.length+1) 0,H++[.map [] 0]++[.cells l]):=fun l=>by rw[Rt rfl];simp[AV.cells]
 refine⟨_,?_,⟨H.length,0,[],⟨rfl,?_,?_,by simp,by simp,by simp,by simp⟩,rfl⟩,rfl⟩
 ·rw[Zjh];unfold ZfM;simp only[go_sem,h,g,yP,zY,yR]
 ·have:((min (max n 0) 262144).toNat:Int)=min (max n 0) 262144:=by omega
  simp[Zr,this]
 ·simp
def BJ (a b:Int):Int:=IntKind.u32.wrap ((BitVec.ofInt IntKind.u32.bits a ^^^ BitVec.ofInt IntKind.u32.bits b).toNat:Int)
def Zab (a b:Int):Int:=IntKind.u32.wrap ((BitVec.ofInt IntKind.u32.bits a &&& BitVec.ofInt IntKind.u32.bits b).toNat:Int)
theorem ZqC (a b:Int):Z5 .xor (.int .u32 a) (.int .u32 b)=some (.int .u32 (BJ a b)):=by simp[Z5,XB,XF,BJ]
theorem ZqB (a b:Int):Z5 .and (.int .u32 a) (.int .u32 b)=some (.int .u32 (Zab a b)):=by simp[Z5,XB,XF,Zab]
def DK (k:IntKind)(n:Nat)(a:Int):Int:=a.fdiv (2 ^ (min n k.bits))
def Zwy (a:Int):Int:=xN.wrap (a*2 ^ (min 8 IntKind.i64.bits))
theorem R0 (k k':IntKind)(a:Int)(n:Nat):Z5 .shr (.int k a) (.int k' (n:Int))=some (.int k (DK k n a)):=by
 simp only[Z5,XB,DK];rw[if_neg (by omega),zW]
theorem ZfS (a:Int):0<=Zab a 15/\Zab a 15<16:=by
 have h:(BitVec.ofInt IntKind.u32.bits a &&& BitVec.ofInt IntKind.u32.bits 15).toNat<=15:=by
  rw[BitVec.toNat_and];exact xJ Nat.and_le_right (by decide)
 unfold Zab;generalize (BitVec.ofInt IntKind.u32.bits a &&& BitVec.ofInt IntKind.u32.bits 15).toNat=n at h
 have:IntKind.u32.wrap (n:Int)=(n:Int):=by
  have g:(2 ^ IntKind.u32.bits:Int)=4294967296:=by decide
  have j:IntKind.u32.signed=false:=rfl;unfold IntKind.wrap;simp only[g,j,yV,zZ,if_false];omega
 rw[this];omega
def Zrr (i:Int):Int:=crcTab.getD i.toNat 0
theorem Zpl {i:Int}(h:0<=i/\i<16)(H:Hp):∃ p,WO 16 1 Zq7 (.int .u32 i)=some p/\Z3 false 1 p H=some (.int .u32 (Zrr i)):=by
 have g:crcTab.length=16:=rfl;refine⟨.vp ((crcTab.map (xG .u32)).drop (i.toNat*1)),?_,?_⟩
 ·unfold WO;dsimp only;rw[if_pos (by omega)];unfold Z6 Zq7;dsimp only;rw[if_pos (by simp[g];omega)]
 ·unfold Z3 Go.Am.apart Zrr;dsimp only;rw[if_neg (by simp),List.getElem?_drop,xL,yT,List.getElem?_map,yF (show i.toNat<crcTab.length by omega),yM,yF (show i.toNat<crcTab.length by omega)];rfl
def Zip (c:Int):Int:=BJ (Zrr (Zab c 15)) (DK .u32 4 c)
def Zx5 (c:Int)(b:UInt8):Int:=Zip (Zip (BJ c (IntKind.u32.wrap (b.toNat:Int))))
def N4 (s:Zm):Int:=s.foldl Zx5 4294967295
def Ie (s:Zm):Int:=BJ IntKind.u32.max (N4 s)
theorem Zv5 (s:Zm)(N:s.length<=1048576)(C H:Hp):∀ (r d:Zm),s=d++r->TC (.str s) (.int .u32 (N4 d)) (J xO (s.length:Int)) (J xO (d.length:Int)) C H=some (.int .u32 (Ie s),H):=by
 intro r
 induction r with
 |nil =>
  intro d h;rw[zT]at h;subst h;have g:decide ((s.length:Int)<(s.length:Int))=false:=by simp
  have L:XL .xor (.int .u32 (N4 s))=some (.int .u32 (Ie s)):=rfl;rw[Ai];simp only[go_sem,g,Zii,L]
 |cons b r M =>
  intro d h;have z:s.length=d.length+(r.length+1):=by rw[h];simp
  have g:decide ((d.length:Int)<(s.length:Int))=true:=by simp;omega
  have y:xN.wrap ((d.length:Int)+1)=((d.length+1:Nat):Int):=by rw[Zp (by omega) (by omega)];omega
  have j:Zx (.str s) (J xO (d.length:Int))=some (.int .u8 (b.toNat:Int)):=ZW (by rw[h,zI (zL _)];simp);have w:Yq .u32 (.int .u8 (b.toNat:Int))=some (.int .u32 (IntKind.u32.wrap (b.toNat:Int))):=rfl;obtain⟨O,D,E⟩:=Zpl (ZfS (BJ (N4 d) (IntKind.u32.wrap (b.toNat:Int)))) H;obtain⟨Q,F,I⟩:=Zpl (ZfS (Zip (BJ (N4 d) (IntKind.u32.wrap (b.toNat:Int))))) H;have A:=R0 .u32 .u64 (BJ (N4 d) (IntKind.u32.wrap (b.toNat:Int))) 4;have B:=R0 .u32 .u64 (Zip (BJ (N4 d) (IntKind.u32.wrap (b.toNat:Int)))) 4;rw[show ((4:Nat):Int)=4 from rfl]at A B;have u:=M (d++[b]) (by rw[h];simp);rw[zQ,zP,show N4 (d++[b])=Zx5 (N4 d) b by simp[N4]]at u;have K:BJ (Zrr (Zab (BJ (N4 d) (IntKind.u32.wrap (b.toNat:Int))) 15)) (DK .u32 4 (BJ (N4 d) (IntKind.u32.wrap (b.toNat:Int))))=Zip (BJ (N4 d) (IntKind.u32.wrap (b.toNat:Int))):=rfl;rw[Ai];simp only[go_sem,g,Zij,j,w,ZqC,ZqB,D,E,A,K,F,I,B,Zik,y];exact u
theorem Zv4 (s:Zm)(g:s.length<=1048576)(H:Hp):Zh AR [.str s] H=some (.int .u32 (Ie s),H):=by
 refine XP (a':=.str s) rfl (H1:=[]) ?_ rfl;rw[Zjd];unfold ZfI;simp only[go_sem];exact Zv5 s g [] [] s [] rfl
def Ua (n:Int):UInt8:=zR (IntKind.u8.wrap n).toNat
def ZeG (s:Zm):Zm:=[Ua (Ie s),Ua (DK .u32 8 (Ie s)),Ua (DK .u32 16 (Ie s)),Ua (DK .u32 24 (Ie s))]
theorem Znu (s:Zm)(z:s.length<=1048576)(H:Hp):Zh NA [.str s] H=some (.str (ZeG s),H):=by
 have w:=R0 .u32 .u64 (Ie s) 8;have g:=R0 .u32 .u64 (Ie s) 16;have h:=R0 .u32 .u64 (Ie s) 24;rw[show ((8:Nat):Int)=8 from rfl]at w;rw[show ((16:Nat):Int)=16 from rfl]at g;rw[show ((24:Nat):Int)=24 from rfl]at h;have y:∀ n,Yq .u8 (.int .u32 n)=some (.int .u8 (IntKind.u8.wrap n)):=fun n=>rfl;have u:∀ a b c d:Int,(ZB 1 [(0,.int .u8 a),(1,.int .u8 b),(2,.int .u8 c),(3,.int .u8 d)] [(.int .u8 0),(.int .u8 0),(.int .u8 0),(.int .u8 0)]).map (AV.vs 1 .clip)=some (.vs 1 .clip [.int .u8 a,.int .u8 b,.int .u8 c,.int .u8 d]):=fun a b c d=>rfl;have j:∀ (a b c d:Int) (H:Hp),Qb (.vs 1 .clip [.int .u8 a,.int .u8 b,.int .u8 c,.int .u8 d]) H=some (.str [zR a.toNat,zR b.toNat,zR c.toNat,zR d.toNat]):=fun a b c d H=>rfl;refine XP (a':=.str s) rfl (H1:=[]) ?_ rfl;rw[Zje];unfold ZfJ;simp only[Zv4 s z,go_sem,y,w,g,h,u,j];rfl
theorem Znt (s:Zm):(ZeG s).length=4:=rfl
def Jf (s:Zm):Zm:=[Ua (DK .i64 8 (s.length:Int)),Ua (s.length:Int)]++s
def X3 (s:Zm):Zm:=Jf s++ZeG (Jf s)
theorem JN (s:Zm):(Jf s).length=s.length+2:=by simp[Jf]
theorem B8 (s:Zm):(X3 s).length=s.length+6:=by simp[X3,JN,Znt]
theorem Zwl (s:Zm)(C:s.length<=1048576)(H:Hp):Zh PS [.str s] H=some (if 4096<s.length then .tuple [.str [],J xO 3] else .tuple [.str (X3 s),J xO 0],H):=by
 refine XP (a':=.str s) rfl (H1:=[]) ?_ (by split <;> rfl)
 rw[Zf4];unfold IN;by_cases h:4096<s.length
 ·have g:decide ((4096:Int)<(s.length:Int))=true:=by rw[decide_eq_true_eq];omega
  simp only[go_sem,g,if_pos h]
 ·have g:decide ((4096:Int)<(s.length:Int))=false:=by simp;omega
  have y:=R0 .i64 .u64 (s.length:Int) 8;rw[show ((8:Nat):Int)=8 from rfl]at y;have B:∀ n,Yq .u8 (J xO n)=some (.int .u8 (IntKind.u8.wrap n)):=fun n=>rfl;have w:∀ a b:Int,(ZB 1 [(0,.int .u8 a),(1,.int .u8 b)] [(.int .u8 0),(.int .u8 0)]).map (AV.vs 1 .clip)=some (.vs 1 .clip [.int .u8 a,.int .u8 b]):=fun a b=>rfl;have u:∀ (a b:Int) (H:Hp),Qb (.vs 1 .clip [.int .u8 a,.int .u8 b]) H=some (.str [zR a.toNat,zR b.toNat]):=fun a b H=>rfl;have j:[zR (IntKind.u8.wrap (DK .i64 8 (s.length:Int))).toNat,zR (IntKind.u8.wrap (s.length:Int)).toNat]++s=Jf s:=rfl;have z:YR .add (.str [zR (IntKind.u8.wrap (DK .i64 8 (s.length:Int))).toNat,zR (IntKind.u8.wrap (s.length:Int)).toNat]) (.str s)=some (.str (Jf s)):=by rw[Cg (by simp;omega),j]
  have A:YR .add (.str (Jf s)) (.str (ZeG (Jf s)))=some (.str (X3 s)):=by rw[Cg (by rw[JN,Znt];omega)];rfl
  simp only[go_sem,g,Ze8,y,B,w,u,z,Znu (Jf s) (by rw[JN];omega),A,if_neg h]
def ZX:List Zm->Zm
 |[]=>[]
 |s::r=>X3 s++ZX r
theorem Zmo (a b:List Zm):ZX (a++b)=ZX a++ZX b:=by
 induction a with
 |nil=>rfl
 |cons s a g=>simp only[zY,ZX,g,yP]
def Yc:List Zm->Nat
 |[]=>0
 |s::r=>s.length+6+Yc r
theorem QU (l:List Zm):(ZX l).length=Yc l:=by
 induction l with
 |nil=>rfl
 |cons s r g=>simp only[ZX,Yc,zQ,B8,g]
theorem HZ (a b:List Zm):Yc (a++b)=Yc a+Yc b:=by
 induction a with
 |nil=>simp[Yc]
 |cons s a g=>simp only[zY,Yc,g];omega
def YU (l:List Zm):Bool:=l.all fun s=>decide (s.length<=4096)
theorem ZwF (g s:Zm)(h:g.length+s.length<=4194304):∃ v,textE.run [.ptr 0 0,.str s] [yS N1 N3 g]=some (v,[yS N1 N3 (g++s)]):=by
 have j:g.length+s.length<=ZgW:=by unfold ZgW;omega
 refine⟨.tuple [J xO s.length,.nili],?_⟩;simp only[textE,ZwS,Zjr,Sz,Zly,zA,ZgD,and_self,if_true,if_pos j,List.set_cons_zero]
theorem Zvn {x:AV}{l:List Zm}(R:SS x l)(N:∀ s∈l,s.length<=1048576)(S:Yc l<=4194304)(L:Hp):∀ (r d:List Zm),l=d++r->YU d=true ->
 ∃ H',GA (.ptr 0 0) x (J xO (l.length:Int)) (J xO (d.length:Int)) L [yS N1 N3 (ZX d)]=some (if YU l=true then .tuple [.str (ZX l),J xO 0] else .tuple [.str [],J xO 3],H'):=by
 intro r
 induction r with
 |nil =>
  intro d j B;rw[zT]at j;subst j;have u:decide ((l.length:Int)<(l.length:Int))=false:=by simp
  have E:stringE.run [.ptr 0 0] [yS N1 N3 (ZX l)]=some (.str (ZX l),[yS N1 N3 (ZX l)]):=ZiT _;rw[Mh];simp only[go_sem,u,Ze5,E,if_pos B];exact⟨_,rfl⟩
 |cons s r I =>
  intro d j B
  have y:∀ l:List Zm,6*l.length<=Yc l:=by
   intro l
   induction l with
   |nil=>simp[Yc]
   |cons s l I=>simp only[Yc,yC];omega
  have:=y l;have H:l.length=d.length+(r.length+1):=by rw[j];simp
  have u:decide ((d.length:Int)<(l.length:Int))=true:=by simp;omega
  have F:xN.wrap ((d.length:Int)+1)=((d.length+1:Nat):Int):=by rw[Zp (by omega) (by omega)];omega
  have C:l[d.length]?=some s:=by rw[j,zI (zL _)];simp
  have w:=SS.idx R C;have O:=N s (by rw[j];simp);have g:=Zwl s O [yS N1 N3 (ZX d)];rw[Mh];by_cases h:4096<s.length
  ·have D:YU l=false:=by
    rw[j];simp only[YU,List.all_append,xI];rw[show decide (s.length<=4096)=false by simp;omega];simp
   have M:((3:Int) != 0)=true:=rfl;rw[if_pos h]at g;simp only[go_sem,u,Mg,w,Zz,g,zA,zB,M,D,zZ,if_false];exact⟨_,rfl⟩
  ·have e0:((0:Int) != 0)=false:=rfl;rw[if_neg h]at g;have z:Yc l=Yc d+(s.length+6+Yc r):=by rw[j,HZ];rfl
   obtain⟨v,Q⟩:=ZwF (ZX d) (X3 s) (by rw[QU,B8];omega);have A:ZX (d++[s])=ZX d++X3 s:=by rw[Zmo];simp[ZX]
   obtain⟨H',K⟩:=I (d++[s]) (by rw[j];simp) (by
    have:YU (d++[s])=(YU d&&(decide (s.length<=4096)&&true)):=by simp[YU]
    rw[this,B];simp;omega)
   rw[zQ,zP,A]at K;refine⟨H',?_⟩;simp only[go_sem,u,Mg,w,Zz,g,zA,zB,e0,Ze7,Q,Ze6,F];exact K
theorem Zvm {x:AV}{l:List Zm}(u:SS x l)(h:∀ s∈l,s.length<=1048576)(j:Yc l<=4194304)(H:Hp) :
 Zh PR [x] H=some (if YU l=true then .tuple [.str (ZX l),J xO 0] else .tuple [.str [],J xO 3],H):=by
 obtain⟨z,w,g⟩:=SS.closed u [] 0 7;obtain⟨H',y⟩:=Zvn g h j [] l [] rfl rfl;refine XP w (H1:=H') ?_ (by split <;> rfl)
 rw[Zf3];unfold IM;simp only[go_sem,SS.len g 9,xD,yR];exact y
def Zr4 (a b:Int):Int:=xN.wrap ((BitVec.ofInt IntKind.i64.bits a ||| BitVec.ofInt IntKind.i64.bits b).toNat:Int)
def Zx3 (a b:UInt8):Int:=Zr4 (Zwy (xN.wrap (a.toNat:Int))) (xN.wrap (b.toNat:Int))
theorem ZtN:((xM 4097).all fun n=>decide (Zx3 (Ua (DK .i64 8 (n:Int))) (Ua (n:Int))=(n:Int)))=true:=by kernel_rfl
theorem Zwi {n:Nat}(h:n<=4096):Zx3 (Ua (DK .i64 8 (n:Int))) (Ua (n:Int))=(n:Int):=by
 have:=yH.1 ZtN n (List.mem_range.2 (by omega));simpa using this
theorem Ztu (s rest:Zm)(O:s.length<=4096)(V:rest.length<=1048576)(H:Hp):Zh ER [.str (X3 s++rest),J xO 0] H=some (.tuple [.str s,J xO ((s.length+6:Nat):Int),J xO 0],H):=by
 refine FP (a':=.str (X3 s++rest)) (b':=J xO 0) rfl rfl (H1:=[]) ?_ rfl;have j:(X3 s++rest).length=s.length+6+rest.length:=by rw[zQ,B8]
 have h:X3 s++rest=Ua (DK .i64 8 (s.length:Int))::Ua (s.length:Int)::(s++(ZeG (Jf s)++rest)):=by simp[X3,Jf]
 generalize E:X3 s++rest=g at j h;have I:decide ((0:Int)<0)=false:=rfl;have K:decide ((g.length:Int)<0)=false:=by rw[decide_eq_false_iff_not];omega
 have A:Y8 (.str g) (some (J xO 0)) none none=some (.str g):=by
  rw[Ea .i64 (by omega) (by omega)];simp
 have L:decide ((g.length:Int)<2)=false:=by rw[decide_eq_false_iff_not];omega
 have Q:Zx (.str g) (J xO 0)=some (.int .u8 ((Ua (DK .i64 8 (s.length:Int))).toNat:Int)):=ZW (i:=0) (by rw[h];rfl);have R:Zx (.str g) (J xO 1)=some (.int .u8 ((Ua (s.length:Int)).toNat:Int)):=ZW (i:=1) (by rw[h];rfl);have F:∀ n,Yq .i64 (.int .u8 n)=some (J xO (xN.wrap n)):=fun n=>rfl;have z:∀ a:Int,Z5 .shl (J xO a) (.int .u64 8)=some (J xO (Zwy a)):=fun a=>rfl;have w:∀ a b:Int,Z5 .or (J xO a) (J xO b)=some (J xO (Zr4 a b)):=fun a b=>by simp[Z5,XB,XF,Zr4]
 have y:Zr4 (Zwy (xN.wrap ((Ua (DK .i64 8 (s.length:Int))).toNat:Int))) (xN.wrap ((Ua (s.length:Int)).toNat:Int))=(s.length:Int):=Zwi O;have M:decide ((4096:Int)<(s.length:Int))=false:=by simp;omega
 have U:xN.wrap ((s.length:Int)+6)=((s.length+6:Nat):Int):=by rw[Zp (by omega) (by omega)];omega
 have T:xN.wrap ((s.length:Int)+2)=((s.length+2:Nat):Int):=by rw[Zp (by omega) (by omega)];omega
 have S:xN.wrap (0+(s.length:Int))=(s.length:Int):=by rw[Zp (by omega) (by omega)];omega
 have N:decide ((g.length:Int)<((s.length+6:Nat):Int))=false:=by simp;omega
 have B:Y8 (.str g) (some (J xO ((s.length+2:Nat):Int))) (some (J xO ((s.length+6:Nat):Int))) none=some (.str (ZeG (Jf s))):=by
  rw[Zad .i64 .i64 (by omega) (by omega) (by omega)];congr 2;rw[<-E,zW,zW,yK (by rw[B8];exact zL _),zV (by rw[B8];exact zL _)];unfold X3;rw[List.drop_append_of_le_length (by rw[JN];exact zL _),List.drop_of_length_le (by rw[JN];exact zL _)];rfl
 have C:Y8 (.str g) none (some (J xO ((s.length+2:Nat):Int))) none=some (.str (Jf s)):=by
  rw[ZhO .i64 (by omega) (by omega)];congr 2;rw[<-E,zW];unfold X3;rw[yP,yK (by rw[JN];exact zL _),zV (by rw[JN];exact zL _)]
 have D:Y8 (.str g) (some (J xO 2)) (some (J xO ((s.length+2:Nat):Int))) none=some (.str s):=by
  rw[Zad .i64 .i64 (by omega) (by omega) (by omega)];congr 2;rw[h,zW];simp
 have u:(!(ZeG (Jf s)==ZeG (Jf s)))=false:=by simp
 rw[Zhk];unfold ZcS;simp only[go_sem,I,K,ZgN,A,L,ZgO,Q,R,F,z,w,y,M,ZgP,U,N,ZgQ,T,B,C,Znu (Jf s) (by rw[JN];omega),u,ZgR,D,S]
structure Tmp where
 owner:Zm
 names:List Zm
 sld:List Zm
 limit:Nat
 last:Nat
 closed:Bool
def NmAt (H:Hp)(x:AV)(l:List Zm):Prop:=x=.nils/\l=[]\/∃ t e,x=.vs 1 (.own t e) (l.map xB)/\H[t]?=some (.tok e)
theorem NmAt.ss {H:Hp}{x:AV}{l:List Zm}(h:NmAt H x l):SS x l:=by
 rcases h with ⟨rfl,rfl⟩|⟨t,e,rfl,_⟩
 ·exact .inl ⟨rfl,rfl⟩
 ·exact .inr ⟨_,rfl⟩
theorem NmAt.frame {H H':Hp}{x:AV}{l:List Zm}(h:NmAt H x l)(u:∀ a∈ZI x,H'[a]?=H[a]?):NmAt H' x l :=
 h.imp id fun⟨t,e,g,j⟩=>⟨t,e,g,(u t (by rw[g];simp[ZI])).trans j⟩
def Ui (p:Zm×Nat):AV×AV×Nat:=(.str p.1,.bool true,p.2)
structure TmAt (H:Hp)(o t ms clk:Nat)(nx:AV)(sl:List (Zm×Nat))(tm:Tmp):Prop where
 cells:H[o]?=some (.cells [.ptr t 0,.str tm.owner,nx,.map ms,J xO (tm.limit:Int),J xO (tm.last:Int),.bool tm.closed])
 names:NmAt H nx tm.names
 map:H[ms]?=some (.map (sl.map Ui) clk)
 sld:sl.map (·.1)=tm.sld
 nd:(o::ms::ZI nx).Nodup
def TmpAt (H:Hp)(o t:Nat)(tm:Tmp)(B:List Nat):Prop:=∃ h g j sl,TmAt H o t h g j sl tm/\B=o::h::ZI j
structure TmpOk (tm:Tmp):Prop where
 owner:tm.owner.length<=16
 limit:tm.limit<=9223372036854775807
 len:tm.names.length<=tm.last
 last:tm.last<=1000000
theorem TmAt.lt {H:Hp}{o t u j:Nat}{w:AV}{sl:List (Zm×Nat)}{tm:Tmp}(h:TmAt H o t u j w sl tm):∀ a∈o::u::ZI w,a<H.length:=by
 intro a g;rcases zF.1 g with e|g
 ·subst e;exact Zg h.cells
 rcases zF.1 g with e|g
 ·subst e;exact Zg h.map
 rcases h.names with ⟨e,_⟩|⟨t,e,y,z⟩
 ·rw[e]at g;cases g
 ·rw[y]at g;rw[zH.1 g];exact Zg z
theorem TmAt.frame {H H':Hp}{o t u g:Nat}{w:AV}{sl:List (Zm×Nat)}{tm:Tmp}(h:TmAt H o t u g w sl tm)(j:∀ a∈o::u::ZI w,H'[a]?=H[a]?):TmAt H' o t u g w sl tm :=
 ⟨(j _ (by simp)).trans h.cells,h.names.frame fun a y=>j a (by simp[y]),(j _ (by simp)).trans h.map,h.sld,h.nd⟩
theorem TmpAt.lt {H:Hp}{o t:Nat}{tm:Tmp}{B:List Nat}(h:TmpAt H o t tm B):∀ a∈B,a<H.length:=by
 obtain⟨j,g,u,sl,h,rfl⟩:=h;exact h.lt
theorem TmpAt.stp {H H':Hp}{o t:Nat}{tm:Tmp}{B S:List Nat}(h:TmpAt H o t tm B)(w:Stp S H H')(u:∀ a∈B,a∉S):TmpAt H' o t tm B:=by
 obtain⟨y,g,z,sl,h,rfl⟩:=h;exact⟨y,g,z,sl,h.frame fun a j=>w.at' a (h.lt a j) (u a j),rfl⟩
def SysAt (H:Hp)(o t:Nat)(tm:Tmp)(s:Sto)(A:List Nat):Prop:=∃ B S,TmpAt H o t tm B/\StoreAt H t s S/\(∀ a∈B,a∉S)/\A=B++S
structure SysRes (H H':Hp)(o t:Nat)(tm':Tmp)(s':Sto)(A A':List Nat):Prop where
 at':SysAt H' o t tm' s' A'
 stp:Stp A H H'
 own:∀ a∈A',a∈A\/H.length<=a
theorem SysAt.lt {H:Hp}{o t:Nat}{tm:Tmp}{s:Sto}{A:List Nat}(h:SysAt H o t tm s A):∀ a∈A,a<H.length:=by
 obtain⟨B,S,g,j,w,rfl⟩:=h;intro a u;rcases zM.1 u with k|k
 ·exact g.lt a k
 ·exact j.lt a k
theorem SysAt.stp {H H':Hp}{o t:Nat}{tm:Tmp}{s:Sto}{A C:List Nat}(h:SysAt H o t tm s A)(u:Stp C H H')(j:∀ a∈A,a∉C):SysAt H' o t tm s A:=by
 obtain⟨B,S,w,y,z,rfl⟩:=h;exact⟨B,S,w.stp u fun a g=>j a (by simp[g]),y.stp u fun a g=>j a (by simp[g]),z,rfl⟩
theorem SysAt.self {H:Hp}{o t:Nat}{tm:Tmp}{s:Sto}{A:List Nat}(h:SysAt H o t tm s A):SysRes H H o t tm s A A:=⟨h,Stp.refl _ _,fun a g=>.inl g⟩
theorem SysAt.store {H H':Hp}{o t:Nat}{tm:Tmp}{s':Sto}{B S j:List Nat}(u:TmpAt H o t tm B)(w:∀ a∈B,a∉S)(h:StoRes H H' t s' S j):SysRes H H' o t tm s' (B++S) (B++j):=by
 refine⟨⟨B,j,u.stp h.stp w,h.at',fun a g y=>?_,rfl⟩,h.stp.mono fun a g=>by simp[g],fun a g=>?_⟩
 ·rcases h.own a y with k|k
  ·exact w a g k
  ·have:=u.lt a g;omega
 ·rcases zM.1 g with k|k
  ·exact .inl (by simp[k])
  ·rcases h.own a k with k|k
   ·exact .inl (by simp[k])
   ·exact .inr k
theorem ZN {H:Hp}{o:Nat}{l:List AV}(h:H[o]?=some (.cells l))(i:Nat){v:AV}(g:l[i]?=some v):Z3 false 1 (.ptr o i) H=some v:=by
 rw[Yv h];exact g
theorem V9 {H:Hp}{o:Nat}{l:List AV}(h:H[o]?=some (.cells l))(i:Nat){v:AV}(g:v.cells=[v])(hk:v.known=true)(hi:i<l.length):Za 1 (.ptr o i) v H=some (.tuple [],H.set o (.cells (l.set i v))):=by
 have:=st h i g hk hi
 rwa [zD]at this
theorem ZqD {x:AV}{l:List Zm}(D:SS x l)(I:l.length<=1048576)(n:Zm)(C H:Hp):∀ (r d:List Zm),l=d++r ->
 ∃ i:Int,X5 x (.str n) (J xO (l.length:Int)) (J xO (d.length:Int)) C H=some (J xO i,H)/\(0<=i↔n∈r):=by
 intro r
 induction r with
 |nil =>
  intro d h;rw[zT]at h;subst h;have g:decide ((l.length:Int)<(l.length:Int))=false:=by simp
  refine⟨-1,?_,by simp⟩;rw[VS];simp only[go_sem,g,BE]
 |cons s r E =>
  intro d h;have A:l.length=d.length+(r.length+1):=by rw[h];simp
  have g:decide ((d.length:Int)<(l.length:Int))=true:=by simp;omega
  have z:xN.wrap ((d.length:Int)+1)=((d.length+1:Nat):Int):=by rw[Zp (by omega) (by omega)];omega
  have y:l[d.length]?=some s:=by rw[h,zI (zL _)];simp
  have j:=SS.idx D y;rw[VS];simp only[go_sem,g,BF,j,Zz];by_cases u:n=s
  ·have w:(n==s)=true:=by simpa using u
   simp only[w,go_sem];exact⟨_,rfl,by simp[u]⟩
  ·have w:(n==s)=false:=by simpa using u
   obtain⟨i,B,F⟩:=E (d++[s]) (by rw[h];simp);rw[zQ,zP]at B;simp only[w,go_sem,BG,z];exact⟨i,B,by rw[F];simp[u]⟩
theorem ZbI {x:AV}{l:List Zm}(u:SS x l)(j:l.length<=1048576)(n:Zm)(H:Hp):Zh YQ [x,.str n] H=some (.bool (decide (n∈l)),H):=by
 obtain⟨B,w,y⟩:=SS.closed u [] 0 7;obtain⟨C,h,g⟩:=SS.closed y [] 0 7;refine FP w (b':=.str n) rfl (H1:=[]) ?_ rfl;obtain⟨i,z,A⟩:=ZqD g j n [] [] l [] rfl
 have hi:Zh Wt [B,.str n] []=some (J xO i,[]):=by
  refine FP h (b':=.str n) rfl (H1:=[]) ?_ rfl;rw[Dw];unfold Q9;simp only[go_sem,SS.len g 9];exact z
 rw[GL];unfold U9;simp only[hi,go_sem];congr 3;rw[decide_eq_decide];exact A
def YI (tm:Tmp)(n:Zm):Int:=if tm.closed then 8 else if n∈tm.names then 0 else 5
theorem SW {H:Hp}{o t D w:Nat}{A:AV}{sl:List (Zm×Nat)}{tm:Tmp}(h:TmAt H o t D w A sl tm)(hk:TmpOk tm)(n:Zm):Xj [.ptr o 0,.str n] H=some (J xO (YI tm n),H):=by
 have j:=ZN h.cells 6 (v:=.bool tm.closed) rfl;have z:=ZN h.cells 2 (v:=A) rfl;have B:=hk.len;have C:=hk.last;have g:=ZbI h.names.ss (by omega) n H;rw[Sn];unfold Rq YI
 cases y:tm.closed with
 |true =>
  rw[y]at j;simp only[go_sem,zD,j,if_true]
 |false =>
  rw[y]at j;by_cases u:n∈tm.names
  ·rw[decide_eq_true u]at g;simp only[go_sem,zD,j,z,g,yE,EJ,if_pos u,zZ,if_false]
  ·rw[decide_eq_false u]at g;simp only[go_sem,zD,j,z,g,yB,if_neg u,zZ,if_false]
def Wf (o:Zm):Zm:=[46,116,109,112,46]++o++[46]
def JJ (o:Zm)(n:Nat):Zm:=Wf o++Go.Lib.itoa (n:Int)
def AI (tm:Tmp)(s:Sto):(Zm×Int)×(Tmp×Sto) :=
 if tm.closed then (([],8),(tm,s)) else match s.create (JJ tm.owner (tm.last+1)) with
 |(e,s')=>if e=0 then ((JJ tm.owner (tm.last+1),0),({ tm with last:=tm.last+1,names:=tm.names++[JJ tm.owner (tm.last+1)] },s')) else (([],e),(tm,s'))
theorem NmAt.app {H:Hp}{x:AV}{l:List Zm}(h:NmAt H x l)(n:Zm)(A:l.length<=1048576) :
 ∃ g H',Y9 1 16 x (.vs 1 .clip [.str n]) H=some (g,H')/\NmAt H' g (l++[n])/\Stp (ZI x) H H'/\(∀ a∈ZI g,a∈ZI x\/a=H.length)/\g.cells=[g]/\g.known=true/\(ZI g).Nodup:=by
 unfold Y9;have z:Go.Am.elems 1 (.vs 1 .clip [.str n]) H=some [.str n]:=rfl;rw[z];have j:Xg ((l.map xB).length+[xB n].length) 16=true:=by simp[Xg];omega
 have u:Xg [xB n].length 16=true:=rfl;rcases h with ⟨rfl,rfl⟩|⟨t,e,rfl,y⟩
 ·refine⟨.vs 1 (.own H.length 1) [.str n],H++[.tok 1],?_,.inr ⟨H.length,1,rfl,by simp⟩,Stp.push _ _,fun a w=>.inr (zH.1 w),rfl,rfl,by simp[ZI]⟩;simp only[YN,u,if_true];rw[if_neg (by simp)];rfl
 ·refine⟨.vs 1 (.own t (e+1)) (l.map xB++[.str n]),H.set t (.tok (e+1)),?_,.inr ⟨t,e+1,by simp,Zq _ y⟩,Stp.set _ _ (by simp[ZI]),fun a w=>.inl (by simpa[ZI]using w),rfl,rfl,by simp[ZI]⟩;simp only[YN,j,and_self,if_true,y];rw[if_neg (by simp)];rfl
theorem ZvR (n:Nat)(g:n<=9223372036854775807)(H:Hp):Zh EV [J xO (n:Int)] H=some (.str (Go.Lib.itoa (n:Int)),H):=by
 refine XP (a':=J xO (n:Int)) rfl (H1:=[]) ?_ rfl
 have:Zbk ZeW [J xO (n:Int)] []=some (.str (Go.Lib.itoa (n:Int)),[]):=by
  unfold Zbk ZeW;dsimp only;rw[if_pos (by omega)]
 rw[Zhm];unfold ZcV;simp only[this,go_sem]
theorem ZiI (o:Zm)(g:o.length<=1048576)(H:Hp):Zh Ja [.str o] H=some (.str (Wf o),H):=by
 refine XP (a':=.str o) rfl (H1:=[]) ?_ rfl;rw[Za3];unfold Lp;rw[Cg (by simp;omega)];simp only[go_sem];rw[Cg (by simp;omega)];rfl
abbrev tmC (t g:Nat)(h:AV)(tm:Tmp):List AV:=[.ptr t 0,.str tm.owner,h,.map g,J xO (tm.limit:Int),J xO (tm.last:Int),.bool tm.closed]
theorem ZxU (o:Zm)(n:Nat)(j:o.length<=16)(h:n<=1000001):(JJ o n).length<=1048576/\(Wf o).length+(Go.Lib.itoa (n:Int)).length<=1048576:=by
 have:=Go.Lib.itoa_length_le (n:Int) (by omega) (by omega);have g:(Wf o).length=o.length+6:=by simp[Wf]
 refine⟨?_,by omega⟩;unfold JJ;rw[zQ];omega
theorem ZlH {H:Hp}{o t:Nat}{tm:Tmp}{s:Sto}{A:List Nat}(h:SysAt H o t tm s A)(hm:TmpOk tm)(hk:StoOk s)(hl:tm.last<1000000) :
 ∃ H' A',Ue [.ptr o 0] H=some (.tuple [.str (AI tm s).1.1,J xO (AI tm s).1.2],H')/\SysRes H H' o t (AI tm s).2.1 (AI tm s).2.2 A A':=by
 have Z:=h;obtain⟨B,S,y,h2,h3,rfl⟩:=h;have hB:=y;obtain⟨u,aa,w,sl,y,rfl⟩:=y;have l6:=ZN y.cells 6 (v:=.bool tm.closed) rfl;have l0:=ZN y.cells 0 (v:=.ptr t 0) rfl;have l1:=ZN y.cells 1 (v:=.str tm.owner) rfl;have l5:=ZN y.cells 5 (v:=J xO (tm.last:Int)) rfl;have ho:=hm.owner;have hw:xN.wrap ((tm.last:Int)+1)=((tm.last+1:Nat):Int):=by rw[Zp (by omega) (by omega)];omega
 obtain⟨n1,n2⟩:=ZxU tm.owner (tm.last+1) ho (by omega);have K:=ZiI tm.owner (by omega) H;have V:=ZvR (tm.last+1) (by omega) H;have F:YR .add (.str (Wf tm.owner)) (.str (Go.Lib.itoa ((tm.last+1:Nat):Int)))=some (.str (JJ tm.owner (tm.last+1))):=by rw[Cg (by omega)];rfl
 have I:Yr (.pointer 82) .eql (.ptr t 0) .nilp=some (.bool false):=rfl;obtain⟨H1,S1,p1,C⟩:=Zhh h2 hk (JJ tm.owner (tm.last+1)) n1;rw[CW];unfold T5 AI
 cases hc:tm.closed with
 |true =>
  rw[hc]at l6;rw[if_pos rfl];exact⟨H,_,by simp only[go_sem,zD,UR,l6],Z.self⟩
 |false =>
  rw[hc]at l6;rw[if_neg (by simp)]
  cases ac:s.create (JJ tm.owner (tm.last+1)) with
  |mk e s' =>
  rw[ac]at p1 C;simp only at p1 C ⊢;by_cases he:e=0
  ·subst he;rw[if_pos rfl];have N:((0:Int) != 0)=false:=rfl;have L:=y.frame (H':=H1) fun a g=>C.stp.at' a (y.lt a g) (h3 a g);have k5:=ZN L.cells 5 (v:=J xO (tm.last:Int)) rfl;have s5:=V9 L.cells 5 (v:=J xO ((tm.last+1:Nat):Int)) rfl rfl (by simp);have g1:=Zq (zJ (zO (tmC t u w tm) 5 (J xO ((tm.last+1:Nat):Int)))) L.cells;have k2:=ZN g1 2 (v:=w) rfl;have Y:=y.nd;rw[zE,zE]at Y;obtain⟨d1,d2,d3⟩:=Y;have Q:∀ a∈ZI w,a≠o:=fun a g e=>d1 (by rw[<-e];simp[g]);have X:∀ a∈ZI w,a≠u:=fun a g e=>d2 (by rw[<-e];exact g);have O:o≠u:=fun e=>d1 (by rw[e];simp);generalize D:H1.set o (.cells (zO (tmC t u w tm) 5 (J xO ((tm.last+1:Nat):Int))))=H2 at s5 g1 k2;have M:H2.length=H1.length:=by rw[<-D];simp
   have ab:NmAt H2 w tm.names:=L.names.frame fun a g=>by rw[<-D];exact zC (fun e=>Q a g e.symm)
   have ae:=hm.len;obtain⟨T,H3,q1,q2,q3,q4,q5,q6,q7⟩:=ab.app (JJ tm.owner (tm.last+1)) (by omega);have g2:H3[o]?=some (.cells (zO (tmC t u w tm) 5 (J xO ((tm.last+1:Nat):Int)))):=q3.get g1 fun g=>Q o g rfl;have s2:=V9 g2 2 (v:=T) q5 q6 (by simp);generalize E:H3.set o (.cells (zO (zO (tmC t u w tm) 5 (J xO ((tm.last+1:Nat):Int))) 2 T))=H4 at s2;have ad:o<H1.length:=Zg L.cells;have W:u<H1.length:=Zg L.map
   have R:∀ a∈ZI T,a≠o/\a≠u:=fun a g=>by
    rcases q4 a g with k|k
    ·exact⟨Q a k,X a k⟩
    ·omega
   have U:Stp (o::u::ZI w) H1 H4:=by
    have e1:Stp (o::u::ZI w) H1 H2:=by rw[<-D];exact Stp.set _ _ (by simp)
    have e3:Stp (o::u::ZI w) H3 H4:=by rw[<-E];exact Stp.set _ _ (by simp)
    exact (e1.trans (q3.mono (B:=o::u::ZI w) fun a g=>by simp[g]) (fun _ h=>h) fun _ h=>.inl h).trans e3 (fun _ h=>h) fun _ h=>.inl h
   refine⟨H4,(o::u::ZI T)++S1,?_,⟨⟨o::u::ZI T,S1,⟨u,aa,T,sl,⟨?_,?_,?_,y.sld,?_⟩,rfl⟩,?_,?_,rfl⟩,?_,?_⟩⟩
   ·simp only[go_sem,zD,UR,l6,l0,I,Bb,l1,K,l5,hw,V,F,p1,N,CJ,k5,s5,k2,Rz,q1,s2]
   ·rw[<-E];refine (Zq _ g2).trans ?_;simp only[tmC,hc];rfl
   ·exact q2.frame fun a g=>by rw[<-E];exact zC (fun e=>(R a g).1 e.symm)
   ·rw[<-E,zC O,q3.at' u (by rw[M];exact W) (fun g=>X u g rfl),<-D,zC O];exact L.map
   ·rw[zE,zE];refine⟨fun g=>?_,fun g=>(R u g).2 rfl,q7⟩;rcases zF.1 g with e|g
    ·exact O e
    ·exact (R o g).1 rfl
   ·refine C.at'.stp U fun a g hb=>?_;rcases C.own a g with k|k
    ·exact h3 a hb k
    ·have:=y.lt a hb;omega
   ·intro a g hs
    have z:a∈o::u::ZI w->False:=fun k=>by
     rcases C.own a hs with j|j
     ·exact h3 a k j
     ·have:=y.lt a k;omega
    rcases zF.1 g with e|g
    ·exact z (by rw[e];simp)
    rcases zF.1 g with e|g
    ·exact z (by rw[e];simp)
    rcases q4 a g with k|k
    ·exact z (by simp[k])
    ·have:=C.at'.lt a hs;omega
   ·refine (C.stp.mono (B:=(o::u::ZI w)++S) fun a g=>by simp[g]).trans U (fun _ h=>h) fun a g=>.inl (yJ _ g)
   ·intro a g;rcases zM.1 g with g|g
    ·rcases zF.1 g with e|g
     ·exact .inl (by rw[e];simp)
     rcases zF.1 g with e|g
     ·exact .inl (by rw[e];simp)
     rcases q4 a g with k|k
     ·exact .inl (by simp[k])
     ·exact .inr (by have:=C.stp.len;omega)
    ·rcases C.own a g with k|k
     ·exact .inl (by simp[k])
     ·exact .inr k
  ·rw[if_neg he];have N:(e != 0)=true:=by simpa using he
   exact⟨H1,_,by simp only[go_sem,zD,UR,l6,l0,I,Bb,l1,K,l5,hw,V,F,p1,N],SysAt.store hB h3 C⟩
def ZgA (l:List Zm)(n:Zm):List Zm:=if n∈l then l else l++[n]
def CQ (tm:Tmp)(s:Sto)(n:Zm):Int×(Tmp×Sto) :=
 if YI tm n≠0 then (YI tm n,(tm,s)) else if (s.sync n).1≠0 then ((s.sync n).1,(tm,(s.sync n).2)) else (0,({ tm with sld:=ZgA tm.sld n },(s.sync n).2))
theorem ZgM:∀ (sl:List (Zm×Nat)) (n:Zm) (i:Nat),(n∉sl.map (·.1)/\YT (.str n) (sl.map Ui) i=some none)\/∃ a p b,sl=a++p::b/\p.1=n/\n∈sl.map (·.1)/\YT (.str n) (sl.map Ui) i=some (some (i+a.length,.bool true)):=by
 intro sl n
 induction sl with
 |nil=>intro i;exact .inl ⟨by simp,rfl⟩
 |cons p sl A =>
  intro i;have j:JC (.str n) (Ui p).1=some (n==p.1):=rfl;by_cases h:n=p.1
  ·refine .inr ⟨[],p,sl,rfl,h.symm,by simp[h],?_⟩;rw[zG,YT,j,show (n==p.1)=true by simpa using h];rfl
  ·have g:YT (.str n) ((p::sl).map Ui) i=YT (.str n) (sl.map Ui) (i+1):=by
    rw[zG,YT,j,show (n==p.1)=false by simpa using h]
   rw[g];rcases A (i+1) with ⟨u,w⟩|⟨a,q,b,u,w,y,z⟩
   ·exact .inl ⟨by simp[h]at u ⊢;exact u,w⟩
   ·refine .inr ⟨p::a,q,b,by rw[u];rfl,w,by rw[zG];exact yI _ y,?_⟩;rw[z];simp only[yC];congr 3;omega
theorem Zwx {α:Type}(a:List α)(d:α)(b:List α):(a++d::b).set a.length d=a++d::b:=by
 induction a with
 |nil=>rfl
 |cons x a g=>simp only[zY,yC,List.set_cons_succ,g]
theorem Zwv {H:Hp}{A g:Nat}{sl:List (Zm×Nat)}(h:H[A]?=some (.map (sl.map Ui) g))(n:Zm) :
 ∃ (u:List (Zm×Nat)) (j:Nat),Xw .string (.map A) (.str n) (.bool true) H=some (.tuple [],H.set A (.map (u.map Ui) j))/\u.map (·.1)=ZgA (sl.map (·.1)) n:=by
 have z:Wn .string (.str n)=true:=rfl;unfold Xw;dsimp only;rw[h];dsimp only;rw[if_pos z];rcases ZgM sl n 0 with ⟨w,y⟩|⟨a,p,b,w,y,D,E⟩
 ·refine⟨sl++[(n,g)],g+1,?_,?_⟩
  ·rw[y];simp[Ui]
  ·unfold ZgA;rw[if_neg w];simp
 ·refine⟨sl,g,?_,?_⟩
  ·rw[E];dsimp only;have B:(sl.map Ui).getD (0+a.length) (.undef,.undef,0)=Ui p:=by rw[w,yM,zN,zG,zI (by simp)];simp
   have C:(sl.map Ui).set (0+a.length) (.str n,.bool true,(Ui p).2.2)=sl.map Ui:=by
    have:((.str n,.bool true,(Ui p).2.2):AV×AV×Nat)=Ui p:=by rw[<-y];rfl
    rw[this,w,zD,zN,zG,show a.length=(a.map Ui).length by simp,Zwx]
   rw[B,C]
  ·unfold ZgA;rw[if_pos D]
theorem ZlF {H:Hp}{o t:Nat}{tm:Tmp}{s:Sto}{A:List Nat}(h:SysAt H o t tm s A)(hm:TmpOk tm)(hk:StoOk s)(n:Zm) :
 ∃ H' A',VM [.ptr o 0,.str n] H=some (J xO (CQ tm s n).1,H')/\SysRes H H' o t (CQ tm s n).2.1 (CQ tm s n).2.2 A A':=by
 have M:=h;obtain⟨B,S,u,h2,N,rfl⟩:=h;have hB:=u;obtain⟨y,Y,F,sl,u,rfl⟩:=u;have Q:=SW u hm n;have W:=ZN u.cells 0 (v:=.ptr t 0) rfl;obtain⟨H1,U,X,D⟩:=ZlG h2 hk.count n;rw[Sk];unfold Ro CQ;by_cases z:YI tm n=0
 ·have e0:(YI tm n != 0)=false:=by rw[z];rfl
  rw[if_neg (by simp[z])];by_cases C:(s.sync n).1=0
  ·have O:((s.sync n).1 != 0)=false:=by rw[C];rfl
   rw[if_neg (by simp[C])];have K:=u.frame (H':=H1) fun a g=>D.stp.at' a (u.lt a g) (N a g);have k3:=ZN K.cells 3 (v:=.map y) rfl;obtain⟨E,w,q1,q2⟩:=Zwv K.map n;have L:=u.nd;rw[zE,zE]at L;obtain⟨Z,d2,d3⟩:=L;have T:o≠y:=fun e=>Z (by rw[e];simp);have R:∀ a∈ZI F,a≠y:=fun a g e=>d2 (by rw[<-e];exact g);have I:Stp (o::y::ZI F) H1 (H1.set y (.map (E.map Ui) w)):=Stp.set _ _ (by simp);refine⟨H1.set y (.map (E.map Ui) w),(o::y::ZI F)++U,?_,⟨⟨o::y::ZI F,U,⟨y,w,F,E,⟨?_,?_,?_,?_,u.nd⟩,rfl⟩,?_,?_,rfl⟩,?_,?_⟩⟩
   ·simp only[Q,go_sem,e0,zD,GK,W,X,O,EG,k3,q1]
   ·rw[zC T.symm];exact K.cells
   ·exact K.names.frame fun a g=>zC (fun e=>R a g e.symm)
   ·exact Zq _ K.map
   ·rw[q2,u.sld]
   ·refine D.at'.stp I fun a g V=>?_;rcases D.own a g with k|k
    ·exact N a V k
    ·have:=u.lt a V;omega
   ·intro a g hs;rcases D.own a hs with j|j
    ·exact N a g j
    ·have:=u.lt a g;omega
   ·refine (D.stp.mono (B:=(o::y::ZI F)++S) fun a g=>by simp[g]).trans I (fun _ h=>h) fun a g=>.inl (yJ _ g)
   ·intro a g;rcases zM.1 g with g|g
    ·exact .inl (yJ _ g)
    ·rcases D.own a g with k|k
     ·exact .inl (by simp[k])
     ·exact .inr k
  ·have O:((s.sync n).1 != 0)=true:=by simpa using C
   rw[if_pos C];exact⟨H1,_,by simp only[Q,go_sem,e0,zD,GK,W,X,O],SysAt.store hB N D⟩
 ·have e0:(YI tm n != 0)=true:=by simpa using z
  rw[if_pos z];exact⟨H,_,by simp only[Q,go_sem,e0],M.self⟩
def X7 (nm:List Zm):List Fil->Nat
 |[]=>0
 |f::r=>(if f.name∈nm then f.text.length else 0)+X7 nm r
theorem Zhd (nm:List Zm)(l:List Fil):X7 nm l<=Zr l:=by
 induction l with
 |nil=>exact zL _
 |cons f l g=>simp only[X7,Zr];split <;> omega
theorem Zui (nm:List Zm)(a b:List Fil):X7 nm (a++b)=X7 nm a+X7 nm b:=by
 induction a with
 |nil=>simp[X7]
 |cons f a g=>simp only[zY,X7,g];omega
theorem Zry (nm:List Zm){a b:List Fil}(h:a.Perm b):X7 nm a=X7 nm b:=by
 induction h with
 |nil=>rfl
 |cons x _ u=>simp only[X7,u]
 |swap x y l=>simp only[X7];omega
 |trans _ _ g j=>rw[g,j]
theorem ZsY {l:List Fil}(h:(l.map Fil.name).Nodup):(l.map Fil.name).filterMap (ZP l)=l:=by
 have key:∀ (r l:List Fil),(l.map Fil.name).Nodup->(∀ f∈r,f∈l)->(r.map Fil.name).filterMap (ZP l)=r:=by
  intro r l w
  have u:∀ f∈l,ZP l f.name=some f:=by
   clear r
   induction l with
   |nil=>intro f j;cases j
   |cons g l z =>
    intro f j;rw[zG,zE]at w;unfold ZP;rcases zF.1 j with e|j
    ·rw[e,if_pos rfl]
    ·have y:¬ f.name=g.name:=fun e=>w.1 (by rw[<-e];exact yL.2 ⟨f,j,rfl⟩);rw[if_neg y];exact z w.2 f j
  induction r with
  |nil=>intro _;rfl
  |cons f r z =>
   intro h;rw[zG,List.filterMap_cons,u f (h f (by simp)),z fun g u=>h g (by simp[u])]
 exact key l l h fun _ h=>h
theorem ZqM {l:List Fil}(h:(l.map Fil.name).Nodup):(Uj l).Perm l:=by
 unfold Uj;have:=(QN (l.map Fil.name)).filterMap (ZP l)
 rwa [ZsY h]at this
def Ud (tm:Tmp)(s:Sto):Nat:=X7 tm.names s.files
theorem ZmP (x:Fil)(H:Hp):Z3 true 3 (.vp (Yk x).cells) H=some (Yk x):=rfl
theorem ZpY {u:Hp}{o t U y:Nat}{K:AV}{sl:List (Zm×Nat)}{tm:Tmp}(h:TmAt u o t U y K sl tm)(hm:TmpOk tm){x:AV}{fs:List Fil}(hx:Sl 3 x (fs.map Yk))(hl:fs.length<=64)(hu:Zr fs<=262144)(X:Hp):∀ (r d:List Fil) (H:Hp),fs=d++r->Keep u.length u H->u.length<=H.length ->
 ∃ H',V5 (.ptr o 0) (J xO (X7 tm.names d:Int)) x (J xO (fs.length:Int)) (J xO (d.length:Int)) X H=some (J xO (X7 tm.names fs:Int),H')/\Keep u.length u H'/\u.length<=H'.length:=by
 have Z:=hm.len;have aa:=hm.last;intro r
 induction r with
 |nil =>
  intro d H A F g;rw[zT]at A;subst A;have B:decide ((fs.length:Int)<(fs.length:Int))=false:=by simp
  rw[G1];simp only[go_sem,B,Lb];exact⟨_,rfl,F,g⟩
 |cons f r ih =>
  intro d H A F g;have R:fs.length=d.length+(r.length+1):=by rw[A];simp
  have B:decide ((d.length:Int)<(fs.length:Int))=true:=by simp;omega
  have E:xN.wrap ((d.length:Int)+1)=((d.length+1:Nat):Int):=by rw[Zp (by omega) (by omega)];omega
  have Q:fs[d.length]?=some f:=by rw[A,zI (zL _)];simp
  have D:Zo 3 x (J xO (d.length:Int))=some (.vp (Yk f).cells):=Sl.idx hx (c:=Yk f) (by simp[Q]);have z:TmAt H o t U y K sl tm:=h.frame fun a N=>F a (h.lt a N);have W:=Zg z.cells;have O:(H++[zJ [.str [],J xO 0,J xO 0]])[H.length]?=some (.cells [.str [],J xO 0,J xO 0]):=by simp
  have S:Za 3 (.ptr H.length 0) (Yk f) (H++[zJ [.str [],J xO 0,J xO 0]])=some (.tuple [],H++[zJ (Yk f).cells]):=by
   rw[WT (v:=Yk f) (sz:=3) O rfl rfl (by simp)];simp[splice,Yk,AV.cells]
  have V:(H++[zJ (Yk f).cells])[H.length]?=some (.cells (Yk f).cells):=by simp
  have w:TmAt (H++[zJ (Yk f).cells]) o t U y K sl tm:=z.frame fun a N=>yD (z.lt a N);have l2:=ZN w.cells 2 (v:=K) rfl;have m0:=ZN V 0 (v:=.str f.name) rfl;have m1:=ZN V 1 (v:=J xO (f.text.length:Int)) rfl;have C:=ZbI w.names.ss (by omega) f.name (H++[zJ (Yk f).cells]);have M:Keep u.length u (H++[zJ (Yk f).cells]):=F.trans (Keep.push H g _);have j:X7 tm.names (d++[f])=X7 tm.names d+(if f.name∈tm.names then f.text.length else 0):=by rw[Zui];simp[X7]
  have ab:=Zhd tm.names (d++[f])
  have ac:Zr (d++[f])<=Zr fs:=by
   rw[A,XQ,XQ];simp only[Zr];omega
  obtain⟨H',L,p2,p3⟩:=ih (d++[f]) (H++[zJ (Yk f).cells]) (by rw[A];simp) M (by simp;omega);rw[zQ,zP]at L;refine⟨H',?_,p2,p3⟩;rw[G1];simp only[go_sem,B,Lc,D,ZmP,S,zD,l2,m0,C];by_cases I:f.name∈tm.names
  ·rw[if_pos I]at j;have T:xN.wrap ((X7 tm.names d:Int)+(f.text.length:Int))=(X7 tm.names (d++[f]):Int):=by rw[Zp (by omega) (by omega)];omega
   have Y:(Yk f).cells[1]?=some (J xO (f.text.length:Int)):=rfl;simp only[decide_eq_true I,go_sem,zD,m1,Y,T,G0,E];exact L
  ·rw[if_neg I,xL]at j;rw[j]at L;simp only[decide_eq_false I,go_sem,G0,E];exact L
theorem ZlX {H:Hp}{o t L u:Nat}{M:AV}{sl:List (Zm×Nat)}{tm:Tmp}{s:Sto}{S:List Nat}(h:TmAt H o t L u M sl tm)(F:StoreAt H t s S)(hm:TmpOk tm)(hk:StoOk s) :
 JQ XV [.ptr o 0] H=some (J xO (Ud tm s:Int),H):=by
 obtain⟨x,R,D⟩:=Zjj F hk;have K:=ZN h.cells 0 (v:=.ptr t 0) rfl;have z:=ZqM hk.nd;have g:(Uj s.files).length<=64:=by rw[z.length_eq];exact hk.len
 have A:Zr (Uj s.files)<=262144:=by
  have E:∀ {a b:List Fil},a.Perm b->Zr a=Zr b:=fun {a b} h=>by
   induction h with
   |nil=>rfl
   |cons x _ I=>simp only[Zr,I]
   |swap x y l=>simp only[Zr];omega
   |trans _ _ B C=>rw[B,C]
  rw[E z];have:=hk.used;have:=hk.limit;omega
 have w:Zk (.slice 108) x=some (J xO ((Uj s.files).length:Int)):=by
  have:=Sl.len D 108
  rwa [yA]at this
 obtain⟨H',N,O,Q⟩:=ZpY h hm D g A H _ [] H rfl (Keep.refl _ _) (zL _)
 have j:XV [.ptr o 0] H=some (J xO (X7 tm.names (Uj s.files):Int),H'):=by
  rw[LX];unfold DY;simp only[go_sem,zD,K,R,w];exact N
 have:=Cc j O Q (v':=J xO (X7 tm.names (Uj s.files):Int)) rfl
 rwa [Zry tm.names z]at this
theorem Zx9 {H:Hp}{o t:Nat}{tm:Tmp}{s:Sto}{A:List Nat}(h:SysAt H o t tm s A)(hm:TmpOk tm)(hk:StoOk s) :
 JQ Jt [.ptr o 0] H=some (J xO (if tm.closed then 0 else (Ud tm s:Int)),H):=by
 obtain⟨B,S,⟨E,y,F,sl,u,rfl⟩,z,D,rfl⟩:=h;have j:=ZN u.cells 6 (v:=.bool tm.closed) rfl;have C:=ZN u.cells 0 (v:=.ptr t 0) rfl;have g:Yr (.pointer 82) .eql (.ptr t 0) .nilp=some (.bool false):=rfl;refine Cc (H1:=H) (v:=J xO (if tm.closed then 0 else (Ud tm s:Int))) ?_ (Keep.refl _ _) (zL _) rfl;rw[Sm];unfold Rp
 cases w:tm.closed with
 |true =>
  rw[w]at j;simp only[go_sem,zD,j,if_true]
 |false =>
  rw[w]at j;simp only[go_sem,zD,j,C,g,EH,ZlX u z hm hk,zZ,if_false]
def EO (tm:Tmp)(s:Sto)(n:Zm)(l:List Zm):Int×Sto :=
 if YI tm n≠0 then (YI tm n,s) else if n∈tm.sld then (8,s) else if YU l=false then (3,s) else
  if (tm.limit:Int)-(Ud tm s:Int)<(Yc l:Int) then (11,s) else s.append n (ZX l)
theorem ZoO {H:Hp}{u g:Nat}{sl:List (Zm×Nat)}(h:H[u]?=some (.map (sl.map Ui) g))(n:Zm):Y7 .string (.bool false) false (.map u) (.str n) H=some (.bool (decide (n∈sl.map (·.1)))):=by
 have B:Xk (.map u) H=some (sl.map Ui):=by unfold Xk;dsimp only;rw[h]
 have j:Wn .string (.str n)=true:=rfl;unfold Y7;rw[if_pos j,B];dsimp only;rcases ZgM sl n 0 with ⟨w,y⟩|⟨a,p,b,w,y,z,A⟩
 ·rw[y,decide_eq_false w];rfl
 ·rw[A,decide_eq_true z];rfl
theorem Zk2 {H:Hp}{o t:Nat}{tm:Tmp}{s:Sto}{A:List Nat}(h:SysAt H o t tm s A)(hm:TmpOk tm)(hk:StoOk s)(n:Zm){x:AV}{l:List Zm}(X:SS x l)(V:∀ s∈l,s.length<=1048576)(hl:Yc l<=1048576) :
 ∃ H' A',Vl [.ptr o 0,.str n,x] H=some (J xO (EO tm s n l).1,H')/\SysRes H H' o t tm (EO tm s n l).2 A A':=by
 have u:=h;obtain⟨B,S,w,M,T,rfl⟩:=h;have U:=w;obtain⟨Z,Q,nx,sl,w,rfl⟩:=w;have D:=SW w hm n;have Y:=ZN w.cells 0 (v:=.ptr t 0) rfl;have I:=ZN w.cells 3 (v:=.map Z) rfl;have O:=ZN w.cells 4 (v:=J xO (tm.limit:Int)) rfl;have j:=ZoO w.map n;rw[w.sld]at j;have g:=Zvm X V (by omega) H;have C:=ZlX w M hm hk
 have W:Ud tm s<=262144:=by
  have:=Zhd tm.names s.files;have:=hk.used;have:=hk.limit;unfold Ud;omega
 have N:=hm.limit;have hw:xN.wrap ((tm.limit:Int)-(Ud tm s:Int))=(tm.limit:Int)-(Ud tm s:Int):=Zp (by omega) (by omega);rw[LW];unfold DX EO;by_cases y:YI tm n=0
 ·have e0:(YI tm n != 0)=false:=by rw[y];rfl
  rw[if_neg (by simp[y])];by_cases z:n∈tm.sld
  ·rw[if_pos z];rw[decide_eq_true z]at j;exact⟨H,_,by simp only[D,go_sem,e0,zD,W9,I,j],u.self⟩
  ·rw[if_neg z];rw[decide_eq_false z]at j
   cases E:YU l with
   |false =>
    have R:((3:Int) != 0)=true:=rfl;rw[E,if_neg (by simp)]at g;rw[if_pos rfl];exact⟨H,_,by simp only[D,go_sem,e0,zD,W9,I,j,U7,g,zA,zB,R],u.self⟩
   |true =>
    have L:((0:Int) != 0)=false:=rfl;rw[E,if_pos rfl]at g;rw[if_neg (by simp)];by_cases F:(tm.limit:Int)-(Ud tm s:Int)<(Yc l:Int)
    ·rw[if_pos F];have K:decide ((tm.limit:Int)-(Ud tm s:Int)<((ZX l).length:Int))=true:=by rw[QU];exact decide_eq_true F
     exact⟨H,_,by simp only[D,go_sem,e0,zD,W9,I,j,U7,g,zA,zB,L,KZ,O,C,hw,K],u.self⟩
    ·rw[if_neg F];have K:decide ((tm.limit:Int)-(Ud tm s:Int)<((ZX l).length:Int))=false:=by rw[QU];exact decide_eq_false F
     obtain⟨H1,S1,p1,p2⟩:=Zhf M hk n (ZX l) (by rw[QU];omega);exact⟨H1,_,by simp only[D,go_sem,e0,zD,W9,I,j,U7,g,zA,zB,L,KZ,O,C,hw,K,La,Y,p1],SysAt.store U T p2⟩
 ·have e0:(YI tm n != 0)=true:=by simpa using y
  rw[if_pos y];exact⟨H,_,by simp only[D,go_sem,e0],u.self⟩
end Go.Am
