/- Lists of lists of strings -/
import Derived.Test.YtnaneekpogohaaaGreatDoorXeMzx
import Derived.Test.YtnaneekpogohaaaGreatDoorXeSax
import Derived.Test.YtnaneekpogohaaaGreatDoorXeGSx
import Derived.Test.YtnaneekpogohaaaGreatDoorXeEx
import Derived.Test.YtnaneekpogohaaaGreatDoorXeJx
import Derived.Lib.ItoaLen
open Go.IntKind renaming i64->xP
open List renaming getElem?_cons_zero->zA,getElem?_cons_succ->zB,getElem?_set_ne->zC,nodup_cons->zE,mem_cons->zF,map_cons->zG,mem_singleton->zH,getElem?_append_right->zI,flatMap_append->zK,mem_append->zM,map_append->zN,set->zO,length_singleton->zP,length_append->zQ,getElem?_eq_some_iff->zR,nodup_append->zT,append_nil->zU,flatMap_cons->zV,take_of_length_le->zW,getElem?_eq_getElem->zY,cons_append->yA,length_map->yC,length_cons->yE,getElem?_append_left->yF,flatten_cons->yH,getElem?_set_self->yI,all_eq_true->yK,mem_cons_of_mem->yL,mem_append_left->yM,take_append_of_le_length->yN,mem_map->yO,getD_eq_getElem?_getD->yP,append_assoc->yQ,flatten_nil->yR,nil_append->yS,getElem?_eq_none->yV,map_nil->yY,isEmpty_cons->xA,mem_flatMap->xD,length_nil->xF,tail_cons->xG,mapM_cons->xH,drop_one->xJ,all_cons->xK,map_map->xM,range->xO
open Nat renaming zero_add->zD,le_refl->zL,mul_one->yU,le_trans->xL,add_zero->xN
open Bool renaming and_eq_true->zZ,false_eq_true->yB,not_false->yD,not_true->yG,true_and->yJ,false_and->yW
open Int renaming toNat_natCast->zX
open UInt8 renaming ofNat->zS,ofNat_toNat->yZ
open Go.Am.AObj renaming cells->zJ,bld->yT
open Go.Am.AV renaming str->xC,cells->xE,int->xI
open List.Sublist renaming nodup->yX,refl->xB
namespace Go.Am
set_option linter.unusedSectionVars false
set_option maxRecDepth 100000
theorem SS.cell {e:AV}{l:List Zg}(h:SS e l):e.cells=[e]/\e.known=true:=by
 rcases h with ⟨rfl,_⟩|⟨t,rfl⟩ <;> exact⟨rfl,rfl⟩
structure EE (es:List AV)(ls:List (List Zg)):Prop where
 len:es.length=ls.length
 at':∀ (i:Nat) (l:List Zg),ls[i]?=some l->∃ e,es[i]?=some e/\SS e l
theorem EE.nil:EE [] []:=⟨rfl,fun i l h=>by simp at h⟩
theorem EE.cell {u:List AV}{j:List (List Zg)}(h:EE u j):∀ e∈u,∃ l,SS e l/\l∈j:=fun e z=>by
 obtain⟨i,hi⟩:=List.getElem?_of_mem z;have w:=(zR.1 hi).1;rw[h.len]at w;obtain⟨A,g,y⟩:=h.at' i j[i] (zY w);rw[hi]at g;injection g with g;subst g;exact⟨_,y,List.getElem_mem _⟩
theorem ZhX:∀ {g:List AV},(∀ e∈g,e.cells=[e])->(g.map xE).flatten=g:=by
 intro g
 induction g with
 |nil=>intro _;rfl
 |cons e g u =>
  intro h;rw[zG,yH,h e (by simp),u (fun x j=>h x (by simp[j]))];rfl
theorem EE.flat {g:List AV}{w:List (List Zg)}(h:EE g w):(g.map xE).flatten=g:=ZhX fun e u=>by
 obtain⟨l,j,_⟩:=h.cell e u;exact j.cell.1
theorem EE.set {y:List AV}{w:List (List Zg)}(h:EE y w){e:AV}{l:List Zg}(z:SS e l){i:Nat}(hi:i<w.length):EE (y.set i e) (w.set i l):=by
 refine⟨by simp[h.len],fun j m g=>?_⟩;by_cases u:i=j
 ·subst u;rw[yI hi]at g;injection g with g;subst g;exact⟨e,yI (by rw[h.len];exact hi),z⟩
 ·rw[zC u]at g ⊢;exact h.at' j m g
theorem EE.app {y:List AV}{u:List (List Zg)}(h:EE y u){e:AV}{l:List Zg}(A:SS e l):EE (y++[e]) (u++[l]):=by
 refine⟨by simp[h.len],fun j m g=>?_⟩;by_cases z:j<u.length
 ·rw[yF z]at g;rw[yF (by rw[h.len];exact z)];exact h.at' j m g
 ·have w:=(zR.1 g).1;have:j=u.length:=by simp at w;omega
  subst this;rw[zI (zL _)]at g;simp at g;subst g;exact⟨e,by rw[zI (by rw[h.len];exact zL _),h.len];simp,A⟩
def Rst (o:Nat)(H:Hp)(x:AV)(g:List (List Zg)):Prop :=
 g=[]/\(x=.nils\/x=.vs 1 .clip [])\/∃ e j,x=.ws false 1 o e g.length/\H[o]?=some (.row e j)/\EE j g
theorem ZjP {o e i:Nat}{H:Hp}{g:List AV}{a:AV}(h:H[o]?=some (.row e g))(j:g[i]?=some a):Z3 false 1 (.wp o e (i*1)) H=some a:=by
 simp[Z3,h,Go.Am.apart,j]
theorem Zpg {l:List AV}{i:Nat}{a:AV}(h:i<l.length):splice l (i*1) [a]=l.set i a:=by
 unfold splice;rw[yU,List.set_eq_take_append_cons_drop,if_pos h];simp
theorem Zny {o e i:Nat}{H:Hp}{g:List AV}{a:AV}(h:H[o]?=some (.row e g))(j:a.cells=[a]/\a.known=true)(hi:i<g.length):Zf 1 (.wp o e (i*1)) a H=some (.tuple [],H.set o (.row e (g.set i a))):=by
 unfold Zf YM;simp only[h];rw[if_pos ⟨trivial,j.2,by rw[j.1];rfl,by omega⟩,j.1,Zpg hi]
theorem ZaI {o e n i:Nat}(h:i<n):Zn 1 (.ws false 1 o e n) (.int .i64 (i:Int))=some (.wp o e (i*1)):=by
 unfold Zn;dsimp only;rw[if_pos (by omega)];rfl
theorem Rst.get {o:Nat}{H:Hp}{x:AV}{g:List (List Zg)}(h:Rst o H x g){i:Nat}{l:List Zg}(hi:g[i]?=some l):∃ p a,Zn 1 x (.int .i64 (i:Int))=some p/\Z3 false 1 p H=some a/\SS a l:=by
 rcases h with ⟨rfl,_⟩|⟨e,z,rfl,y,w⟩
 ·simp at hi
 ·obtain⟨a,j,u⟩:=w.at' i l hi;exact⟨_,a,ZaI (zR.1 hi).1,ZjP y j,u⟩
theorem Rst.keep {o:Nat}{H H':Hp}{x:AV}{g:List (List Zg)}(h:Rst o H x g)(y:Keep (o+1) H H'):Rst o H' x g:=by
 rcases h with h|⟨e,j,u,z,w⟩
 ·exact .inl h
 ·exact .inr ⟨e,j,u,(y o (by omega)).trans z,w⟩
theorem Rst.put {o:Nat}{H:Hp}{x:AV}{g:List (List Zg)}(h:Rst o H x g){i:Nat}(hi:i<g.length){a:AV}{m:List Zg}(u:SS a m):∃ p H',Zn 1 x (.int .i64 (i:Int))=some p/\Zf 1 p a H=some (.tuple [],H')/\Rst o H' x (g.set i m)/\H'.length=H.length/\∀ j,j≠o->H'[j]?=H[j]?:=by
 rcases h with ⟨rfl,_⟩|⟨e,z,rfl,y,w⟩
 ·simp at hi
 ·refine⟨_,_,ZaI hi,Zny y u.cell (by rw[w.len];exact hi),.inr ⟨e,z.set i a,by rw[List.length_set],yI (zR.1 y).1,w.set u hi⟩,by simp,fun j A=>zC (fun e=>A e.symm)⟩
theorem At:∀ l:List AV,Vz false 1 l.length l=l:=by
 intro l
 induction l with
 |nil=>rfl
 |cons a l g=>simp only[yE,Vz];rw[xJ,xG,g];rfl
def LL (H:Hp)(x:AV)(j:List (List Zg)):Prop :=
 j=[]/\(x=.nils\/x=.vs 1 .clip [])\/(∃ t g,x=.vs 1 t g/\EE g j)\/∃ o e g,x=.ws false 1 o e j.length/\H[o]?=some (.row e g)/\EE g j
theorem Rst.ll {o:Nat}{H:Hp}{x:AV}{g:List (List Zg)}(h:Rst o H x g):LL H x g:=by
 rcases h with h|⟨e,j,u,y,w⟩
 ·exact .inl h
 ·exact .inr (.inr ⟨o,e,j,u,y,w⟩)
theorem LL.elems {H:Hp}{x:AV}{u:List (List Zg)}(h:LL H x u):∃ g,elems 1 x H=some g/\EE g u:=by
 rcases h with ⟨rfl,rfl|rfl⟩|⟨t,g,rfl,j⟩|⟨o,e,g,rfl,w,j⟩
 ·exact⟨[],rfl,EE.nil⟩
 ·exact⟨[],rfl,EE.nil⟩
 ·exact⟨g,rfl,j⟩
 ·refine⟨g,?_,j⟩;unfold Go.Am.elems;dsimp only;rw[if_pos ⟨rfl,.inr rfl⟩,w];dsimp only;rw[if_pos ⟨rfl,by rw[j.len];omega⟩,<-j.len,At]
theorem LL.len {H:Hp}{x:AV}{u:List (List Zg)}(h:LL H x u)(e:Nat):Zl (.slice e) x=some (.int .i64 (u.length:Int)):=by
 rcases h with ⟨rfl,rfl|rfl⟩|⟨t,g,rfl,j⟩|⟨o,e,g,rfl,w,j⟩
 ·rfl
 ·rfl
 ·show some (xI .i64 (g.length:Int))=_;rw[j.len]
 ·rfl
theorem LL.get {H:Hp}{x:AV}{w:List (List Zg)}(h:LL H x w){i:Nat}{l:List Zg}(hi:w[i]?=some l):∃ p a,Zn 1 x (.int .i64 (i:Int))=some p/\Z3 false 1 p H=some a/\SS a l:=by
 rcases h with ⟨rfl,_⟩|⟨t,y,rfl,u⟩|⟨o,e,y,rfl,z,u⟩
 ·simp at hi
 ·obtain⟨a,j,g⟩:=u.at' i l hi;refine⟨.vp a.cells,a,?_,?_,g⟩
  ·unfold Zn;dsimp only;rw[if_pos ⟨rfl,by omega⟩,zX,j]
  ·rw[g.cell.1];rfl
 ·obtain⟨a,j,g⟩:=u.at' i l hi;exact⟨_,a,ZaI (zR.1 hi).1,ZjP z j,g⟩
theorem LL.keep {H H':Hp}{x:AV}{j:List (List Zg)}(h:LL H x j)(z:Keep H.length H H'):LL H' x j:=by
 rcases h with h|h|⟨o,e,u,w,g,y⟩
 ·exact .inl h
 ·exact .inr (.inl h)
 ·exact .inr (.inr ⟨o,e,u,w,(z o (zR.1 g).1).trans g,y⟩)
theorem Rst.app {o:Nat}{H:Hp}{x:AV}{A:List (List Zg)}(h:Rst o H x A){a:AV}{m:List Zg}(j:SS a m)(J:A.length<=1048576) :
 ∃ I D H',Wk false 1 24 x (.vs 1 .clip [a]) H=some (D,H')/\Rst I H' D (A++[m])/\H.length<=H'.length/\(∀ i y,H[i]?=some y->i≠o->H'[i]?=some y):=by
 unfold Wk;have E:Go.Am.elems 1 (.vs 1 .clip [a]) H=some [a]:=rfl;rw[E];dsimp only;have u:YD 1 24=true:=rfl;have w:YD (A.length+1) 24=true:=by simp[YD];omega
 rcases h with ⟨rfl,rfl|rfl⟩|⟨e,B,rfl,C,g⟩
 ·refine⟨H.length,.ws false 1 H.length 0 1,H++[.row 0 [a]],?_,.inr ⟨0,[a],rfl,by simp,EE.nil.app j⟩,by simp,fun i y z _=>Yl z _⟩;unfold VH;simp only[zP,u,if_true,zG,yY,yH,yR,j.cell.1,zU];rw[if_neg (by simp)]
 ·refine⟨H.length,.ws false 1 H.length 0 1,H++[.row 0 [a]],?_,.inr ⟨0,[a],rfl,by simp,EE.nil.app j⟩,by simp,fun i y z _=>Yl z _⟩;unfold VH;simp only[xF,yS,zD,zP,u,and_self,if_true,zG,yY,yH,yR,j.cell.1,zU];rw[if_neg (by simp)]
 ·refine⟨o,.ws false 1 o (e+1) (A.length+1),H.set o (.row (e+1) (B++[a])),?_,.inr ⟨e+1,B++[a],by simp,Zt _ C,g.app j⟩,by simp,fun i y z F=>Yn _ (fun e=>F e.symm) z⟩;unfold VH;simp only[zP,w,and_self,if_true,C,g.len,yU,zL,Zek,zW (Nat.le_of_eq g.len),zG,yY,yH,yR,j.cell.1,zU];rw[if_neg (by simp)]
theorem EE.tail {e:AV}{j:List AV}{l:List Zg}{u:List (List Zg)}(h:EE (e::j) (l::u)):SS e l/\EE j u:=by
 obtain⟨g,w,y⟩:=h.at' 0 l rfl;obtain rfl:e=g:=Option.some.inj w
 exact⟨y,by have:=h.len;simpa using this,fun i m z=>by
  obtain⟨g,A,B⟩:=h.at' (i+1) m (by simpa using z);exact⟨g,by simpa using A,B⟩⟩
theorem EE.cons {e:AV}{j:List AV}{l:List Zg}{u:List (List Zg)}(h:SS e l)(k:EE j u):EE (e::j) (l::u) :=
 ⟨by simp[k.len],fun i m g=>by
  cases i with
  |zero=>simp at g;subst g;exact⟨e,rfl,h⟩
  |succ i=>simpa using k.at' i m (by simpa using g)⟩
theorem EE.close {u:List AV}{j:List (List Zg)}(h:EE u j)(H:Hp)(n f:Nat):∃ g,u.mapM (Zb H n (f+2))=some g/\EE g j:=by
 induction u generalizing j with
 |nil =>
  have:j=[]:=List.length_eq_zero_iff.1 (by rw[<-h.len];rfl);subst this;exact⟨[],rfl,EE.nil⟩
 |cons e u A =>
  cases j with
  |nil=>have:=h.len;simp at this
  |cons l j =>
   obtain⟨y,z⟩:=h.tail;obtain⟨w,B,C⟩:=SS.closed y H n f;obtain⟨g,D,E⟩:=A z;exact⟨w::g,by rw[xH,B];simp[D],EE.cons C E⟩
theorem OH (H:Hp)(n f k:Nat)(t:Tok)(l:List AV):Zb H n (f+1) (.vs k t l)=match l.mapM (Zb H n f) with
 |some l=>some (.vs k (match t with|.own t e=>if t<n then .own t e else .no|tok=>tok) l)
 |none=>none:=rfl
theorem ZhD (H:Hp)(n f:Nat)(ag:Bool)(k o e len:Nat):Zb H n (f+1) (.ws ag k o e len)=if o<n then some (.ws ag k o e len) else
 match elems k (.ws ag k o e len) H with
 |some l=>match l.mapM (Zb H n f) with
  |some l=>some (.vs k .no l)
  |none=>none
 |none=>none:=rfl
def LsV (x:AV)(j:List (List Zg)):Prop:=x=.nils/\j=[]\/∃ t g,x=.vs 1 t g/\EE g j
theorem LsV.ll {x:AV}{g:List (List Zg)}(h:LsV x g)(H:Hp):LL H x g:=by
 rcases h with ⟨j,u⟩|h
 ·exact .inl ⟨u,.inl j⟩
 ·exact .inr (.inl h)
theorem LsV.len {x:AV}{g:List (List Zg)}(h:LsV x g)(e:Nat):Zl (.slice e) x=some (.int .i64 (g.length:Int)):=(h.ll []).len e
theorem LsV.get {x:AV}{g:List (List Zg)}(h:LsV x g){i:Nat}{l:List Zg}(hi:g[i]?=some l)(H:Hp):∃ p a,Zn 1 x (.int .i64 (i:Int))=some p/\Z3 false 1 p H=some a/\SS a l:=(h.ll H).get hi
theorem LL.close0 {H:Hp}{x:AV}{w:List (List Zg)}(h:LL H x w):∃ B,Zb H 0 9 x=some B/\LsV B w:=by
 rcases h with ⟨rfl,rfl|rfl⟩|⟨t,A,rfl,j⟩|⟨o,e,A,rfl,C,j⟩
 ·exact⟨.nils,rfl,.inl ⟨rfl,rfl⟩⟩
 ·exact⟨.vs 1 .clip [],rfl,.inr ⟨_,[],rfl,EE.nil⟩⟩
 ·obtain⟨g,y,z⟩:=j.close H 0 6;exact⟨_,by rw[OH,y],.inr ⟨_,g,rfl,z⟩⟩
 ·obtain⟨g,y,z⟩:=j.close H 0 6
  have u:Go.Am.elems 1 (.ws false 1 o e w.length) H=some A:=by
   unfold Go.Am.elems;dsimp only;rw[if_pos ⟨rfl,.inr rfl⟩,C];dsimp only;rw[if_pos ⟨rfl,by rw[j.len];omega⟩,<-j.len,At]
  exact⟨.vs 1 .no g,by rw[ZhD,if_neg (Nat.not_lt_zero _),u];dsimp only;rw[y],.inr ⟨_,g,rfl,z⟩⟩
theorem SS.cut {x:AV}{l:List Zg}(h:SS x l){i j:Nat}(u:i<=j)(B:j<=l.length):∃ y,Yk 1 x (some (.int .i64 (i:Int))) (some (.int .i64 (j:Int))) (some (.int .i64 (j:Int)))=some y/\SS y ((l.take j).drop i):=by
 have A:∀ n,j<=n->Yw n n (some (.int .i64 (i:Int))) (some (.int .i64 (j:Int))) (some (.int .i64 (j:Int)))=some (i,j,j):=fun n D=>by
  delta Yw
  simp[YW,D,u]
 rcases h with ⟨rfl,C⟩|⟨t,rfl⟩
 ·have z:l=[]:=by simpa using C
  subst z;have w:j=0:=by simpa using B
  have g:i=0:=by omega
  subst w g;refine⟨.nils,?_,.inl ⟨rfl,rfl⟩⟩;simp only[Yk];rw[A 0 (zL _)]
 ·refine⟨.vs 1 .clip (((l.map xC).take j).drop i),?_,.inr ⟨.clip,by rw[<-List.map_take,<-List.map_drop]⟩⟩;simp only[Yk,if_true,yC];rw[A _ B];simp
def WC (m:Nat)(s:Sto):List AV:=[.int .i64 (s.limit:Int),.int .i64 (Zs s.files:Int),.int .i64 (s.peak:Int),.map m,.bool s.crashed,.int .i64 (s.count:Int)]
theorem StAt.cell {H H':Hp}{o m g:Nat}{u:List FD}{s s':Sto}(h:StAt H o m g u s)(w:Stp [o] H H')(z:H'[o]?=some (.cells (WC m s')))(A:s'.files=s.files):StAt H' o m g u s' where
 files:=by rw[A];exact h.files
 cells:=z
 map:=w.get h.map (by simpa using h.om.symm)
 file:=fun d j=>(h.file d j).frame fun a y=>w.at' a ((h.file d j).lt a y) (by simpa using (h.own_lt j y).1)
 nd:=h.nd
 born:=h.born
theorem ld {H:Hp}{o:Nat}{l:List AV}(h:H[o]?=some (.cells l))(i:Nat){v:AV}(g:l[i]?=some v):Z3 false 1 (.ptr o (0+i)) H=some v:=by
 rw[YE h,zD];exact g
theorem st {H:Hp}{o:Nat}{l:List AV}(h:H[o]?=some (.cells l))(i:Nat){v:AV}(g:v.cells=[v])(j:v.known=true)(hi:i<l.length):Zf 1 (.ptr o (0+i)) v H=some (.tuple [],H.set o (.cells (l.set i v))):=by
 rw[zD,VU h j (by rw[g];rfl) (by omega),g];congr 4;have:=Zpg (l:=l) (i:=i) (a:=v) hi
 rwa [yU]at this
theorem ZjU {H:Hp}{o m B:Nat}{L:List FD}{s:Sto}(h:StAt H o m B L s)(Q:s.count<=9223372036854775807) :
 ∃ H',Up [.ptr o 0] H=some (.bool s.tick.crashed,H')/\StAt H' o m B L s.tick/\Stp [o] H H':=by
 have z:H[o]?=some (.cells (WC m s)):=h.cells;have A:=ld z 4 (v:=.bool s.crashed) rfl;have J:=ld z 5 (v:=.int .i64 (s.count:Int)) rfl;rw[Af];unfold Tr
 cases g:s.crashed with
 |true =>
  have w:s.tick=s:=by unfold Sto.tick;rw[if_pos g]
  rw[w,g];rw[g]at A;exact⟨H,by simp only[go_sem,A,WL],h,Stp.refl _ _⟩
 |false =>
  rw[g]at A;by_cases F:s.count=1
  ·have w:s.tick={ s with crashed:=true,count:=0 }:=by unfold Sto.tick;rw[if_neg (by simp[g]),if_pos F]
   have D:((s.count:Int)==1)=true:=by rw[F];rfl
   have N:=st z 4 (v:=.bool true) rfl rfl (by simp[WC]);have C:=Zt (zJ (zO (WC m s) 4 (.bool true))) z;have K:=st C 5 (v:=.int .i64 0) rfl rfl (by simp[WC]);have j:=Zt (zJ (zO (zO (WC m s) 4 (.bool true)) 5 (xI .i64 0))) C;have u:=ld j 4 (v:=.bool true) rfl;refine⟨(H.set o (.cells ((WC m s).set 4 (.bool true)))).set o (.cells (((WC m s).set 4 (.bool true)).set 5 (.int .i64 0))),by simp only[go_sem,A,J,D,N,K,WL,u,w],?_,?_⟩
   ·rw[w];refine h.cell ?_ ?_ rfl
    ·exact (Stp.set H _ (by simp)).trans (Stp.set _ _ (zH.2 rfl)) (fun a y=>y) (fun a y=>.inl y)
    ·exact j
   ·exact (Stp.set H _ (by simp)).trans (Stp.set _ _ (zH.2 rfl)) (fun a y=>y) (fun a y=>.inl y)
  ·have D:((s.count:Int)==1)=false:=by rw[beq_eq_false_iff_ne];omega
   have w:s.tick={ s with count:=s.count-1 }:=by unfold Sto.tick;rw[if_neg (by simp[g]),if_neg F]
   by_cases O:1<s.count
   ·have E:decide ((1:Int)<(s.count:Int))=true:=by rw[decide_eq_true_eq];omega
    have hw:xP.wrap ((s.count:Int)-1)=((s.count-1:Nat):Int):=by rw[Zr (by omega) (by omega)];omega
    have K:=st z 5 (v:=.int .i64 ((s.count-1:Nat):Int)) rfl rfl (by simp[WC]);have j:=Zt (zJ (zO (WC m s) 5 (xI .i64 ((s.count-1:Nat):Int)))) z;have u:=ld j 4 (v:=.bool s.crashed) rfl;rw[g]at u;refine⟨H.set o (.cells ((WC m s).set 5 (.int .i64 ((s.count-1:Nat):Int)))),by simp only[go_sem,A,J,D,E,hw,K,WL,u,w,g],?_,Stp.set _ _ (by simp)⟩;rw[w];exact h.cell (Stp.set _ _ (by simp)) j rfl
   ·have E:decide ((1:Int)<(s.count:Int))=false:=by simp;omega
    have M:s.count=0:=by omega
    have I:s.tick=s:=by rw[w];cases s;simp only at M;subst M;rfl
    rw[I,g];exact⟨H,by simp only[go_sem,A,J,D,E,WL],h,Stp.refl _ _⟩
theorem Qc (s:Sto):s.tick.files=s.files:=by unfold Sto.tick;split;rfl;split <;> rfl
theorem ZrN (s:Sto):s.tick.limit=s.limit:=by unfold Sto.tick;split;rfl;split <;> rfl
theorem ZuO (s:Sto):s.tick.peak=s.peak:=by unfold Sto.tick;split;rfl;split <;> rfl
theorem Zao {H:Hp}{o m j:Nat}{A:List FD}{s:Sto}(h:StAt H o m j A s)(F:s.count<=9223372036854775807)(n:Zo) :
 ∃ (p:AV) (e:Int) (H':Hp),W4 [.ptr o 0,.str n] H=some (.tuple [p,.int .i64 e],H')/\StAt H' o m j A s.tick/\Stp [o] H H' /\
  (s.tick.crashed=true/\e=19\/s.tick.crashed=false/\ZQ s.files n=none/\e=5 \/
   s.tick.crashed=false/\e=0/\∃ a d b,A=a++d::b/\d.fil.name=n/\(∀ g∈a,g.fil.name≠n)/\ZQ s.files n=some d.fil/\p=.ptr d.f 0):=by
 obtain⟨H1,y,z,D⟩:=ZjU h F;rw[Iq];unfold Nn
 cases u:s.tick.crashed with
 |true =>
  rw[u]at y;exact⟨.nilp,19,H1,by simp only[go_sem,Qn,y],z,D,.inl ⟨rfl,rfl⟩⟩
 |false =>
  rw[u]at y;have E:=ld z.cells 3 (v:=.map m) rfl;have w:=z.look n;rw[Qc]at w;rcases w with ⟨B,C⟩|⟨a,d,b,B,C,I,J,K⟩
  ·exact⟨.nilp,5,H1,by simp only[go_sem,Qn,y,DG,E,C],z,D,.inr (.inl ⟨rfl,B,rfl⟩)⟩
  ·exact⟨.ptr d.f 0,0,H1,by simp only[go_sem,Qn,y,DG,E,K,AZ],z,D,.inr (.inr ⟨rfl,rfl,a,d,b,B,C,I,J,rfl⟩)⟩
structure StoRes (H H':Hp)(o:Nat)(s':Sto)(A A':List Nat):Prop where
 at':StoreAt H' o s' A'
 stp:Stp A H H'
 own:∀ a∈A',a∈A\/H.length<=a
theorem StAt.res {H H':Hp}{o m g:Nat}{j:List FD}{s':Sto}(h:StAt H' o m g j s')(w:Stp [o] H H'):StoRes H H' o s' (o::m::j.flatMap FD.own) (o::m::j.flatMap FD.own) :=
 ⟨⟨m,g,j,h,rfl⟩,w.mono (fun a u=>by rw[zH.1 u];simp),fun a u=>.inl u⟩
theorem ZmX (d:FD):d.f∈d.own:=by simp[FD.own]
theorem Zv4 {H:Hp}{o:Nat}{s:Sto}{A:List Nat}(h:StoreAt H o s A)(T:s.count<=9223372036854775807)(n:Zo) :
 ∃ H' A',KO [.ptr o 0,.str n] H=some (.int .i64 (s.sync n).1,H')/\StoRes H H' o (s.sync n).2 A A':=by
 obtain⟨m,B,X,h,rfl⟩:=h;obtain⟨p,e,H1,K,j,L,V⟩:=Zao h T n;rw[Io];unfold Nk Sto.sync;rcases V with ⟨u,rfl⟩|⟨u,R,rfl⟩|⟨u,rfl,a,d,b,rfl,M,N,S,rfl⟩
 ·have w:((19:Int)==0)=false:=rfl;rw[if_pos u];exact⟨H1,_,by simp only[K,go_sem,zA,zB,w,Qm],j.res L⟩
 ·have w:((5:Int)==0)=false:=rfl;rw[if_neg (by simp[u]),R];exact⟨H1,_,by simp only[K,go_sem,zA,zB,w,Qm],j.res L⟩
 ·have w:((0:Int)==0)=true:=rfl;rw[if_neg (by simp[u]),S];have y:=j.file d (by simp);have U:=ld y.cells 0 (v:=d.tx) rfl;have z:=y.text.len 5;have W:=st y.cells 1 (v:=.int .i64 (d.fil.text.length:Int)) rfl rfl (by simp);refine⟨H1.set d.f (.cells (zO [d.tx,.int .i64 (d.fil.syn:Int)] 1 (.int .i64 (d.fil.text.length:Int)))),o::m::(a++{ d with fil:={ d.fil with syn:=d.fil.text.length } }::b).flatMap FD.own,by simp only[K,go_sem,zA,zB,w,U,z,W,Qm],?_⟩;have D:d.f≠o:=(j.own_lt (d:=d) (by simp) (ZmX d)).1;have E:d.f≠m:=(j.own_lt (d:=d) (by simp) (ZmX d)).2;have O:Stp (o::d.own) H1 (H1.set d.f (.cells (zO [d.tx,.int .i64 (d.fil.syn:Int)] 1 (.int .i64 (d.fil.text.length:Int))))):=Stp.set _ _ (by simp[FD.own])
  have I:∀ t∈ZG d.tx,t≠d.f:=fun t F=>by
   have:=j.nd;rw[zE,zE,zK,zV,zT,zT]at this;obtain⟨_,_,_,⟨Q,_⟩,_⟩:=this;rw[FD.own,zE]at Q;exact fun e=>Q.1 (e ▸ F)
  have J:Zs (Fy s.files n fun f=>{ f with syn:=f.text.length })=Zs s.files:=by
   rw[<-h.files,ZaG a d b n _ M N];simp[W9,Zs]
  have C:=j.upd (d':={ d with fil:={ d.fil with syn:=d.fil.text.length } }) (s':={ s.tick with files:=Fy s.files n fun f=>{ f with syn:=f.text.length } }) (H':=H1.set d.f (.cells (zO [d.tx,.int .i64 (d.fil.syn:Int)] 1 (.int .i64 (d.fil.text.length:Int)))))
   (by
    rw[zC D,j.cells];simp only[J,Qc])
   (zC E) rfl (by show Fy s.files n _=_;rw[<-h.files,ZaG a d b n _ M N])
   ⟨Zt _ y.cells,y.text.frame fun t F=>zC (fun e=>I t F e.symm)⟩ O
   (by
    have:=j.nd;rw[zE,zE,zK,zV,zT,zT]at this;exact this.2.2.2.1.1)
   (fun x g=>.inl g)
  refine⟨⟨m,B,_,C,rfl⟩,?_,fun x g=>.inl ?_⟩
  ·refine L.trans O (fun x g=>by rw[zH.1 g];simp) fun x g=>.inl ?_;rcases zF.1 g with e|g
   ·subst e;simp
   ·simp[g]
  ·simpa[FD.own]using g
theorem StAt.fileRes {H H1 H':Hp}{o m j:Nat}{a b:List FD}{d d':FD}{s s':Sto}(h:StAt H o m j (a++d::b) s)(y:Stp [o] H H1)(w:StAt H' o m j (a++d'::b) s')(z:Stp (o::d.own) H1 H')
 (u:∀ x∈d'.own,x∈d.own\/H1.length<=x):StoRes H H' o s' (o::m::(a++d::b).flatMap FD.own) (o::m::(a++d'::b).flatMap FD.own):=by
 refine⟨⟨m,j,_,w,rfl⟩,y.trans z (fun x g=>by rw[zH.1 g];simp) fun x g=>.inl ?_,fun x g=>?_⟩
 ·rcases zF.1 g with e|g
  ·subst e;simp
  ·simp[g]
 ·rcases zF.1 g with e|g
  ·subst e;exact .inl (by simp)
  rcases zF.1 g with e|g
  ·subst e;exact .inl (by simp)
  rw[zK,zV]at g;rcases zM.1 g with g|g
  ·exact .inl (by simp only[zK,zF,zM];exact .inr (.inr (.inl g)))
  rcases zM.1 g with g|g
  ·rcases u x g with k|k
   ·exact .inl (by simp only[zK,zV,zF,zM];exact .inr (.inr (.inr (.inl k))))
   ·exact .inr (xL y.len k)
  ·exact .inl (by simp only[zK,zV,zF,zM];exact .inr (.inr (.inr (.inr g))))
theorem StAt.mid {H:Hp}{o m g:Nat}{a b:List FD}{d:FD}{s:Sto}(h:StAt H o m g (a++d::b) s):d.own.Nodup/\FileAt H d/\(∀ x∈d.own,x≠o/\x≠m)/\∀ t∈ZG d.tx,t≠d.f:=by
 have:=h.nd;rw[zE,zE,zK,zV,zT,zT]at this;obtain⟨_,_,_,⟨j,_⟩,_⟩:=this;refine⟨j,h.file d (by simp),fun x w=>h.own_lt (d:=d) (by simp) w,fun t u=>?_⟩;rw[FD.own,zE]at j;exact fun e=>j.1 (e ▸ u)
theorem HX (a:List Fil)(f:Fil)(b:List Fil):Zs (a++f::b)=Zs a+(f.text.length+Zs b):=by rw[W9];rfl
theorem Zpm {H:Hp}{o:Nat}{s:Sto}{A:List Nat}(h:StoreAt H o s A)(X:StoOk s)(n t:Zo)(ht:t.length<=1048576) :
 ∃ H' A',J2 [.ptr o 0,.str n,.str t] H=some (.int .i64 (s.append n t).1,H')/\StoRes H H' o (s.append n t).2 A A':=by
 obtain⟨m,ai,ds,h,rfl⟩:=h;obtain⟨p,e,H1,q1,K,q3,q4⟩:=Zao h X.count n;rw[C5];unfold Rl Sto.append;rcases q4 with ⟨N,rfl⟩|⟨N,c2,rfl⟩|⟨N,rfl,a,d,b,rfl,c3,c4,c5,rfl⟩
 ·have L:((19:Int) != 0)=true:=rfl;rw[if_pos N];exact⟨H1,_,by simp only[q1,go_sem,zA,zB,L],K.res q3⟩
 ·have L:((5:Int) != 0)=true:=rfl;rw[if_neg (by simp[N]),c2];exact⟨H1,_,by simp only[q1,go_sem,zA,zB,L],K.res q3⟩
 ·have L:((0:Int) != 0)=false:=rfl;rw[if_neg (by simp[N]),c5];have ag:=X.used;have ah:=X.limit;have aj:=X.peak;have V:H1[o]?=some (.cells (WC m s.tick)):=K.cells;have l0:=ld V 0 (v:=.int .i64 (s.limit:Int)) (by rw[<-ZrN s];rfl);have l1:=ld V 1 (v:=.int .i64 (Zs s.files:Int)) (by rw[<-Qc s];rfl);have hw:xP.wrap ((Zs s.files:Int)+(t.length:Int))=((Zs s.files+t.length:Nat):Int):=by rw[Zr (by omega) (by omega)];omega
  by_cases hf:s.limit<Zs s.files+t.length
  ·have e2:decide ((s.limit:Int)<((Zs s.files+t.length:Nat):Int))=true:=by rw[decide_eq_true_eq];omega
   simp only[if_pos hf];exact⟨H1,_,by simp only[q1,go_sem,zA,zB,L,G6,l0,l1,hw,e2],K.res q3⟩
  ·have e2:decide ((s.limit:Int)<((Zs s.files+t.length:Nat):Int))=false:=by simp;omega
   simp only[if_neg hf];obtain⟨k1,W,Y,k4⟩:=K.mid;have ab:=h.files
   have I:Zs s.files=Zs (a.map FD.fil)+(d.fil.text.length+Zs (b.map FD.fil)):=by
    rw[<-ab,zN,zG,HX]
   have m0:=ld W.cells 0 (v:=d.tx) rfl;obtain⟨j,R,p1,p2,Z,p4,p5⟩:=W.text.app t (by omega);have g1:R[d.f]?=some (.cells [d.tx,.int .i64 (d.fil.syn:Int)]):=Z.get W.cells fun J=>k4 _ J rfl
   have Q:j.cells=[j]/\j.known=true:=by
    rcases p2 with ⟨rfl,_⟩|⟨t',e',rfl,_⟩|rfl <;> exact⟨rfl,rfl⟩
   have s1:=st g1 0 (v:=j) Q.1 Q.2 (by simp);have u:=Y d.f (by simp[FD.own]);have ae:o∉ZG d.tx:=fun J=>(Y o (by simp[FD.own,J])).1 rfl;have ac:m∉ZG d.tx:=fun J=>(Y m (by simp[FD.own,J])).2 rfl;have g2:R[o]?=some (.cells (WC m s.tick)):=Z.get V ae;have T:=Yn (.cells (zO [d.tx,.int .i64 (d.fil.syn:Int)] 0 j)) u.1 g2;have n1:=ld T 1 (v:=.int .i64 (Zs s.files:Int)) (by rw[<-Qc s];rfl);have s2:=st T 1 (v:=.int .i64 ((Zs s.files+t.length:Nat):Int)) rfl rfl (by simp[WC]);have M:=Zt (zJ (zO (WC m s.tick) 1 (.int .i64 ((Zs s.files+t.length:Nat):Int)))) T;have n2:=ld M 2 (v:=.int .i64 (s.peak:Int)) (by rw[<-ZuO s];rfl);have n3:=ld M 1 (v:=.int .i64 ((Zs s.files+t.length:Nat):Int)) rfl;have ad:max (s.peak:Int) ((Zs s.files+t.length:Nat):Int)=((max s.peak (Zs s.files+t.length):Nat):Int):=by omega
   have s3:=st M 2 (v:=.int .i64 ((max s.peak (Zs s.files+t.length):Nat):Int)) rfl rfl (by simp[WC]);have U:=Zt (zJ (zO (zO (WC m s.tick) 1 (.int .i64 ((Zs s.files+t.length:Nat):Int))) 2 (.int .i64 ((max s.peak (Zs s.files+t.length):Nat):Int)))) M;generalize D:R.set d.f (.cells (zO [d.tx,.int .i64 (d.fil.syn:Int)] 0 j))=H3 at s1 T n1 s2 M n2 n3 s3 U;generalize E:H3.set o (.cells (zO (WC m s.tick) 1 (.int .i64 ((Zs s.files+t.length:Nat):Int))))=H4 at s2 M n2 n3 s3 U;generalize F:H4.set o (.cells (zO (zO (WC m s.tick) 1 (.int .i64 ((Zs s.files+t.length:Nat):Int))) 2 (.int .i64 ((max s.peak (Zs s.files+t.length):Nat):Int))))=S at s3 U
   have hS:Stp (o::d.own) H1 S:=by
    refine (Z.mono (B:=o::d.own) fun x J=>by simp[FD.own,J]).trans (B:=o::d.own) (C:=o::d.own) ?_ (fun _ h=>h) fun _ h=>.inl h;rw[<-F,<-E,<-D];exact ((Stp.set _ _ (by simp[FD.own])).trans (Stp.set _ _ (by simp)) (fun _ h=>h) fun _ h=>.inl h).trans (Stp.set _ _ (by simp)) (fun _ h=>h) fun _ h=>.inl h
   have w:∀ y,y≠o->y≠d.f->S[y]?=R[y]?:=fun y h1 h2=>by
    rw[<-F,zC (fun e=>h1 e.symm),<-E,zC (fun e=>h1 e.symm),<-D,zC (fun e=>h2 e.symm)]
   have z:∀ y∈FD.own { d with fil:={ d.fil with text:=d.fil.text++t },tx:=j },y∈d.own\/H1.length<=y:=fun y g=>by
    rcases zF.1 g with e|g
    ·subst e;exact .inl (by simp[FD.own])
    ·rcases p4 y g with k|k
     ·exact .inl (by simp[FD.own,k])
     ·exact .inr (by omega)
   have O:∀ y∈d.own,y<H1.length:=W.lt
   have hT:∀ y∈ZG j,y≠o/\y≠d.f:=fun y g=>by
    rcases p4 y g with k|k
    ·exact⟨(Y y (by simp[FD.own,k])).1,k4 y k⟩
    ·have:=Zh V;have:=O d.f (by simp[FD.own]);omega
   have af:Zs (Fy s.files n fun f=>{ f with text:=f.text++t })=Zs s.files+t.length:=by
    rw[I,<-h.files,ZaG a d b n _ c3 c4,HX,zQ];omega
   have aa:=K.upd (H':=S) (d':={ d with fil:={ d.fil with text:=d.fil.text++t },tx:=j }) (s':={ s.tick with files:=Fy s.files n fun f=>{ f with text:=f.text++t },peak:=max s.peak (Zs s.files+t.length) })
    (by rw[U];simp only[af];rfl)
    (by rw[w m (fun e=>h.om e.symm) (fun e=>u.2 e.symm)];exact Z.at' m (Zh K.map) ac)
    rfl (by show Fy s.files n _=_;rw[<-h.files,ZaG a d b n _ c3 c4])
    ⟨by
     rw[<-F,zC (fun e=>u.1 e.symm),<-E,zC (fun e=>u.1 e.symm),<-D];exact Zt _ g1,p2.frame fun y g=>w y (hT y g).1 (hT y g).2⟩ hS
    (by
     rw[FD.own,zE];refine⟨fun g=>(hT _ g).2 rfl,?_⟩;show (ZG j).Nodup;rcases p2 with ⟨rfl,_⟩|⟨t',e',rfl,_⟩|rfl <;> simp[ZG])
    z
   refine⟨S,_,?_,h.fileRes q3 aa hS z⟩;simp only[q1,go_sem,zA,zB,L,G6,l0,l1,hw,e2,SJ,m0,p1,s1,n1,s2,n2,n3,ad,s3]
theorem Zv2 {H:Hp}{o:Nat}{s:Sto}{A:List Nat}(h:StoreAt H o s A)(J:StoOk s)(n:Zo)(i k:Int)(hi:-9223372036854775808<=i/\i<=9223372036854775807) :
 ∃ H',KN [.ptr o 0,.str n,.int .i64 i,.int .i64 k] H=some (.tuple [.str (s.read n i k).1,.int .i64 (s.read n i k).2],H')/\StoRes H H' o s.tick A A:=by
 obtain⟨m,Z,ds,h,rfl⟩:=h;obtain⟨p,e,H1,S,D,T,q4⟩:=Zao h J.count n;rw[Im];unfold Nj Sto.read;rcases q4 with ⟨B,rfl⟩|⟨B,X,rfl⟩|⟨B,rfl,a,d,b,rfl,c3,c4,Y,rfl⟩
 ·have C:((19:Int) != 0)=true:=rfl;rw[if_pos B];exact⟨H1,by simp only[S,go_sem,zA,zB,C],D.res T⟩
 ·have C:((5:Int) != 0)=true:=rfl;rw[if_neg (by simp[B]),X];exact⟨H1,by simp only[S,go_sem,zA,zB,C],D.res T⟩
 ·have C:((0:Int) != 0)=false:=rfl;rw[if_neg (by simp[B]),Y];obtain⟨k1,E,k3,k4⟩:=D.mid;have R:=ld E.cells 0 (v:=d.tx) rfl;have u:=E.text.len 5
  have F:Zs s.files=Zs (a.map FD.fil)+(d.fil.text.length+Zs (b.map FD.fil)):=by
   rw[<-h.files,zN,zG,HX]
  have N:=J.used;have U:=J.limit;refine⟨H1,?_,D.res T⟩;simp only[S,go_sem,zA,zB,C,AX];by_cases g:i<0
  ·simp only[decide_eq_true g,go_sem,if_pos (show i<0\/(d.fil.text.length:Int)<i\/k<0 from .inl g)]
  by_cases w:(d.fil.text.length:Int)<i
  ·simp only[decide_eq_false g,go_sem,R,u,decide_eq_true w,if_pos (show i<0\/(d.fil.text.length:Int)<i\/k<0 from .inr (.inl w))]
  by_cases z:k<0
  ·simp only[decide_eq_false g,go_sem,R,u,decide_eq_false w,decide_eq_true z,if_pos (show i<0\/(d.fil.text.length:Int)<i\/k<0 from .inr (.inr z))]
  have L:¬ (i<0\/(d.fil.text.length:Int)<i\/k<0):=by omega
  have O:xP.wrap ((d.fil.text.length:Int)-i)=(d.fil.text.length:Int)-i:=Zr (by omega) (by omega);have Q:xP.wrap (i+min k ((d.fil.text.length:Int)-i))=((i.toNat+min k.toNat (d.fil.text.length-i.toNat):Nat):Int):=by rw[Zr (by omega) (by omega)];omega
  obtain⟨y,V,W⟩:=E.text.part (i:=i.toNat) (j:=i.toNat+min k.toNat (d.fil.text.length-i.toNat)) (by omega) (by omega) H1;have I:((i.toNat:Nat):Int)=i:=by omega
  rw[I]at V
  have M:(d.fil.text.take (i.toNat+min k.toNat (d.fil.text.length-i.toNat))).drop i.toNat=(d.fil.text.drop i.toNat).take k.toNat:=by
   rw[List.drop_take,Nat.add_sub_cancel_left];by_cases K:k.toNat<=d.fil.text.length-i.toNat
   ·rw[Nat.min_eq_left K]
   ·rw[Nat.min_eq_right (by omega),zW (by simp),zW (by simp;omega)]
  rw[M]at W;simp only[decide_eq_false g,go_sem,R,u,decide_eq_false w,decide_eq_false z,AY,O,Q,V,W,if_neg L]
def EX (j x8:AV):Option AV :=
 Z0 (Z5 .geq j (.int .u8 97)) fun w =>
 Z0 (Z8 w true (.tuple []) (some j)) fun D =>
 Z0 (Z8 w true (.tuple []) (Z5 .leq D (.int .u8 122))) fun E =>
 Z0 (Zj w E (.bool false)) fun u =>
 Z0 (Z8 u false (.tuple []) (some j)) fun F =>
 Z0 (Z8 u false (.tuple []) (Z5 .geq F (.int .u8 65))) fun H =>
 Z0 (Z8 u false (.tuple []) (some H)) fun y =>
 Z0 (Z8 y true (.tuple []) (some j)) fun I =>
 Z0 (Z8 y true (.tuple []) (Z5 .leq I (.int .u8 90))) fun J =>
 Z0 (Z8 u false (.tuple []) (Zj y J (.bool false))) fun K =>
 Z0 (Zj u (.bool true) K) fun z =>
 Z0 (Z8 z false (.tuple []) (some j)) fun L =>
 Z0 (Z8 z false (.tuple []) (Z5 .eql L (.int .u8 95))) fun M =>
 Z0 (Zj z (.bool true) M) fun A =>
 Z0 (Z8 A false (.tuple []) (some j)) fun N =>
 Z0 (Z8 A false (.tuple []) (Z5 .eql N (.int .u8 46))) fun O =>
 Z0 (Zj A (.bool true) O) fun Q =>
 Z0 (Xv .not Q) fun g =>
 Z0 (Z8 g true (.tuple []) (some x8)) fun R =>
 Z0 (Z8 g true (.tuple []) (Z5 .eql R (.int .i64 0))) fun S =>
 Z0 (Z8 g true (.tuple []) (some S)) fun B =>
 Z0 (Z8 B false (.tuple []) (some j)) fun T =>
 Z0 (Z8 B false (.tuple []) (Z5 .lss T (.int .u8 48))) fun U =>
 Z0 (Z8 g true (.tuple []) (Zj B (.bool true) U)) fun V =>
 Z0 (Z8 g true (.tuple []) (some V)) fun C =>
 Z0 (Z8 C false (.tuple []) (some j)) fun W =>
 Z0 (Z8 C false (.tuple []) (Z5 .gtr W (.int .u8 57))) fun X =>
 Z0 (Z8 g true (.tuple []) (Zj C (.bool true) X)) fun Y =>
 Z0 (Zj g Y (.bool false)) fun Z =>
 some Z
theorem Zfy (w z u A:AV)(y H:Hp):BW w z u A y H =
 Z0 (Zz w u) fun j =>
 Z0 (EX j u) fun g =>
 Zk g (some ((.bool false),H)) (BX w z u y H):=by
 rw[ZaA];simp only[EX,Nq,Qg]
theorem ZhY:((xO 256).all fun n=>(RH (EX (.int .u8 (n:Int)) (.int .i64 1))==some (!(Zab (zS n) || Zm6 (zS n))))&&(RH (EX (.int .u8 (n:Int)) (.int .i64 0))==some (!Zab (zS n))))=true:=by kernel_rfl
theorem Zmr (b:UInt8):EX (.int .u8 b.toNat) (.int .i64 0)=some (.bool (!Zab b)):=by
 have h:=Va ZhY (ZeB b);simp only[zZ,beq_iff_eq,yZ]at h;exact Qh h.2
theorem Zog (b:UInt8){i:Int}(hi:(i==0)=false):EX (.int .u8 b.toNat) (.int .i64 i)=some (.bool (!(Zab b || Zm6 b))):=by
 have h:=Va ZhY (ZeB b);simp only[zZ,beq_iff_eq,yZ]at h;rw[<-Qh h.1];have e:Z5 .eql (.int .i64 i) (.int .i64 0)=Z5 .eql (.int .i64 1) (.int .i64 0):=by simp only[Z5,W5,XH,hi];rfl
 unfold EX
 iterate 18 refine congrArg (Z0 _) (funext fun t=>?_)
 cases t with
 |bool b =>
  cases b
  ·rfl
  ·simp only[Zmy,Qg,e]
 |_=>rfl
theorem Zms (s:Zo)(g H:Hp):BV (.str s) g H=some (.bool (!s.isEmpty&&decide (s.length<=32)),H):=by
 rw[Zaz]
 cases s with
 |nil=>simp[go_sem,Xb,DH]
 |cons b l =>
  simp only[Xb,DH,go_sem,Zl];have:(!((b::l)==([]:Zo)))=true:=rfl;have c:decide (((b::l).length:Int)<=32)=decide ((b::l).length<=32):=by rw[Bool.eq_iff_iff];simp;omega
  simp only[this,go_sem,c,xA,yD,yJ]
theorem ZqL (s:Zo)(D:s.length<=1048576)(w H:Hp):∀ (k i:Nat),s.length-i=k->0<i->i<=s.length ->
 Qz (.str s) (.int .i64 s.length) (.int .i64 i) w H=some (.bool (((s.drop i).all fun c=>Zab c || Zm6 c)&&(!s.isEmpty&&decide (s.length<=32))),H):=by
 intro k
 induction k with
 |zero =>
  intro i A y hi;rw[VQ];have g:decide ((i:Int)<(s.length:Int))=false:=by simp;omega
  have z:s.drop i=[]:=List.drop_eq_nil_iff.2 (by omega);simp only[go_sem,g,Zms s,z,List.all_nil,yJ]
 |succ k B =>
  intro i A y hi;rw[VQ];have u:i<s.length:=by omega
  have g:decide ((i:Int)<(s.length:Int))=true:=by simp;omega
  have hw:xP.wrap ((i:Int)+1)=((i+1:Nat):Int):=by rw[Zr (by omega) (by omega)];omega
  have j:((i:Int)==0)=false:=by simp;omega
  simp only[go_sem,g,Zfy,Y8 (zY u),Zog _ j];rw[List.drop_eq_getElem_cons u,xK]
  cases C:(Zab s[i] || Zm6 s[i]) with
  |false=>simp only[go_sem,yD,yW]
  |true =>
   simp only[go_sem,yG,yJ,Ti,hw];exact B (i+1) (by omega) (by omega) (by omega)
theorem ZqK (s:Zo)(w:s.length<=1048576)(H:Hp):Ze F9 [.str s] H=some (.bool (F5 s),H):=by
 refine XQ (a':=.str s) rfl (H1:=[]) ?_ rfl;rw[Zbn];unfold Ef;simp only[go_sem,Zl]
 cases s with
 |nil=>rw[VQ];simp[go_sem,Zms [],F5]
 |cons b l =>
  rw[VQ];have j:decide ((0:Int)<((b::l).length:Int))=true:=by simp
  have hw:xP.wrap ((0:Int)+1)=((0+1:Nat):Int):=by decide
  have g:Zz (.str (b::l)) (.int .i64 0)=some (.int .u8 b.toNat):=by simp[Zz]
  simp only[go_sem,j,Zfy,g,Zmr];unfold F5
  cases u:Zab b with
  |false=>simp only[go_sem,yD,u,yW]
  |true =>
   have:=ZqL (b::l) w [] [] l.length 1 (by simp) (by omega) (by simp);rw[show ((1:Nat):Int)=((0+1:Nat):Int) from rfl]at this;simp only[go_sem,yG,Ti,hw,this];simp only[xJ,xG,xA,yD,yJ,u]
theorem ZyL {H:Hp}{m g:Nat}{j:List (AV×AV×Nat)}(h:H[m]?=some (.map j g)):J7 (.map m) H=some (.int .i64 (j.length:Int)):=by
 unfold J7 Xi;dsimp only;rw[h]
theorem Zpq {H:Hp}{o:Nat}{s:Sto}{A:List Nat}(h:StoreAt H o s A)(hk:StoOk s)(n:Zo)(hn:n.length<=1048576) :
 ∃ H' A',J3 [.ptr o 0,.str n] H=some (.int .i64 (s.create n).1,H')/\StoRes H H' o (s.create n).2 A A':=by
 obtain⟨m,g,w,h,rfl⟩:=h;obtain⟨H1,F,B,J⟩:=ZjU h hk.count;have z:=ZqK n hn H1;have R:H1[o]?=some (.cells (WC m s.tick)):=B.cells;have l3:=ld R 3 (v:=.map m) rfl;have M:=B.look n;rw[Qc]at M;have E:=ZyL B.map;have U:(w.map FD.ent).length=s.files.length:=by rw[yC,<-h.files,yC]
 rw[U]at E;rw[C6];unfold Rm Sto.create
 cases L:s.tick.crashed with
 |true =>
  rw[L]at F;rw[if_pos rfl];exact⟨H1,_,by simp only[go_sem,F],B.res J⟩
 |false =>
  rw[L]at F;rw[if_neg (by simp)]
  cases O:F5 n with
  |false =>
   rw[O]at z;rw[if_pos rfl];exact⟨H1,_,by simp only[go_sem,F,z,yD],B.res J⟩
  |true =>
   rw[O]at z;rw[if_neg (by simp)];rcases M with ⟨Y,Z⟩|⟨a,d,b,Y,Z,k3,k4,k5⟩
   ·rw[Y];by_cases K:64<=s.files.length
    ·have S:decide ((64:Int)<=(s.files.length:Int))=true:=by rw[decide_eq_true_eq];omega
     simp only[if_pos K];exact⟨H1,_,by simp only[go_sem,F,z,yG,l3,Z,E,S],B.res J⟩
    ·have S:decide ((64:Int)<=(s.files.length:Int))=false:=by simp;omega
     have e2:Ys (.map 9 84) .eql (.map m) .nilm=some (.bool false):=rfl;have T:ZO (.agg [.nils,.int .i64 0]) H1=some (.ptr H1.length 0,H1++[.cells [.nils,.int .i64 0]]):=rfl;have N:(H1++[zJ [.nils,.int .i64 0]])[m]?=some (.map (w.map FD.ent) g):=Yl B.map _
     have Q:Xs .string (.map m) (.str n) (.ptr H1.length 0) (H1++[zJ [.nils,.int .i64 0]])=some (.tuple [],(H1++[zJ [.nils,.int .i64 0]]).set m (.map (w.map FD.ent++[(.str n,.ptr H1.length 0,g)]) (g+1))):=by
      have V:Wa .string (.str n)=true:=rfl;unfold Xs;dsimp only;rw[N];dsimp only;rw[if_pos V,ZhT w n 0 (by rw[h.files];exact Y)]
     simp only[if_neg K];have aa:=Zh B.map;have ab:=Zh R
     have hS:Stp [o,m] H1 ((H1++[zJ [.nils,.int .i64 0]]).set m (.map (w.map FD.ent++[(.str n,.ptr H1.length 0,g)]) (g+1))) :=
      (Stp.push (A:=[o,m]) H1 _).trans (Stp.set _ _ (by simp)) (fun _ h=>h) fun _ h=>.inl h
     have D:∀ d∈w,FileAt ((H1++[zJ [.nils,.int .i64 0]]).set m (.map (w.map FD.ent++[(.str n,.ptr H1.length 0,g)]) (g+1))) d:=fun d u=>(B.file d u).frame fun y I=>by
      have:=B.own_lt u I;exact hS.at' y ((B.file d u).lt y I) (by simp[this.1,this.2])
     have W:=B.lt;have ac:=ld (Yl R [zJ [.nils,.int .i64 0]]) 3 (show (WC m s.tick)[3]?=some (.map m) from rfl);refine⟨(H1++[zJ [.nils,.int .i64 0]]).set m (.map (w.map FD.ent++[(.str n,.ptr H1.length 0,g)]) (g+1)),o::m::(w++[FD.mk ⟨n,[],0⟩ H1.length .nils g]).flatMap FD.own,?_,⟨⟨m,g+1,w++[⟨⟨n,[],0⟩,H1.length,.nils,g⟩],⟨?_,?_,?_,?_,?_,?_⟩,rfl⟩,?_,?_⟩⟩
     ·simp only[go_sem,F,z,yG,l3,Z,E,S,SK,e2,SL,T,Q]
     ·show _=s.files++[_];rw[zN,h.files];rfl
     ·rw[Yn _ h.om.symm (Yl R _)];simp only[WC,W9,Zs,Qc];rfl
     ·rw[Zt _ N];simp[FD.ent]
     ·intro d u;rcases zM.1 u with u|u
      ·exact D d u
      ·rw[zH.1 u];exact⟨Yn _ (by show m≠H1.length;omega) (by simp),.inl ⟨rfl,rfl⟩⟩
     ·rw[zK];have h0:=h.nd;have j:(o::m::w.flatMap FD.own)++[H1.length]=o::m::(w.flatMap FD.own++[FD.mk ⟨n,[],0⟩ H1.length .nils g].flatMap FD.own):=by simp[FD.own,ZG]
      rw[<-j,zT];refine⟨h0,by simp,fun x j y I=>?_⟩;rw[zH.1 I];have:=W x j;omega
     ·obtain⟨b1,b2⟩:=h.born;refine⟨?_,fun d u=>?_⟩
      ·rw[zN,zT];refine⟨b1,by simp,fun x j y I=>?_⟩;obtain⟨d,u,rfl⟩:=yO.1 j;have:=b2 d u;simp at I;omega
      ·rcases zM.1 u with u|u
       ·have:=b2 d u;omega
       ·rw[zH.1 u];simp
     ·refine (J.trans hS (C:=o::m::w.flatMap FD.own) (fun x j=>by rw[zH.1 j];simp) fun x j=>.inl ?_);simp at j;rcases j with e|e <;> subst e <;> simp
     ·intro x j;rcases zF.1 j with e|j
      ·subst e;exact .inl (by simp)
      rcases zF.1 j with e|j
      ·subst e;exact .inl (by simp)
      rw[zK]at j;rcases zM.1 j with j|j
      ·exact .inl (by simp[j])
      ·have X:x=H1.length:=by simpa[FD.own,ZG]using j
       rw[X];exact .inr J.len
   ·rw[k4];exact⟨H1,_,by simp only[go_sem,F,z,yG,l3,k5],B.res J⟩
theorem Zde {α:Type}(a:List α)(d:α)(b:List α):(a++d::b).eraseIdx a.length=a++b:=by
 induction a with
 |nil=>rfl
 |cons x a g=>simp only[yA,yE,List.eraseIdx_cons_succ,g]
theorem Zhn {H:Hp}{o:Nat}{s:Sto}{A:List Nat}(h:StoreAt H o s A)(V:StoOk s)(n:Zo) :
 ∃ H' A',VD [.ptr o 0,.str n] H=some (.int .i64 (s.remove n).1,H')/\StoRes H H' o (s.remove n).2 A A':=by
 obtain⟨m,j,ds,h,rfl⟩:=h;obtain⟨p,e,H1,q1,D,q3,q4⟩:=Zao h V.count n;rw[C7];unfold Rn Sto.remove;rcases q4 with ⟨J,rfl⟩|⟨J,c2,rfl⟩|⟨J,rfl,a,d,b,rfl,Q,R,c5,rfl⟩
 ·have K:((19:Int)==0)=false:=rfl;rw[if_pos J];exact⟨H1,_,by simp only[q1,go_sem,zA,zB,K,Ui],D.res q3⟩
 ·have K:((5:Int)==0)=false:=rfl;rw[if_neg (by simp[J]),c2];exact⟨H1,_,by simp only[q1,go_sem,zA,zB,K,Ui],D.res q3⟩
 ·have K:((0:Int)==0)=true:=rfl;rw[if_neg (by simp[J]),c5];obtain⟨k1,hd,k3,k4⟩:=D.mid
  have F:Zs s.files=Zs (a.map FD.fil)+(d.fil.text.length+Zs (b.map FD.fil)):=by
   rw[<-h.files,zN,zG,HX]
  have N:Vc s.files n=a.map FD.fil++b.map FD.fil:=by rw[<-h.files,Zz3 a d b n Q R]
  have Y:Zs (Vc s.files n)=Zs s.files-d.fil.text.length:=by rw[N,W9,F];omega
  have Z:=V.used;have ab:=V.limit;have O:H1[o]?=some (.cells (WC m s.tick)):=D.cells;have l1:=ld O 1 (v:=.int .i64 (Zs s.files:Int)) (by rw[<-Qc s];rfl);have l3:=ld O 3 (v:=.map m) rfl;have m0:=ld hd.cells 0 (v:=d.tx) rfl;have M:=hd.text.len 5
  have X:Yc .string .nilp false (.map m) (.str n) H1=some (.ptr d.f 0):=by
   rcases D.look n with ⟨k,_⟩|⟨a',d',b',k5,k6,k7,k8,k9⟩
   ·rw[Qc,c5]at k;cases k
   ·rw[k9];have u:YS (.str n) ((a++d::b).map FD.ent) 0=YS (.str n) ((a'++d'::b').map FD.ent) 0:=by rw[k5]
    rw[Lx a d b n 0 Q R,Lx a' d' b' n 0 k6 k7]at u;injection u with u;injection u with u;injection u with _ u;injection u with u;rw[u]
  have hw:xP.wrap ((Zs s.files:Int)-(d.fil.text.length:Int))=((Zs s.files-d.fil.text.length:Nat):Int):=by rw[Zr (by omega) (by omega)];omega
  have s1:=st O 1 (v:=.int .i64 ((Zs s.files-d.fil.text.length:Nat):Int)) rfl rfl (by simp[WC]);have S:=Zt (zJ (zO (WC m s.tick) 1 (.int .i64 ((Zs s.files-d.fil.text.length:Nat):Int)))) O;have T:=Yn (.cells (zO (WC m s.tick) 1 (.int .i64 ((Zs s.files-d.fil.text.length:Nat):Int)))) h.om D.map;have n3:=ld S 3 (v:=.map m) rfl;generalize U:H1.set o (.cells (zO (WC m s.tick) 1 (.int .i64 ((Zs s.files-d.fil.text.length:Nat):Int))))=I at s1 S T n3
  have L:QI .string (.map m) (.str n) I=some (.tuple [],I.set m (.map ((a++b).map FD.ent) j)):=by
   have W:Wa .string (.str n)=true:=rfl;unfold QI;dsimp only;rw[T];dsimp only;rw[if_pos W,Lx a d b n 0 Q R];dsimp only;rw[zD,zN,zG,show a.length=(a.map FD.ent).length by simp,Zde,zN]
  have hS:Stp [o,m] H1 (I.set m (.map ((a++b).map FD.ent) j)):=by
   rw[<-U];exact (Stp.set _ _ (by simp)).trans (Stp.set _ _ (by simp)) (fun _ h=>h) fun _ h=>.inl h
  have g:∀ y∈a++b,y∈a++d::b:=fun y B=>by rcases zM.1 B with k|k <;> simp[k]
  refine⟨I.set m (.map ((a++b).map FD.ent) j),o::m::(a++b).flatMap FD.own,?_,⟨⟨m,j,a++b,⟨?_,?_,?_,?_,?_,?_⟩,rfl⟩,?_,?_⟩⟩
  ·have E:KP [.ptr o 0,.str n] H1=some (.tuple [],I.set m (.map ((a++b).map FD.ent) j)):=by
    rw[Ip];unfold Nl;simp only[go_sem,l3,X,l1,m0,M,hw,s1,n3,L]
   simp only[q1,go_sem,zA,zB,K,E,Ui]
  ·show _=Vc s.files n;rw[N,zN]
  ·rw[Yn _ h.om.symm S];simp only[WC,Y];rfl
  ·exact Zt _ T
  ·intro y B;refine (D.file y (g y B)).frame fun z hz=>hS.at' z ((D.file y (g y B)).lt z hz) ?_;have:=D.own_lt (g y B) hz;simp[this.1,this.2]
  ·refine (yX ?_ h.nd);rw[zK,zK,zV];exact ((xB _).append (List.sublist_append_right _ _)).cons_cons m |>.cons_cons o
  ·obtain⟨b1,b2⟩:=h.born;refine⟨?_,fun y B=>b2 y (g y B)⟩;rw[zN,zG]at b1;rw[zN];exact yX ((xB _).append (List.sublist_cons_self _ _)) b1
  ·refine q3.trans hS (C:=o::m::(a++d::b).flatMap FD.own) (fun x w=>by rw[zH.1 w];simp) fun x w=>.inl ?_;simp at w;rcases w with e|e <;> subst e <;> simp
  ·intro x w;rcases zF.1 w with e|w
   ·subst e;exact .inl (by simp)
   rcases zF.1 w with e|w
   ·subst e;exact .inl (by simp)
   obtain⟨y,B,aa⟩:=xD.1 w;exact .inl (yL _ (yL _ (xD.2 ⟨y,g y B,aa⟩)))
def Ly (l:List Fil):List Fil:=(JA (l.map Fil.name)).filterMap (ZQ l)
def Xe (f:Fil):AV:=.agg [.str f.name,.int .i64 (f.text.length:Int),.int .i64 (f.syn:Int)]
theorem ZuK:∀ g:List FD,HT (g.map FD.ent)=some (g.map fun d=>d.fil.name):=by
 intro g
 induction g with
 |nil=>rfl
 |cons d g j=>rw[zG,FD.ent,HT,j];rfl
theorem Ztq:∀ l:List Zo,l.Nodup->EZ l=true:=by
 intro l
 induction l with
 |nil=>intro _;rfl
 |cons s r w =>
  intro h;obtain⟨g,j⟩:=zE.1 h;simp only[EZ,zZ,yK];refine⟨fun t u=>?_,w j⟩;have:t≠s:=fun e=>g (e ▸ u);simp[this]
theorem Zvq (c:Nat):∀ l:List Nat,l.Nodup->(∀ n∈l,n<c)->OF c l=true:=by
 intro l
 induction l with
 |nil=>intro _ _;rfl
 |cons s r z =>
  intro h g;obtain⟨j,u⟩:=zE.1 h;simp only[OF,zZ,yK,decide_eq_true_eq];refine⟨g s (by simp),fun t y=>?_,z u fun n w=>g n (by simp[w])⟩;have:t≠s:=fun e=>j (e ▸ y);simp[this]
theorem ZwR {n:Zo}(h:F5 n=true):n.length<=32:=by
 unfold F5 at h;rw[zZ,decide_eq_true_eq]at h;exact h.2
theorem Zu0 {H:Hp}{o m g:Nat}{u:List FD}{s:Sto}(h:StAt H o m g u s)(w:StoOk s):∃ x,namesE.run [.ptr o 0] H=some (x,H)/\SS x (JA (s.files.map Fil.name)):=by
 have y:u.map (fun d=>d.fil.name)=s.files.map Fil.name:=by rw[<-h.files,xM];rfl
 have E:GD H o=some (Zil (s.files.map Fil.name)):=by
  unfold GD;rw[h.cells];dsimp only;rw[show ([xI .i64 (s.limit:Int),.int .i64 (Zs s.files:Int),.int .i64 (s.peak:Int),.map m,.bool s.crashed,.int .i64 (s.count:Int)])[3]?=some (.map m) from rfl];dsimp only;rw[h.map];dsimp only;rw[ZuK,y];dsimp only;rw[if_pos]
  have z:=Zvq g _ h.born.1 fun n j=>by
   obtain⟨d,A,rfl⟩:=yO.1 j;exact h.born.2 d A
  have B:(u.map FD.ent).map (·.2.2)=u.map FD.born:=by rw[xM];rfl
  rw[B,z,Ztq _ w.nd];simp only[yJ,zZ,yK,decide_eq_true_eq,yC];refine⟨fun t D=>?_,by have:=w.len;omega⟩;obtain⟨f,C,rfl⟩:=yO.1 D;have:=ZwR (w.name f C);omega
 refine⟨Zil (s.files.map Fil.name),?_,?_⟩
 ·show (GD H o).map (·,H)=_;rw[E];rfl
 ·unfold Zil;split
  ·rename_i j;exact .inl ⟨rfl,by rw[j];rfl⟩
  ·rename_i F r j;exact .inr ⟨.no,by rw[j]⟩
theorem ZtN {u:Hp}{o m E:Nat}{S:List FD}{s:Sto}(h:StAt u o m E S s)(hk:StoOk s){x:AV}{j:List Zo}(Y:SS x j)(Q:∀ n∈j,∃ f,ZQ s.files n=some f)(hl:j.length<=64)(V:Hp):∀ (r d:List Zo) (x3:AV) (H:Hp),j=d++r ->
 RowN u.length H 3 x3 ((d.filterMap (ZQ s.files)).map Xe)->Keep u.length u H->u.length<=H.length ->
 ∃ y H',UB (.ptr o 0) x3 x (.int .i64 (j.length:Int)) (.int .i64 (d.length:Int)) V H=some (y,H')/\RowN u.length H' 3 y ((j.filterMap (ZQ s.files)).map Xe)/\Keep u.length u H'/\u.length<=H'.length:=by
 intro r
 induction r with
 |nil =>
  intro d x3 H z K J g;rw[zU]at z;subst z;have D:decide ((j.length:Int)<(j.length:Int))=false:=by simp
  rw[DF];simp only[go_sem,D,AS];exact⟨_,_,rfl,K,J,g⟩
 |cons n r Z =>
  intro d x3 H z K J g;have O:j.length=d.length+(r.length+1):=by rw[z];simp
  have D:decide ((d.length:Int)<(j.length:Int))=true:=by simp;omega
  have R:xP.wrap ((d.length:Int)+1)=((d.length+1:Nat):Int):=by rw[Zr (by omega) (by omega)];omega
  have N:j[d.length]?=some n:=by rw[z,zI (zL _)];simp
  have F:=SS.idx Y N;have w:StAt H o m E S s:=h.frame fun a W=>J a (h.lt a W);obtain⟨f,L⟩:=Q n (by rw[z];simp);have l3:=ld w.cells 3 (v:=.map m) rfl;rcases w.look n with ⟨k,_⟩|⟨a',d',b',k5,k6,k7,T,k9⟩
  ·rw[L]at k;cases k
  ·have A:=w.file d' (by rw[k5];simp);have M:f=d'.fil:=by rw[L]at T;injection T
   have m0:=ld A.cells 0 (v:=d'.tx) rfl;have m1:=ld A.cells 1 (v:=.int .i64 (d'.fil.syn:Int)) rfl;have C:=A.text.len 5;have B:(X5 [(0,1,.str n),(1,1,.int .i64 (d'.fil.text.length:Int)),(2,1,.int .i64 (d'.fil.syn:Int))] [(.str []),(.int .i64 0),(.int .i64 0)]).map AV.agg=some (Xe d'.fil):=by rw[<-k6];rfl
   have I:(ZA 3 [(0,Xe d'.fil)] [(.agg [(.str []),(.int .i64 0),(.int .i64 0)])]).map (AV.vs 3 .clip)=some (.vs 3 .clip [Xe d'.fil]):=rfl;have X:(d.filterMap (ZQ s.files)).length<=d.length:=List.length_filterMap_le _ _;obtain⟨x',H1,q1,q2,q3,q4,_⟩:=K.app g 32 (.vs 3 .clip [Xe d'.fil]) [Xe d'.fil] rfl (by simp;omega);obtain⟨y,H',U,p2,p3,p4⟩:=Z (d++[n]) x' H1 (by rw[z];simp) (by rw[List.filterMap_append,zN];simpa[L,M]using q2) (J.trans q4) q3;rw[zQ,zP]at U;refine⟨y,H',?_,p2,p3,p4⟩;rw[DF];simp only[go_sem,D,AU,F,ZE,l3,k9,m0,m1,C,B,I,q1,AW,R];exact U
theorem ZuF (l:List Zo)(n:Zo):n∈JA l↔n∈l:=(Tg l).mem_iff
theorem Zwn {l:List Fil}{n:Zo}(h:n∈l.map Fil.name):∃ f,ZQ l n=some f:=by
 cases j:ZQ l n with
 |some f=>exact⟨f,rfl⟩
 |none =>
  obtain⟨f,g,rfl⟩:=yO.1 h;exact absurd rfl (Ztt.1 j f g)
theorem ZlR (H:Hp)(n f:Nat)(x:Fil):Zb H n (f+2) (Xe x)=some (Xe x):=rfl
theorem ZwN (H:Hp)(n f:Nat):∀ l:List Fil,(l.map Xe).mapM (Zb H n (f+2))=some (l.map Xe):=by
 intro l
 induction l with
 |nil=>rfl
 |cons a l g=>rw[zG,xH,ZlR,g];rfl
theorem Ze3 {f:List AV->Hp->Z4}{args:List AV}{H H1:Hp}{v v':AV}(j:f args H=some (v,H1))(g:Keep H.length H H1)(y:H.length<=H1.length)(w:Zb H1 H.length 9 v=some v'):QW f args H=some (v',H):=by
 have u:H1.take H.length=H:=by
  apply List.ext_getElem?;intro i;by_cases hi:i<H.length
  ·rw[List.getElem?_take_of_lt hi,g i hi]
  ·rw[yV (by simp;omega),yV (by omega)]
 unfold QW;rw[j];dsimp only;rw[u,if_pos (Zdc _),w]
theorem ZoR {H:Hp}{o:Nat}{s:Sto}{A:List Nat}(h:StoreAt H o s A)(j:StoOk s):∃ x,QW V9 [.ptr o 0] H=some (x,H)/\Sl 3 x ((Ly s.files).map Xe):=by
 obtain⟨m,D,K,h,rfl⟩:=h;obtain⟨x,J,C⟩:=Zu0 h j;have w:(JA (s.files.map Fil.name)).length<=64:=by rw[(Tg _).length_eq,yC];exact j.len
 obtain⟨y,H1,F,I,z,B⟩:=ZtN h j C (fun n u=>Zwn ((ZuF _ _).1 u)) w H _ [] .nils H rfl (.inl ⟨rfl,rfl⟩) (Keep.refl _ _) (zL _)
 have g:V9 [.ptr o 0] H=some (y,H1):=by
  rw[Il];unfold Ni;simp only[go_sem,AR,J,SS.len C 9];exact F
 rcases I with ⟨rfl,u⟩|⟨t,e,rfl,L,E⟩
 ·exact⟨.nils,Ze3 g z B rfl,.inl ⟨rfl,u⟩⟩
 ·refine⟨.vs 3 (if t<H.length then .own t e else .no) ((Ly s.files).map Xe),Ze3 g z B (by rw[OH,ZwN];rfl),.inr ⟨_,rfl⟩⟩
theorem ZxU (n:Int)(u:-9223372036854775808<=n/\n<=9223372036854775807)(H:Hp):∃ H',Aa [.int .i64 n] H=some (.ptr (H.length+1) 0,H')/\StoreAt H' (H.length+1) ⟨(min (max n 0) 262144).toNat,0,[],false,0⟩ [H.length+1,H.length]/\H'=H++[.map [] 0,.cells [.int .i64 (min (max n 0) 262144),.int .i64 0,.int .i64 0,.map H.length,.bool false,.int .i64 0]]:=by
 have j:(X5 [(0,1,.int .i64 (min (max n 0) 262144)),(3,1,.map H.length)] [(.int .i64 0),(.int .i64 0),(.int .i64 0),.nilm,(.bool false),(.int .i64 0)]).map AV.agg=some (.agg [.int .i64 (min (max n 0) 262144),.int .i64 0,.int .i64 0,.map H.length,.bool false,.int .i64 0]):=rfl;have g:∀ l:List AV,ZO (.agg l) (H++[.map [] 0])=some (.ptr (H.length+1) 0,H++[.map [] 0]++[.cells l]):=fun l=>by rw[FS rfl];simp[xE]
 refine⟨_,?_,⟨H.length,0,[],⟨rfl,?_,?_,by simp,by simp,by simp,by simp⟩,rfl⟩,rfl⟩
 ·rw[Zj5];unfold Zfm;simp only[go_sem,j,g,yQ,yA,yS]
 ·have:((min (max n 0) 262144).toNat:Int)=min (max n 0) 262144:=by omega
  simp[Zs,this]
 ·simp
def GP (a b:Int):Int:=IntKind.u32.wrap ((BitVec.ofInt IntKind.u32.bits a ^^^ BitVec.ofInt IntKind.u32.bits b).toNat:Int)
def OA (a b:Int):Int:=IntKind.u32.wrap ((BitVec.ofInt IntKind.u32.bits a &&& BitVec.ofInt IntKind.u32.bits b).toNat:Int)
theorem ZqU (a b:Int):Z5 .xor (.int .u32 a) (.int .u32 b)=some (.int .u32 (GP a b)):=by simp[Z5,W5,XH,GP]
theorem ZqT (a b:Int):Z5 .and (.int .u32 a) (.int .u32 b)=some (.int .u32 (OA a b)):=by simp[Z5,W5,XH,OA]
def Fi (k:IntKind)(n:Nat)(a:Int):Int:=a.fdiv (2 ^ (min n k.bits))
def Zxi (a:Int):Int:=xP.wrap (a*2 ^ (min 8 IntKind.i64.bits))
theorem Py (k g:IntKind)(a:Int)(n:Nat):Z5 .shr (.int k a) (.int g (n:Int))=some (.int k (Fi k n a)):=by
 simp only[Z5,W5,Fi];rw[if_neg (by omega),zX]
theorem Zfs (a:Int):0<=OA a 15/\OA a 15<16:=by
 have h:(BitVec.ofInt IntKind.u32.bits a &&& BitVec.ofInt IntKind.u32.bits 15).toNat<=15:=by
  rw[BitVec.toNat_and];exact xL Nat.and_le_right (by decide)
 unfold OA;generalize (BitVec.ofInt IntKind.u32.bits a &&& BitVec.ofInt IntKind.u32.bits 15).toNat=n at h
 have:IntKind.u32.wrap (n:Int)=(n:Int):=by
  have g:(2 ^ IntKind.u32.bits:Int)=4294967296:=by decide
  have j:IntKind.u32.signed=false:=rfl;unfold IntKind.wrap;simp only[g,j,yW,yB,if_false];omega
 rw[this];omega
def ZrM (i:Int):Int:=crcTab.getD i.toNat 0
theorem Zpj {i:Int}(h:0<=i/\i<16)(H:Hp):∃ p,Gj 16 1 Zqj (.int .u32 i)=some p/\Z3 false 1 p H=some (.int .u32 (ZrM i)):=by
 have g:crcTab.length=16:=rfl;refine⟨.vp ((crcTab.map (xI .u32)).drop (i.toNat*1)),?_,?_⟩
 ·unfold Gj;dsimp only;rw[if_pos (by omega)];unfold Z7 Zqj;dsimp only;rw[if_pos (by simp[g];omega)]
 ·unfold Z3 Go.Am.apart ZrM;dsimp only;rw[if_neg (by simp),List.getElem?_drop,xN,yU,List.getElem?_map,zY (show i.toNat<crcTab.length by omega),yP,zY (show i.toNat<crcTab.length by omega)];rfl
def Zi8 (c:Int):Int:=GP (ZrM (OA c 15)) (Fi .u32 4 c)
def ZxR (c:Int)(b:UInt8):Int:=Zi8 (Zi8 (GP c (IntKind.u32.wrap (b.toNat:Int))))
def Pi (s:Zo):Int:=s.foldl ZxR 4294967295
def Av (s:Zo):Int:=GP IntKind.u32.max (Pi s)
theorem ZvP (s:Zo)(N:s.length<=1048576)(D H:Hp):∀ (r d:Zo),s=d++r->RU (.str s) (.int .u32 (Pi d)) (.int .i64 (s.length:Int)) (.int .i64 (d.length:Int)) D H=some (.int .u32 (Av s),H):=by
 intro r
 induction r with
 |nil =>
  intro d j;rw[zU]at j;subst j;have g:decide ((s.length:Int)<(s.length:Int))=false:=by simp
  have L:Xv .xor (.int .u32 (Pi s))=some (.int .u32 (Av s)):=rfl;rw[Hn];simp only[go_sem,g,Zi1,L]
 |cons b r M =>
  intro d j;have A:s.length=d.length+(r.length+1):=by rw[j];simp
  have g:decide ((d.length:Int)<(s.length:Int))=true:=by simp;omega
  have z:xP.wrap ((d.length:Int)+1)=((d.length+1:Nat):Int):=by rw[Zr (by omega) (by omega)];omega
  have u:Zz (.str s) (.int .i64 (d.length:Int))=some (.int .u8 (b.toNat:Int)):=Y8 (by rw[j,zI (zL _)];simp);have y:Wl .u32 (.int .u8 (b.toNat:Int))=some (.int .u32 (IntKind.u32.wrap (b.toNat:Int))):=rfl;obtain⟨O,E,F⟩:=Zpj (Zfs (GP (Pi d) (IntKind.u32.wrap (b.toNat:Int)))) H;obtain⟨Q,I,J⟩:=Zpj (Zfs (Zi8 (GP (Pi d) (IntKind.u32.wrap (b.toNat:Int))))) H;have B:=Py .u32 .u64 (GP (Pi d) (IntKind.u32.wrap (b.toNat:Int))) 4;have C:=Py .u32 .u64 (Zi8 (GP (Pi d) (IntKind.u32.wrap (b.toNat:Int)))) 4;rw[show ((4:Nat):Int)=4 from rfl]at B C;have w:=M (d++[b]) (by rw[j];simp);rw[zQ,zP,show Pi (d++[b])=ZxR (Pi d) b by simp[Pi]]at w;have K:GP (ZrM (OA (GP (Pi d) (IntKind.u32.wrap (b.toNat:Int))) 15)) (Fi .u32 4 (GP (Pi d) (IntKind.u32.wrap (b.toNat:Int))))=Zi8 (GP (Pi d) (IntKind.u32.wrap (b.toNat:Int))):=rfl;rw[Hn];simp only[go_sem,g,Zi2,u,y,ZqU,ZqT,E,F,B,K,I,J,C,Zi3,z];exact w
theorem ZvO (s:Zo)(g:s.length<=1048576)(H:Hp):Ze A9 [.str s] H=some (.int .u32 (Av s),H):=by
 refine XQ (a':=.str s) rfl (H1:=[]) ?_ rfl;rw[Zj1];unfold Zfi;simp only[go_sem];exact ZvP s g [] [] s [] rfl
def Vy (n:Int):UInt8:=zS (IntKind.u8.wrap n).toNat
def Zec (s:Zo):Zo:=[Vy (Av s),Vy (Fi .u32 8 (Av s)),Vy (Fi .u32 16 (Av s)),Vy (Fi .u32 24 (Av s))]
theorem Zno (s:Zo)(A:s.length<=1048576)(H:Hp):Ze PX [.str s] H=some (.str (Zec s),H):=by
 have y:=Py .u32 .u64 (Av s) 8;have g:=Py .u32 .u64 (Av s) 16;have j:=Py .u32 .u64 (Av s) 24;rw[show ((8:Nat):Int)=8 from rfl]at y;rw[show ((16:Nat):Int)=16 from rfl]at g;rw[show ((24:Nat):Int)=24 from rfl]at j;have z:∀ n,Wl .u8 (.int .u32 n)=some (.int .u8 (IntKind.u8.wrap n)):=fun n=>rfl;have w:∀ a b c d:Int,(ZA 1 [(0,.int .u8 a),(1,.int .u8 b),(2,.int .u8 c),(3,.int .u8 d)] [(.int .u8 0),(.int .u8 0),(.int .u8 0),(.int .u8 0)]).map (AV.vs 1 .clip)=some (.vs 1 .clip [.int .u8 a,.int .u8 b,.int .u8 c,.int .u8 d]):=fun a b c d=>rfl;have u:∀ (a b c d:Int) (H:Hp),BI (.vs 1 .clip [.int .u8 a,.int .u8 b,.int .u8 c,.int .u8 d]) H=some (.str [zS a.toNat,zS b.toNat,zS c.toNat,zS d.toNat]):=fun a b c d H=>rfl;refine XQ (a':=.str s) rfl (H1:=[]) ?_ rfl;rw[Zj2];unfold Zfj;simp only[ZvO s A,go_sem,z,y,g,j,w,u];rfl
theorem Znn (s:Zo):(Zec s).length=4:=rfl
def Qv (s:Zo):Zo:=[Vy (Fi .i64 8 (s.length:Int)),Vy (s.length:Int)]++s
def YV (s:Zo):Zo:=Qv s++Zec (Qv s)
theorem QT (s:Zo):(Qv s).length=s.length+2:=by simp[Qv]
theorem G3 (s:Zo):(YV s).length=s.length+6:=by simp[YV,QT,Znn]
theorem Zx7 (s:Zo)(C:s.length<=1048576)(H:Hp):Ze Pa [.str s] H=some (if 4096<s.length then .tuple [.str [],.int .i64 3] else .tuple [.str (YV s),.int .i64 0],H):=by
 refine XQ (a':=.str s) rfl (H1:=[]) ?_ (by split <;> rfl)
 rw[ZeF];unfold Ia;by_cases h:4096<s.length
 ·have g:decide ((4096:Int)<(s.length:Int))=true:=by rw[decide_eq_true_eq];omega
  simp only[go_sem,g,if_pos h]
 ·have g:decide ((4096:Int)<(s.length:Int))=false:=by simp;omega
  have y:=Py .i64 .u64 (s.length:Int) 8;rw[show ((8:Nat):Int)=8 from rfl]at y;have B:∀ n,Wl .u8 (.int .i64 n)=some (.int .u8 (IntKind.u8.wrap n)):=fun n=>rfl;have w:∀ a b:Int,(ZA 1 [(0,.int .u8 a),(1,.int .u8 b)] [(.int .u8 0),(.int .u8 0)]).map (AV.vs 1 .clip)=some (.vs 1 .clip [.int .u8 a,.int .u8 b]):=fun a b=>rfl;have u:∀ (a b:Int) (H:Hp),BI (.vs 1 .clip [.int .u8 a,.int .u8 b]) H=some (.str [zS a.toNat,zS b.toNat]):=fun a b H=>rfl;have j:[zS (IntKind.u8.wrap (Fi .i64 8 (s.length:Int))).toNat,zS (IntKind.u8.wrap (s.length:Int)).toNat]++s=Qv s:=rfl;have z:Xb .add (.str [zS (IntKind.u8.wrap (Fi .i64 8 (s.length:Int))).toNat,zS (IntKind.u8.wrap (s.length:Int)).toNat]) (.str s)=some (.str (Qv s)):=by rw[PQ (by simp;omega),j]
  have A:Xb .add (.str (Qv s)) (.str (Zec (Qv s)))=some (.str (YV s)):=by rw[PQ (by rw[QT,Znn];omega)];rfl
  simp only[go_sem,g,ZdH,y,B,w,u,z,Zno (Qv s) (by rw[QT];omega),A,if_neg h]
def ZP:List Zo->Zo
 |[]=>[]
 |s::r=>YV s++ZP r
theorem Zme (a b:List Zo):ZP (a++b)=ZP a++ZP b:=by
 induction a with
 |nil=>rfl
 |cons s a g=>simp only[yA,ZP,g,yQ]
def Y1:List Zo->Nat
 |[]=>0
 |s::r=>s.length+6+Y1 r
theorem W2 (l:List Zo):(ZP l).length=Y1 l:=by
 induction l with
 |nil=>rfl
 |cons s r g=>simp only[ZP,Y1,zQ,G3,g]
theorem CW (a b:List Zo):Y1 (a++b)=Y1 a+Y1 b:=by
 induction a with
 |nil=>simp[Y1]
 |cons s a g=>simp only[yA,Y1,g];omega
def YZ (l:List Zo):Bool:=l.all fun s=>decide (s.length<=4096)
theorem Zxq (g s:Zo)(h:g.length+s.length<=4194304):∃ v,textE.run [.ptr 0 0,.str s] [yT Pg Ph g]=some (v,[yT Pg Ph (g++s)]):=by
 have j:g.length+s.length<=Zgo:=by unfold Zgo;omega
 refine⟨.tuple [.int .i64 s.length,.nili],?_⟩;simp only[textE,ZxA,Zje,Ev,Zln,zA,Zg3,and_self,if_true,if_pos j,List.set_cons_zero]
theorem Zw4 {x:AV}{l:List Zo}(Q:SS x l)(M:∀ s∈l,s.length<=1048576)(R:Y1 l<=4194304)(K:Hp):∀ (r d:List Zo),l=d++r->YZ d=true ->
 ∃ H',Ks (.ptr 0 0) x (.int .i64 (l.length:Int)) (.int .i64 (d.length:Int)) K [yT Pg Ph (ZP d)]=some (if YZ l=true then .tuple [.str (ZP l),.int .i64 0] else .tuple [.str [],.int .i64 3],H'):=by
 intro r
 induction r with
 |nil =>
  intro d j B;rw[zU]at j;subst j;have u:decide ((l.length:Int)<(l.length:Int))=false:=by simp
  have E:stringE.run [.ptr 0 0] [yT Pg Ph (ZP l)]=some (.str (ZP l),[yT Pg Ph (ZP l)]):=ZiG _;rw[NA];simp only[go_sem,u,ZdE,E,if_pos B];exact⟨_,rfl⟩
 |cons s r I =>
  intro d j B
  have y:∀ l:List Zo,6*l.length<=Y1 l:=by
   intro l
   induction l with
   |nil=>simp[Y1]
   |cons s l I=>simp only[Y1,yE];omega
  have:=y l;have H:l.length=d.length+(r.length+1):=by rw[j];simp
  have u:decide ((d.length:Int)<(l.length:Int))=true:=by simp;omega
  have F:xP.wrap ((d.length:Int)+1)=((d.length+1:Nat):Int):=by rw[Zr (by omega) (by omega)];omega
  have C:l[d.length]?=some s:=by rw[j,zI (zL _)];simp
  have w:=SS.idx Q C;have N:=M s (by rw[j];simp);have g:=Zx7 s N [yT Pg Ph (ZP d)];rw[NA];by_cases h:4096<s.length
  ·have D:YZ l=false:=by
    rw[j];simp only[YZ,List.all_append,xK];rw[show decide (s.length<=4096)=false by simp;omega];simp
   have L:((3:Int) != 0)=true:=rfl;rw[if_pos h]at g;simp only[go_sem,u,Nz,w,ZE,g,zA,zB,L,D,yB,if_false];exact⟨_,rfl⟩
  ·have e0:((0:Int) != 0)=false:=rfl;rw[if_neg h]at g;have z:Y1 l=Y1 d+(s.length+6+Y1 r):=by rw[j,CW];rfl
   obtain⟨v,O⟩:=Zxq (ZP d) (YV s) (by rw[W2,G3];omega);have A:ZP (d++[s])=ZP d++YV s:=by rw[Zme];simp[ZP]
   obtain⟨H',J⟩:=I (d++[s]) (by rw[j];simp) (by
    have:YZ (d++[s])=(YZ d&&(decide (s.length<=4096)&&true)):=by simp[YZ]
    rw[this,B];simp;omega)
   rw[zQ,zP,A]at J;refine⟨H',?_⟩;simp only[go_sem,u,Nz,w,ZE,g,zA,zB,e0,ZdG,O,ZdF,F];exact J
theorem Zw3 {x:AV}{l:List Zo}(w:SS x l)(j:∀ s∈l,s.length<=1048576)(u:Y1 l<=4194304)(H:Hp) :
 Ze P9 [x] H=some (if YZ l=true then .tuple [.str (ZP l),.int .i64 0] else .tuple [.str [],.int .i64 3],H):=by
 obtain⟨x1,y,g⟩:=SS.closed w [] 0 7;obtain⟨H',z⟩:=Zw4 g j u [] l [] rfl rfl;refine XQ y (H1:=H') ?_ (by split <;> rfl)
 rw[ZeE];unfold I9;simp only[go_sem,SS.len g 9,xF,yS];exact z
def Zrq (a b:Int):Int:=xP.wrap ((BitVec.ofInt IntKind.i64.bits a ||| BitVec.ofInt IntKind.i64.bits b).toNat:Int)
def ZxP (a b:UInt8):Int:=Zrq (Zxi (xP.wrap (a.toNat:Int))) (xP.wrap (b.toNat:Int))
theorem Zum:((xO 4097).all fun n=>decide (ZxP (Vy (Fi .i64 8 (n:Int))) (Vy (n:Int))=(n:Int)))=true:=by kernel_rfl
theorem Zx4 {n:Nat}(h:n<=4096):ZxP (Vy (Fi .i64 8 (n:Int))) (Vy (n:Int))=(n:Int):=by
 have:=yK.1 Zum n (List.mem_range.2 (by omega));simpa using this
theorem Zu2 (s rest:Zo)(O:s.length<=4096)(V:rest.length<=1048576)(H:Hp):Ze E0 [.str (YV s++rest),.int .i64 0] H=some (.tuple [.str s,.int .i64 ((s.length+6:Nat):Int),.int .i64 0],H):=by
 refine F2 (a':=.str (YV s++rest)) (b':=.int .i64 0) rfl rfl (H1:=[]) ?_ rfl;have u:(YV s++rest).length=s.length+6+rest.length:=by rw[zQ,G3]
 have j:YV s++rest=Vy (Fi .i64 8 (s.length:Int))::Vy (s.length:Int)::(s++(Zec (Qv s)++rest)):=by simp[YV,Qv]
 generalize F:YV s++rest=g at u j;have J:decide ((0:Int)<0)=false:=rfl;have K:decide ((g.length:Int)<0)=false:=by rw[decide_eq_false_iff_not];omega
 have B:Yj (.str g) (some (.int .i64 0)) none none=some (.str g):=by
  rw[OC .i64 (by omega) (by omega)];simp
 have L:decide ((g.length:Int)<2)=false:=by rw[decide_eq_false_iff_not];omega
 have Q:Zz (.str g) (.int .i64 0)=some (.int .u8 ((Vy (Fi .i64 8 (s.length:Int))).toNat:Int)):=Y8 (i:=0) (by rw[j];rfl);have R:Zz (.str g) (.int .i64 1)=some (.int .u8 ((Vy (s.length:Int)).toNat:Int)):=Y8 (i:=1) (by rw[j];rfl);have I:∀ n,Wl .i64 (.int .u8 n)=some (.int .i64 (xP.wrap n)):=fun n=>rfl;have A:∀ a:Int,Z5 .shl (.int .i64 a) (.int .u64 8)=some (.int .i64 (Zxi a)):=fun a=>rfl;have y:∀ a b:Int,Z5 .or (.int .i64 a) (.int .i64 b)=some (.int .i64 (Zrq a b)):=fun a b=>by simp[Z5,W5,XH,Zrq]
 have z:Zrq (Zxi (xP.wrap ((Vy (Fi .i64 8 (s.length:Int))).toNat:Int))) (xP.wrap ((Vy (s.length:Int)).toNat:Int))=(s.length:Int):=Zx4 O;have M:decide ((4096:Int)<(s.length:Int))=false:=by simp;omega
 have U:xP.wrap ((s.length:Int)+6)=((s.length+6:Nat):Int):=by rw[Zr (by omega) (by omega)];omega
 have T:xP.wrap ((s.length:Int)+2)=((s.length+2:Nat):Int):=by rw[Zr (by omega) (by omega)];omega
 have S:xP.wrap (0+(s.length:Int))=(s.length:Int):=by rw[Zr (by omega) (by omega)];omega
 have N:decide ((g.length:Int)<((s.length+6:Nat):Int))=false:=by simp;omega
 have C:Yj (.str g) (some (.int .i64 ((s.length+2:Nat):Int))) (some (.int .i64 ((s.length+6:Nat):Int))) none=some (.str (Zec (Qv s))):=by
  rw[OB .i64 .i64 (by omega) (by omega) (by omega)];congr 2;rw[<-F,zX,zX,yN (by rw[G3];exact zL _),zW (by rw[G3];exact zL _)];unfold YV;rw[List.drop_append_of_le_length (by rw[QT];exact zL _),List.drop_of_length_le (by rw[QT];exact zL _)];rfl
 have D:Yj (.str g) none (some (.int .i64 ((s.length+2:Nat):Int))) none=some (.str (Qv s)):=by
  rw[ZpS .i64 (by omega) (by omega)];congr 2;rw[<-F,zX];unfold YV;rw[yQ,yN (by rw[QT];exact zL _),zW (by rw[QT];exact zL _)]
 have E:Yj (.str g) (some (.int .i64 2)) (some (.int .i64 ((s.length+2:Nat):Int))) none=some (.str s):=by
  rw[OB .i64 .i64 (by omega) (by omega) (by omega)];congr 2;rw[j,zX];simp
 have w:(!(Zec (Qv s)==Zec (Qv s)))=false:=by simp
 rw[ZgY];unfold Zci;simp only[go_sem,J,K,Zgb,B,L,Zgc,Q,R,I,A,y,z,M,Zgd,U,N,Zge,T,C,D,Zno (Qv s) (by rw[QT];omega),w,Zgf,E,S]
structure Tmp where
 owner:Zo
 names:List Zo
 sld:List Zo
 limit:Nat
 last:Nat
 closed:Bool
def NmAt (H:Hp)(x:AV)(l:List Zo):Prop:=x=.nils/\l=[]\/∃ t e,x=.vs 1 (.own t e) (l.map xC)/\H[t]?=some (.tok e)
theorem NmAt.ss {H:Hp}{x:AV}{l:List Zo}(h:NmAt H x l):SS x l:=by
 rcases h with ⟨rfl,rfl⟩|⟨t,e,rfl,_⟩
 ·exact .inl ⟨rfl,rfl⟩
 ·exact .inr ⟨_,rfl⟩
theorem NmAt.frame {H H':Hp}{x:AV}{l:List Zo}(h:NmAt H x l)(u:∀ a∈ZG x,H'[a]?=H[a]?):NmAt H' x l :=
 h.imp id fun⟨t,e,g,j⟩=>⟨t,e,g,(u t (by rw[g];simp[ZG])).trans j⟩
def VI (p:Zo×Nat):AV×AV×Nat:=(.str p.1,.bool true,p.2)
structure TmAt (H:Hp)(o t ms clk:Nat)(nx:AV)(sl:List (Zo×Nat))(tm:Tmp):Prop where
 cells:H[o]?=some (.cells [.ptr t 0,.str tm.owner,nx,.map ms,.int .i64 (tm.limit:Int),.int .i64 (tm.last:Int),.bool tm.closed])
 names:NmAt H nx tm.names
 map:H[ms]?=some (.map (sl.map VI) clk)
 sld:sl.map (·.1)=tm.sld
 nd:(o::ms::ZG nx).Nodup
def TmpAt (H:Hp)(o t:Nat)(tm:Tmp)(B:List Nat):Prop:=∃ j g u sl,TmAt H o t j g u sl tm/\B=o::j::ZG u
structure TmpOk (tm:Tmp):Prop where
 owner:tm.owner.length<=16
 limit:tm.limit<=9223372036854775807
 len:tm.names.length<=tm.last
 last:tm.last<=1000000
theorem TmAt.lt {H:Hp}{o t u j:Nat}{w:AV}{sl:List (Zo×Nat)}{tm:Tmp}(h:TmAt H o t u j w sl tm):∀ a∈o::u::ZG w,a<H.length:=by
 intro a g;rcases zF.1 g with e|g
 ·subst e;exact Zh h.cells
 rcases zF.1 g with e|g
 ·subst e;exact Zh h.map
 rcases h.names with ⟨e,_⟩|⟨t,e,y,z⟩
 ·rw[e]at g;cases g
 ·rw[y]at g;rw[zH.1 g];exact Zh z
theorem TmAt.frame {H H':Hp}{o t u g:Nat}{w:AV}{sl:List (Zo×Nat)}{tm:Tmp}(h:TmAt H o t u g w sl tm)(j:∀ a∈o::u::ZG w,H'[a]?=H[a]?):TmAt H' o t u g w sl tm :=
 ⟨(j _ (by simp)).trans h.cells,h.names.frame fun a y=>j a (by simp[y]),(j _ (by simp)).trans h.map,h.sld,h.nd⟩
theorem TmpAt.lt {H:Hp}{o t:Nat}{tm:Tmp}{B:List Nat}(h:TmpAt H o t tm B):∀ a∈B,a<H.length:=by
 obtain⟨j,g,u,sl,h,rfl⟩:=h;exact h.lt
theorem TmpAt.stp {H H':Hp}{o t:Nat}{tm:Tmp}{B S:List Nat}(h:TmpAt H o t tm B)(w:Stp S H H')(u:∀ a∈B,a∉S):TmpAt H' o t tm B:=by
 obtain⟨y,g,z,sl,h,rfl⟩:=h;exact⟨y,g,z,sl,h.frame fun a j=>w.at' a (h.lt a j) (u a j),rfl⟩
def SysAt (H:Hp)(o t:Nat)(tm:Tmp)(s:Sto)(A:List Nat):Prop:=∃ B S,TmpAt H o t tm B/\StoreAt H t s S/\(∀ a∈B,a∉S)/\A=B++S
structure SysRes (H H':Hp)(o t:Nat)(tm':Tmp)(s':Sto)(A A':List Nat):Prop where
 at':SysAt H' o t tm' s' A'
 stp:Stp A H H'
 own:∀ a∈A',a∈A\/H.length<=a
theorem SysAt.lt {H:Hp}{o t:Nat}{tm:Tmp}{s:Sto}{A:List Nat}(h:SysAt H o t tm s A):∀ a∈A,a<H.length:=by
 obtain⟨B,S,g,j,w,rfl⟩:=h;intro a u;rcases zM.1 u with k|k
 ·exact g.lt a k
 ·exact j.lt a k
theorem SysAt.stp {H H':Hp}{o t:Nat}{tm:Tmp}{s:Sto}{A C:List Nat}(h:SysAt H o t tm s A)(u:Stp C H H')(j:∀ a∈A,a∉C):SysAt H' o t tm s A:=by
 obtain⟨B,S,w,y,z,rfl⟩:=h;exact⟨B,S,w.stp u fun a g=>j a (by simp[g]),y.stp u fun a g=>j a (by simp[g]),z,rfl⟩
theorem SysAt.self {H:Hp}{o t:Nat}{tm:Tmp}{s:Sto}{A:List Nat}(h:SysAt H o t tm s A):SysRes H H o t tm s A A:=⟨h,Stp.refl _ _,fun a g=>.inl g⟩
theorem SysAt.store {H H':Hp}{o t:Nat}{tm:Tmp}{s':Sto}{B S u:List Nat}(w:TmpAt H o t tm B)(y:∀ a∈B,a∉S)(j:StoRes H H' t s' S u):SysRes H H' o t tm s' (B++S) (B++u):=by
 refine⟨⟨B,u,w.stp j.stp y,j.at',fun a g z=>?_,rfl⟩,j.stp.mono fun a g=>by simp[g],fun a g=>?_⟩
 ·rcases j.own a z with k|k
  ·exact y a g k
  ·have:=w.lt a g;omega
 ·rcases zM.1 g with k|k
  ·exact .inl (by simp[k])
  ·rcases j.own a k with k|k
   ·exact .inl (by simp[k])
   ·exact .inr k
theorem ZW {H:Hp}{o:Nat}{l:List AV}(h:H[o]?=some (.cells l))(i:Nat){v:AV}(g:l[i]?=some v):Z3 false 1 (.ptr o i) H=some v:=by
 rw[YE h];exact g
theorem Qb {H:Hp}{o:Nat}{l:List AV}(h:H[o]?=some (.cells l))(i:Nat){v:AV}(j:v.cells=[v])(g:v.known=true)(hi:i<l.length):Zf 1 (.ptr o i) v H=some (.tuple [],H.set o (.cells (l.set i v))):=by
 have:=st h i j g hi
 rwa [zD]at this
theorem ZqV {x:AV}{l:List Zo}(E:SS x l)(J:l.length<=1048576)(n:Zo)(D H:Hp):∀ (r d:List Zo),l=d++r ->
 ∃ i:Int,X2 x (.str n) (.int .i64 (l.length:Int)) (.int .i64 (d.length:Int)) D H=some (.int .i64 i,H)/\(0<=i↔n∈r):=by
 intro r
 induction r with
 |nil =>
  intro d j;rw[zU]at j;subst j;have g:decide ((l.length:Int)<(l.length:Int))=false:=by simp
  refine⟨-1,?_,by simp⟩;rw[Vo];simp only[go_sem,g,GJ]
 |cons s r F =>
  intro d j;have B:l.length=d.length+(r.length+1):=by rw[j];simp
  have g:decide ((d.length:Int)<(l.length:Int))=true:=by simp;omega
  have A:xP.wrap ((d.length:Int)+1)=((d.length+1:Nat):Int):=by rw[Zr (by omega) (by omega)];omega
  have z:l[d.length]?=some s:=by rw[j,zI (zL _)];simp
  have u:=SS.idx E z;rw[Vo];simp only[go_sem,g,GK,u,ZE];by_cases w:n=s
  ·have y:(n==s)=true:=by simpa using w
   simp only[y,go_sem];exact⟨_,rfl,by simp[w]⟩
  ·have y:(n==s)=false:=by simpa using w
   obtain⟨i,C,I⟩:=F (d++[s]) (by rw[j];simp);rw[zQ,zP]at C;simp only[y,go_sem,GL,A];exact⟨i,C,by rw[I];simp[w]⟩
theorem ZaX {x:AV}{l:List Zo}(w:SS x l)(u:l.length<=1048576)(n:Zo)(H:Hp):Ze YQ [x,.str n] H=some (.bool (decide (n∈l)),H):=by
 obtain⟨x1,y,z⟩:=SS.closed w [] 0 7;obtain⟨C,j,g⟩:=SS.closed z [] 0 7;refine F2 y (b':=.str n) rfl (H1:=[]) ?_ rfl;obtain⟨i,A,B⟩:=ZqV g u n [] [] l [] rfl
 have hi:Ze We [x1,.str n] []=some (.int .i64 i,[]):=by
  refine F2 j (b':=.str n) rfl (H1:=[]) ?_ rfl;rw[BF];unfold UF;simp only[go_sem,SS.len g 9];exact A
 rw[KF];unfold Vx;simp only[hi,go_sem];congr 3;rw[decide_eq_decide];exact B
def Yg (tm:Tmp)(n:Zo):Int:=if tm.closed then 8 else if n∈tm.names then 0 else 5
theorem EU {H:Hp}{o t E w:Nat}{B:AV}{sl:List (Zo×Nat)}{tm:Tmp}(h:TmAt H o t E w B sl tm)(z:TmpOk tm)(n:Zo):Xh [.ptr o 0,.str n] H=some (.int .i64 (Yg tm n),H):=by
 have j:=ZW h.cells 6 (v:=.bool tm.closed) rfl;have A:=ZW h.cells 2 (v:=B) rfl;have C:=z.len;have D:=z.last;have g:=ZaX h.names.ss (by omega) n H;rw[Ei];unfold FN Yg
 cases y:tm.closed with
 |true =>
  rw[y]at j;simp only[go_sem,zD,j,if_true]
 |false =>
  rw[y]at j;by_cases u:n∈tm.names
  ·rw[decide_eq_true u]at g;simp only[go_sem,zD,j,A,g,yG,LS,if_pos u,yB,if_false]
  ·rw[decide_eq_false u]at g;simp only[go_sem,zD,j,A,g,yD,if_neg u,yB,if_false]
def ZjD (o:Zo):Zo:=[46,116,109,112,46]++o++[46]
def U5 (o:Zo)(n:Nat):Zo:=ZjD o++Go.Lib.itoa (n:Int)
def Tl (tm:Tmp)(s:Sto):(Zo×Int)×(Tmp×Sto) :=
 if tm.closed then (([],8),(tm,s)) else match s.create (U5 tm.owner (tm.last+1)) with
 |(e,s')=>if e=0 then ((U5 tm.owner (tm.last+1),0),({ tm with last:=tm.last+1,names:=tm.names++[U5 tm.owner (tm.last+1)] },s')) else (([],e),(tm,s'))
theorem NmAt.app {H:Hp}{x:AV}{l:List Zo}(h:NmAt H x l)(n:Zo)(A:l.length<=1048576) :
 ∃ g H',Ym 1 16 x (.vs 1 .clip [.str n]) H=some (g,H')/\NmAt H' g (l++[n])/\Stp (ZG x) H H'/\(∀ a∈ZG g,a∈ZG x\/a=H.length)/\g.cells=[g]/\g.known=true/\(ZG g).Nodup:=by
 unfold Ym;have z:Go.Am.elems 1 (.vs 1 .clip [.str n]) H=some [.str n]:=rfl;rw[z];have j:YD ((l.map xC).length+[xC n].length) 16=true:=by simp[YD];omega
 have u:YD [xC n].length 16=true:=rfl;rcases h with ⟨rfl,rfl⟩|⟨t,e,rfl,y⟩
 ·refine⟨.vs 1 (.own H.length 1) [.str n],H++[.tok 1],?_,.inr ⟨H.length,1,rfl,by simp⟩,Stp.push _ _,fun a w=>.inr (zH.1 w),rfl,rfl,by simp[ZG]⟩;simp only[Yv,u,if_true];rw[if_neg (by simp)];rfl
 ·refine⟨.vs 1 (.own t (e+1)) (l.map xC++[.str n]),H.set t (.tok (e+1)),?_,.inr ⟨t,e+1,by simp,Zt _ y⟩,Stp.set _ _ (by simp[ZG]),fun a w=>.inl (by simpa[ZG]using w),rfl,rfl,by simp[ZG]⟩;simp only[Yv,j,and_self,if_true,y];rw[if_neg (by simp)];rfl
theorem ZwC (n:Nat)(g:n<=9223372036854775807)(H:Hp):Ze E5 [.int .i64 (n:Int)] H=some (.str (Go.Lib.itoa (n:Int)),H):=by
 refine XQ (a':=.int .i64 (n:Int)) rfl (H1:=[]) ?_ rfl
 have:I1 Zev [.int .i64 (n:Int)] []=some (.str (Go.Lib.itoa (n:Int)),[]):=by
  unfold I1 Zev;dsimp only;rw[if_pos (by omega)]
 rw[Zh0];unfold Zcn;simp only[this,go_sem]
theorem Ziu (o:Zo)(g:o.length<=1048576)(H:Hp):Ze Qp [.str o] H=some (.str (ZjD o),H):=by
 refine XQ (a':=.str o) rfl (H1:=[]) ?_ rfl;rw[Ot];unfold MR;rw[PQ (by simp;omega)];simp only[go_sem];rw[PQ (by simp;omega)];rfl
abbrev tmC (t g:Nat)(j:AV)(tm:Tmp):List AV:=[.ptr t 0,.str tm.owner,j,.map g,.int .i64 (tm.limit:Int),.int .i64 (tm.last:Int),.bool tm.closed]
theorem ZyN (o:Zo)(n:Nat)(u:o.length<=16)(j:n<=1000001):(U5 o n).length<=1048576/\(ZjD o).length+(Go.Lib.itoa (n:Int)).length<=1048576:=by
 have:=Go.Lib.itoa_length_le (n:Int) (by omega) (by omega);have g:(ZjD o).length=o.length+6:=by simp[ZjD]
 refine⟨?_,by omega⟩;unfold U5;rw[zQ];omega
theorem Zlu {H:Hp}{o t:Nat}{tm:Tmp}{s:Sto}{A:List Nat}(h:SysAt H o t tm s A)(hm:TmpOk tm)(hk:StoOk s)(hl:tm.last<1000000) :
 ∃ H' A',VE [.ptr o 0] H=some (.tuple [.str (Tl tm s).1.1,.int .i64 (Tl tm s).1.2],H')/\SysRes H H' o t (Tl tm s).2.1 (Tl tm s).2.2 A A':=by
 have Y:=h;obtain⟨B,S,y,h2,h3,rfl⟩:=h;have hB:=y;obtain⟨u,aa,w,sl,y,rfl⟩:=y;have Z:=ZW y.cells 6 (v:=.bool tm.closed) rfl;have l0:=ZW y.cells 0 (v:=.ptr t 0) rfl;have l1:=ZW y.cells 1 (v:=.str tm.owner) rfl;have l5:=ZW y.cells 5 (v:=.int .i64 (tm.last:Int)) rfl;have ho:=hm.owner;have hw:xP.wrap ((tm.last:Int)+1)=((tm.last+1:Nat):Int):=by rw[Zr (by omega) (by omega)];omega
 obtain⟨n1,n2⟩:=ZyN tm.owner (tm.last+1) ho (by omega);have J:=Ziu tm.owner (by omega) H;have U:=ZwC (tm.last+1) (by omega) H;have F:Xb .add (.str (ZjD tm.owner)) (.str (Go.Lib.itoa ((tm.last+1:Nat):Int)))=some (.str (U5 tm.owner (tm.last+1))):=by rw[PQ (by omega)];rfl
 have I:Ys (.pointer 82) .eql (.ptr t 0) .nilp=some (.bool false):=rfl;obtain⟨H1,S1,p1,C⟩:=Zpq h2 hk (U5 tm.owner (tm.last+1)) n1;rw[C8];unfold Ro Tl
 cases hc:tm.closed with
 |true =>
  rw[hc]at Z;rw[if_pos rfl];exact⟨H,_,by simp only[go_sem,zD,Uj,Z],Y.self⟩
 |false =>
  rw[hc]at Z;rw[if_neg (by simp)]
  cases ac:s.create (U5 tm.owner (tm.last+1)) with
  |mk e s' =>
  rw[ac]at p1 C;simp only at p1 C ⊢;by_cases he:e=0
  ·subst he;rw[if_pos rfl];have M:((0:Int) != 0)=false:=rfl;have K:=y.frame (H':=H1) fun a g=>C.stp.at' a (y.lt a g) (h3 a g);have k5:=ZW K.cells 5 (v:=.int .i64 (tm.last:Int)) rfl;have s5:=Qb K.cells 5 (v:=.int .i64 ((tm.last+1:Nat):Int)) rfl rfl (by simp);have g1:=Zt (zJ (zO (tmC t u w tm) 5 (.int .i64 ((tm.last+1:Nat):Int)))) K.cells;have k2:=ZW g1 2 (v:=w) rfl;have X:=y.nd;rw[zE,zE]at X;obtain⟨d1,d2,d3⟩:=X;have O:∀ a∈ZG w,a≠o:=fun a g e=>d1 (by rw[<-e];simp[g]);have W:∀ a∈ZG w,a≠u:=fun a g e=>d2 (by rw[<-e];exact g);have N:o≠u:=fun e=>d1 (by rw[e];simp);generalize D:H1.set o (.cells (zO (tmC t u w tm) 5 (.int .i64 ((tm.last+1:Nat):Int))))=H2 at s5 g1 k2;have L:H2.length=H1.length:=by rw[<-D];simp
   have ab:NmAt H2 w tm.names:=K.names.frame fun a g=>by rw[<-D];exact zC (fun e=>O a g e.symm)
   have ae:=hm.len;obtain⟨R,H3,q1,q2,q3,q4,q5,q6,q7⟩:=ab.app (U5 tm.owner (tm.last+1)) (by omega);have g2:H3[o]?=some (.cells (zO (tmC t u w tm) 5 (.int .i64 ((tm.last+1:Nat):Int)))):=q3.get g1 fun g=>O o g rfl;have s2:=Qb g2 2 (v:=R) q5 q6 (by simp);generalize E:H3.set o (.cells (zO (zO (tmC t u w tm) 5 (.int .i64 ((tm.last+1:Nat):Int))) 2 R))=H4 at s2;have ad:o<H1.length:=Zh K.cells;have V:u<H1.length:=Zh K.map
   have Q:∀ a∈ZG R,a≠o/\a≠u:=fun a g=>by
    rcases q4 a g with k|k
    ·exact⟨O a k,W a k⟩
    ·omega
   have T:Stp (o::u::ZG w) H1 H4:=by
    have e1:Stp (o::u::ZG w) H1 H2:=by rw[<-D];exact Stp.set _ _ (by simp)
    have e3:Stp (o::u::ZG w) H3 H4:=by rw[<-E];exact Stp.set _ _ (by simp)
    exact (e1.trans (q3.mono (B:=o::u::ZG w) fun a g=>by simp[g]) (fun _ h=>h) fun _ h=>.inl h).trans e3 (fun _ h=>h) fun _ h=>.inl h
   refine⟨H4,(o::u::ZG R)++S1,?_,⟨⟨o::u::ZG R,S1,⟨u,aa,R,sl,⟨?_,?_,?_,y.sld,?_⟩,rfl⟩,?_,?_,rfl⟩,?_,?_⟩⟩
   ·simp only[go_sem,zD,Uj,Z,l0,I,G7,l1,J,l5,hw,U,F,p1,M,SX,k5,s5,k2,PL,q1,s2]
   ·rw[<-E];refine (Zt _ g2).trans ?_;simp only[tmC,hc];rfl
   ·exact q2.frame fun a g=>by rw[<-E];exact zC (fun e=>(Q a g).1 e.symm)
   ·rw[<-E,zC N,q3.at' u (by rw[L];exact V) (fun g=>W u g rfl),<-D,zC N];exact K.map
   ·rw[zE,zE];refine⟨fun g=>?_,fun g=>(Q u g).2 rfl,q7⟩;rcases zF.1 g with e|g
    ·exact N e
    ·exact (Q o g).1 rfl
   ·refine C.at'.stp T fun a g hb=>?_;rcases C.own a g with k|k
    ·exact h3 a hb k
    ·have:=y.lt a hb;omega
   ·intro a g hs
    have z:a∈o::u::ZG w->False:=fun k=>by
     rcases C.own a hs with j|j
     ·exact h3 a k j
     ·have:=y.lt a k;omega
    rcases zF.1 g with e|g
    ·exact z (by rw[e];simp)
    rcases zF.1 g with e|g
    ·exact z (by rw[e];simp)
    rcases q4 a g with k|k
    ·exact z (by simp[k])
    ·have:=C.at'.lt a hs;omega
   ·refine (C.stp.mono (B:=(o::u::ZG w)++S) fun a g=>by simp[g]).trans T (fun _ h=>h) fun a g=>.inl (yM _ g)
   ·intro a g;rcases zM.1 g with g|g
    ·rcases zF.1 g with e|g
     ·exact .inl (by rw[e];simp)
     rcases zF.1 g with e|g
     ·exact .inl (by rw[e];simp)
     rcases q4 a g with k|k
     ·exact .inl (by simp[k])
     ·exact .inr (by have:=C.stp.len;omega)
    ·rcases C.own a g with k|k
     ·exact .inl (by simp[k])
     ·exact .inr k
  ·rw[if_neg he];have M:(e != 0)=true:=by simpa using he
   exact⟨H1,_,by simp only[go_sem,zD,Uj,Z,l0,I,G7,l1,J,l5,hw,U,F,p1,M],SysAt.store hB h3 C⟩
def Oz (l:List Zo)(n:Zo):List Zo:=if n∈l then l else l++[n]
def Tm (tm:Tmp)(s:Sto)(n:Zo):Int×(Tmp×Sto) :=
 if Yg tm n≠0 then (Yg tm n,(tm,s)) else if (s.sync n).1≠0 then ((s.sync n).1,(tm,(s.sync n).2)) else (0,({ tm with sld:=Oz tm.sld n },(s.sync n).2))
theorem Zga:∀ (sl:List (Zo×Nat)) (n:Zo) (i:Nat),(n∉sl.map (·.1)/\YS (.str n) (sl.map VI) i=some none)\/∃ a p b,sl=a++p::b/\p.1=n/\n∈sl.map (·.1)/\YS (.str n) (sl.map VI) i=some (some (i+a.length,.bool true)):=by
 intro sl n
 induction sl with
 |nil=>intro i;exact .inl ⟨by simp,rfl⟩
 |cons p sl B =>
  intro i;have u:QL (.str n) (VI p).1=some (n==p.1):=rfl;by_cases j:n=p.1
  ·refine .inr ⟨[],p,sl,rfl,j.symm,by simp[j],?_⟩;rw[zG,YS,u,show (n==p.1)=true by simpa using j];rfl
  ·have g:YS (.str n) ((p::sl).map VI) i=YS (.str n) (sl.map VI) (i+1):=by
    rw[zG,YS,u,show (n==p.1)=false by simpa using j]
   rw[g];rcases B (i+1) with ⟨w,y⟩|⟨a,q,b,w,y,z,A⟩
   ·exact .inl ⟨by simp[j]at w ⊢;exact w,y⟩
   ·refine .inr ⟨p::a,q,b,by rw[w];rfl,y,by rw[zG];exact yL _ z,?_⟩;rw[A];simp only[yE];congr 3;omega
theorem Zxh {α:Type}(a:List α)(d:α)(b:List α):(a++d::b).set a.length d=a++d::b:=by
 induction a with
 |nil=>rfl
 |cons x a g=>simp only[yA,yE,List.set_cons_succ,g]
theorem Zxf {H:Hp}{A g:Nat}{sl:List (Zo×Nat)}(h:H[A]?=some (.map (sl.map VI) g))(n:Zo) :
 ∃ (u:List (Zo×Nat)) (j:Nat),Xs .string (.map A) (.str n) (.bool true) H=some (.tuple [],H.set A (.map (u.map VI) j))/\u.map (·.1)=Oz (sl.map (·.1)) n:=by
 have z:Wa .string (.str n)=true:=rfl;unfold Xs;dsimp only;rw[h];dsimp only;rw[if_pos z];rcases Zga sl n 0 with ⟨w,y⟩|⟨a,p,b,w,y,D,E⟩
 ·refine⟨sl++[(n,g)],g+1,?_,?_⟩
  ·rw[y];simp[VI]
  ·unfold Oz;rw[if_neg w];simp
 ·refine⟨sl,g,?_,?_⟩
  ·rw[E];dsimp only;have B:(sl.map VI).getD (0+a.length) (.undef,.undef,0)=VI p:=by rw[w,yP,zN,zG,zI (by simp)];simp
   have C:(sl.map VI).set (0+a.length) (.str n,.bool true,(VI p).2.2)=sl.map VI:=by
    have:((.str n,.bool true,(VI p).2.2):AV×AV×Nat)=VI p:=by rw[<-y];rfl
    rw[this,w,zD,zN,zG,show a.length=(a.map VI).length by simp,Zxh]
   rw[B,C]
  ·unfold Oz;rw[if_pos D]
theorem Zlt {H:Hp}{o t:Nat}{tm:Tmp}{s:Sto}{A:List Nat}(h:SysAt H o t tm s A)(hm:TmpOk tm)(hk:StoOk s)(n:Zo) :
 ∃ H' A',Vi [.ptr o 0,.str n] H=some (.int .i64 (Tm tm s n).1,H')/\SysRes H H' o t (Tm tm s n).2.1 (Tm tm s n).2.2 A A':=by
 have L:=h;obtain⟨B,S,u,h2,M,rfl⟩:=h;have hB:=u;obtain⟨y,X,F,sl,u,rfl⟩:=u;have O:=EU u hm n;have V:=ZW u.cells 0 (v:=.ptr t 0) rfl;obtain⟨H1,T,W,D⟩:=Zv4 h2 hk.count n;rw[Eg];unfold FL Tm;by_cases z:Yg tm n=0
 ·have e0:(Yg tm n != 0)=false:=by rw[z];rfl
  rw[if_neg (by simp[z])];by_cases C:(s.sync n).1=0
  ·have N:((s.sync n).1 != 0)=false:=by rw[C];rfl
   rw[if_neg (by simp[C])];have J:=u.frame (H':=H1) fun a g=>D.stp.at' a (u.lt a g) (M a g);have k3:=ZW J.cells 3 (v:=.map y) rfl;obtain⟨E,w,q1,q2⟩:=Zxf J.map n;have K:=u.nd;rw[zE,zE]at K;obtain⟨Y,Z,d3⟩:=K;have R:o≠y:=fun e=>Y (by rw[e];simp);have Q:∀ a∈ZG F,a≠y:=fun a g e=>Z (by rw[<-e];exact g);have I:Stp (o::y::ZG F) H1 (H1.set y (.map (E.map VI) w)):=Stp.set _ _ (by simp);refine⟨H1.set y (.map (E.map VI) w),(o::y::ZG F)++T,?_,⟨⟨o::y::ZG F,T,⟨y,w,F,E,⟨?_,?_,?_,?_,u.nd⟩,rfl⟩,?_,?_,rfl⟩,?_,?_⟩⟩
   ·simp only[O,go_sem,e0,zD,KE,V,W,N,LQ,k3,q1]
   ·rw[zC R.symm];exact J.cells
   ·exact J.names.frame fun a g=>zC (fun e=>Q a g e.symm)
   ·exact Zt _ J.map
   ·rw[q2,u.sld]
   ·refine D.at'.stp I fun a g U=>?_;rcases D.own a g with k|k
    ·exact M a U k
    ·have:=u.lt a U;omega
   ·intro a g hs;rcases D.own a hs with j|j
    ·exact M a g j
    ·have:=u.lt a g;omega
   ·refine (D.stp.mono (B:=(o::y::ZG F)++S) fun a g=>by simp[g]).trans I (fun _ h=>h) fun a g=>.inl (yM _ g)
   ·intro a g;rcases zM.1 g with g|g
    ·exact .inl (yM _ g)
    ·rcases D.own a g with k|k
     ·exact .inl (by simp[k])
     ·exact .inr k
  ·have N:((s.sync n).1 != 0)=true:=by simpa using C
   rw[if_pos C];exact⟨H1,_,by simp only[O,go_sem,e0,zD,KE,V,W,N],SysAt.store hB M D⟩
 ·have e0:(Yg tm n != 0)=true:=by simpa using z
  rw[if_pos z];exact⟨H,_,by simp only[O,go_sem,e0],L.self⟩
def X3 (nm:List Zo):List Fil->Nat
 |[]=>0
 |f::r=>(if f.name∈nm then f.text.length else 0)+X3 nm r
theorem ZaH (nm:List Zo)(l:List Fil):X3 nm l<=Zs l:=by
 induction l with
 |nil=>exact zL _
 |cons f l g=>simp only[X3,Zs];split <;> omega
theorem ZuU (nm:List Zo)(a b:List Fil):X3 nm (a++b)=X3 nm a+X3 nm b:=by
 induction a with
 |nil=>simp[X3]
 |cons f a g=>simp only[yA,X3,g];omega
theorem ZrU (nm:List Zo){a b:List Fil}(h:a.Perm b):X3 nm a=X3 nm b:=by
 induction h with
 |nil=>rfl
 |cons x _ u=>simp only[X3,u]
 |swap x y l=>simp only[X3];omega
 |trans _ _ g j=>rw[g,j]
theorem Ztu {l:List Fil}(h:(l.map Fil.name).Nodup):(l.map Fil.name).filterMap (ZQ l)=l:=by
 have key:∀ (r l:List Fil),(l.map Fil.name).Nodup->(∀ f∈r,f∈l)->(r.map Fil.name).filterMap (ZQ l)=r:=by
  intro r l w
  have u:∀ f∈l,ZQ l f.name=some f:=by
   clear r
   induction l with
   |nil=>intro f j;cases j
   |cons g l z =>
    intro f j;rw[zG,zE]at w;unfold ZQ;rcases zF.1 j with e|j
    ·rw[e,if_pos rfl]
    ·have y:¬ f.name=g.name:=fun e=>w.1 (by rw[<-e];exact yO.2 ⟨f,j,rfl⟩);rw[if_neg y];exact z w.2 f j
  induction r with
  |nil=>intro _;rfl
  |cons f r z =>
   intro h;rw[zG,List.filterMap_cons,u f (h f (by simp)),z fun g u=>h g (by simp[u])]
 exact key l l h fun _ h=>h
theorem Zr5 {l:List Fil}(h:(l.map Fil.name).Nodup):(Ly l).Perm l:=by
 unfold Ly;have:=(Tg (l.map Fil.name)).filterMap (ZQ l)
 rwa [Ztu h]at this
def Ul (tm:Tmp)(s:Sto):Nat:=X3 tm.names s.files
theorem ZwK (x:Fil)(H:Hp):Z3 true 3 (.vp (Xe x).cells) H=some (Xe x):=rfl
theorem Zq1 {u:Hp}{o t T y:Nat}{J:AV}{sl:List (Zo×Nat)}{tm:Tmp}(h:TmAt u o t T y J sl tm)(V:TmpOk tm){x:AV}{fs:List Fil}(hx:Sl 3 x (fs.map Xe))(hl:fs.length<=64)(hu:Zs fs<=262144)(X:Hp):∀ (r d:List Fil) (H:Hp),fs=d++r->Keep u.length u H->u.length<=H.length ->
 ∃ H',WP (.ptr o 0) (.int .i64 (X3 tm.names d:Int)) x (.int .i64 (fs.length:Int)) (.int .i64 (d.length:Int)) X H=some (.int .i64 (X3 tm.names fs:Int),H')/\Keep u.length u H'/\u.length<=H'.length:=by
 have Z:=V.len;have aa:=V.last;intro r
 induction r with
 |nil =>
  intro d H A F g;rw[zU]at A;subst A;have B:decide ((fs.length:Int)<(fs.length:Int))=false:=by simp
  rw[JZ];simp only[go_sem,B,MC];exact⟨_,rfl,F,g⟩
 |cons f r ih =>
  intro d H A F g;have Q:fs.length=d.length+(r.length+1):=by rw[A];simp
  have B:decide ((d.length:Int)<(fs.length:Int))=true:=by simp;omega
  have E:xP.wrap ((d.length:Int)+1)=((d.length+1:Nat):Int):=by rw[Zr (by omega) (by omega)];omega
  have O:fs[d.length]?=some f:=by rw[A,zI (zL _)];simp
  have D:Zn 3 x (.int .i64 (d.length:Int))=some (.vp (Xe f).cells):=Sl.idx hx (c:=Xe f) (by simp[O]);have z:TmAt H o t T y J sl tm:=h.frame fun a M=>F a (h.lt a M);have W:=Zh z.cells;have N:(H++[zJ [.str [],.int .i64 0,.int .i64 0]])[H.length]?=some (.cells [.str [],.int .i64 0,.int .i64 0]):=by simp
  have R:Zf 3 (.ptr H.length 0) (Xe f) (H++[zJ [.str [],.int .i64 0,.int .i64 0]])=some (.tuple [],H++[zJ (Xe f).cells]):=by
   rw[VU (v:=Xe f) (sz:=3) N rfl rfl (by simp)];simp[splice,Xe,xE]
  have U:(H++[zJ (Xe f).cells])[H.length]?=some (.cells (Xe f).cells):=by simp
  have w:TmAt (H++[zJ (Xe f).cells]) o t T y J sl tm:=z.frame fun a M=>yF (z.lt a M);have l2:=ZW w.cells 2 (v:=J) rfl;have m0:=ZW U 0 (v:=.str f.name) rfl;have m1:=ZW U 1 (v:=.int .i64 (f.text.length:Int)) rfl;have C:=ZaX w.names.ss (by omega) f.name (H++[zJ (Xe f).cells]);have L:Keep u.length u (H++[zJ (Xe f).cells]):=F.trans (Keep.push H g _);have j:X3 tm.names (d++[f])=X3 tm.names d+(if f.name∈tm.names then f.text.length else 0):=by rw[ZuU];simp[X3]
  have ab:=ZaH tm.names (d++[f])
  have ac:Zs (d++[f])<=Zs fs:=by
   rw[A,W9,W9];simp only[Zs];omega
  obtain⟨H',K,p2,p3⟩:=ih (d++[f]) (H++[zJ (Xe f).cells]) (by rw[A];simp) L (by simp;omega);rw[zQ,zP]at K;refine⟨H',?_,p2,p3⟩;rw[JZ];simp only[go_sem,B,MD,D,ZwK,R,zD,l2,m0,C];by_cases I:f.name∈tm.names
  ·rw[if_pos I]at j;have S:xP.wrap ((X3 tm.names d:Int)+(f.text.length:Int))=(X3 tm.names (d++[f]):Int):=by rw[Zr (by omega) (by omega)];omega
   have Y:(Xe f).cells[1]?=some (.int .i64 (f.text.length:Int)):=rfl;simp only[decide_eq_true I,go_sem,zD,m1,Y,S,JY,E];exact K
  ·rw[if_neg I,xN]at j;rw[j]at K;simp only[decide_eq_false I,go_sem,JY,E];exact K
theorem ZlG {H:Hp}{o t M w:Nat}{N:AV}{sl:List (Zo×Nat)}{tm:Tmp}{s:Sto}{S:List Nat}(h:TmAt H o t M w N sl tm)(I:StoreAt H t s S)(J:TmpOk tm)(g:StoOk s) :
 QW XD [.ptr o 0] H=some (.int .i64 (Ul tm s:Int),H):=by
 obtain⟨x,T,E⟩:=ZoR I g;have L:=ZW h.cells 0 (v:=.ptr t 0) rfl;have A:=Zr5 g.nd;have j:(Ly s.files).length<=64:=by rw[A.length_eq];exact g.len
 have B:Zs (Ly s.files)<=262144:=by
  have F:∀ {a b:List Fil},a.Perm b->Zs a=Zs b:=fun {a b} h=>by
   induction h with
   |nil=>rfl
   |cons x _ K=>simp only[Zs,K]
   |swap x y l=>simp only[Zs];omega
   |trans _ _ C D=>rw[C,D]
  rw[F A];have:=g.used;have:=g.limit;omega
 have z:Zl (.slice 108) x=some (.int .i64 ((Ly s.files).length:Int)):=by
  have:=Sl.len E 108
  rwa [yC]at this
 obtain⟨H',O,Q,R⟩:=Zq1 h J E j B H _ [] H rfl (Keep.refl _ _) (zL _)
 have u:XD [.ptr o 0] H=some (.int .i64 (X3 tm.names (Ly s.files):Int),H'):=by
  rw[Lh];unfold Db;simp only[go_sem,zD,L,T,z];exact O
 have:=Ze3 u Q R (v':=.int .i64 (X3 tm.names (Ly s.files):Int)) rfl
 rwa [ZrU tm.names A]at this
theorem ZxV {H:Hp}{o t:Nat}{tm:Tmp}{s:Sto}{A:List Nat}(h:SysAt H o t tm s A)(D:TmpOk tm)(C:StoOk s) :
 QW QF [.ptr o 0] H=some (.int .i64 (if tm.closed then 0 else (Ul tm s:Int)),H):=by
 obtain⟨B,S,⟨I,y,J,sl,u,rfl⟩,z,F,rfl⟩:=h;have j:=ZW u.cells 6 (v:=.bool tm.closed) rfl;have E:=ZW u.cells 0 (v:=.ptr t 0) rfl;have g:Ys (.pointer 82) .eql (.ptr t 0) .nilp=some (.bool false):=rfl;refine Ze3 (H1:=H) (v:=.int .i64 (if tm.closed then 0 else (Ul tm s:Int))) ?_ (Keep.refl _ _) (zL _) rfl;rw[Eh];unfold FM
 cases w:tm.closed with
 |true =>
  rw[w]at j;simp only[go_sem,zD,j,if_true]
 |false =>
  rw[w]at j;simp only[go_sem,zD,j,E,g,LR,ZlG u z D C,yB,if_false]
def GM (tm:Tmp)(s:Sto)(n:Zo)(l:List Zo):Int×Sto :=
 if Yg tm n≠0 then (Yg tm n,s) else if n∈tm.sld then (8,s) else if YZ l=false then (3,s) else
  if (tm.limit:Int)-(Ul tm s:Int)<(Y1 l:Int) then (11,s) else s.append n (ZP l)
theorem ZoF {H:Hp}{u g:Nat}{sl:List (Zo×Nat)}(h:H[u]?=some (.map (sl.map VI) g))(n:Zo):Yc .string (.bool false) false (.map u) (.str n) H=some (.bool (decide (n∈sl.map (·.1)))):=by
 have B:Xi (.map u) H=some (sl.map VI):=by unfold Xi;dsimp only;rw[h]
 have j:Wa .string (.str n)=true:=rfl;unfold Yc;rw[if_pos j,B];dsimp only;rcases Zga sl n 0 with ⟨w,y⟩|⟨a,p,b,w,y,z,A⟩
 ·rw[y,decide_eq_false w];rfl
 ·rw[A,decide_eq_true z];rfl
theorem ZjS {H:Hp}{o t:Nat}{tm:Tmp}{s:Sto}{A:List Nat}(h:SysAt H o t tm s A)(L:TmpOk tm)(I:StoOk s)(n:Zo){x:AV}{l:List Zo}(Y:SS x l)(W:∀ s∈l,s.length<=1048576)(hl:Y1 l<=1048576) :
 ∃ H' A',V0 [.ptr o 0,.str n,x] H=some (.int .i64 (GM tm s n l).1,H')/\SysRes H H' o t tm (GM tm s n l).2 A A':=by
 have u:=h;obtain⟨B,S,w,N,U,rfl⟩:=h;have V:=w;obtain⟨ms,R,nx,sl,w,rfl⟩:=w;have D:=EU w L n;have Z:=ZW w.cells 0 (v:=.ptr t 0) rfl;have J:=ZW w.cells 3 (v:=.map ms) rfl;have Q:=ZW w.cells 4 (v:=.int .i64 (tm.limit:Int)) rfl;have j:=ZoF w.map n;rw[w.sld]at j;have g:=Zw3 Y W (by omega) H;have C:=ZlG w N L I
 have X:Ul tm s<=262144:=by
  have:=ZaH tm.names s.files;have:=I.used;have:=I.limit;unfold Ul;omega
 have O:=L.limit;have hw:xP.wrap ((tm.limit:Int)-(Ul tm s:Int))=(tm.limit:Int)-(Ul tm s:Int):=Zr (by omega) (by omega);rw[Lg];unfold Da GM;by_cases y:Yg tm n=0
 ·have e0:(Yg tm n != 0)=false:=by rw[y];rfl
  rw[if_neg (by simp[y])];by_cases z:n∈tm.sld
  ·rw[if_pos z];rw[decide_eq_true z]at j;exact⟨H,_,by simp only[D,go_sem,e0,zD,XW,J,j],u.self⟩
  ·rw[if_neg z];rw[decide_eq_false z]at j
   cases E:YZ l with
   |false =>
    have T:((3:Int) != 0)=true:=rfl;rw[E,if_neg (by simp)]at g;rw[if_pos rfl];exact⟨H,_,by simp only[D,go_sem,e0,zD,XW,J,j,Vw,g,zA,zB,T],u.self⟩
   |true =>
    have M:((0:Int) != 0)=false:=rfl;rw[E,if_pos rfl]at g;rw[if_neg (by simp)];by_cases F:(tm.limit:Int)-(Ul tm s:Int)<(Y1 l:Int)
    ·rw[if_pos F];have K:decide ((tm.limit:Int)-(Ul tm s:Int)<((ZP l).length:Int))=true:=by rw[W2];exact decide_eq_true F
     exact⟨H,_,by simp only[D,go_sem,e0,zD,XW,J,j,Vw,g,zA,zB,M,JX,Q,C,hw,K],u.self⟩
    ·rw[if_neg F];have K:decide ((tm.limit:Int)-(Ul tm s:Int)<((ZP l).length:Int))=false:=by rw[W2];exact decide_eq_false F
     obtain⟨H1,S1,p1,p2⟩:=Zpm N I n (ZP l) (by rw[W2];omega);exact⟨H1,_,by simp only[D,go_sem,e0,zD,XW,J,j,Vw,g,zA,zB,M,JX,Q,C,hw,K,MB,Z,p1],SysAt.store V U p2⟩
 ·have e0:(Yg tm n != 0)=true:=by simpa using y
  rw[if_pos y];exact⟨H,_,by simp only[D,go_sem,e0],u.self⟩
end Go.Am
