/- Bytes told apart -/
import Derived.Test.YtnaneekpogohaaaGreatDoorXeSx
import Derived.Test.YtnaneekpogohaaaGreatDoorXeGCx
open Go.Am.AV renaming int->wA
open Go.IntKind renaming i64->J
open Go.IntKind renaming i64->xZ
open List renaming getElem?_cons_zero->zB,getElem?_eq_getElem->zC,getElem?_cons_succ->zE,drop_eq_nil_iff->zG,drop_eq_getElem_cons->zH,nil_append->zI,length_nil->zJ,length_cons->zL,cons_append->zM,length_map->zP,drop_zero->zQ,mem_map->zR,length_singleton->zX,length_append->zY,getElem?_append_right->zZ,append_nil->yA,take_add_one->yC,contains_cons->yD,map_append->yE,getElem?_set_ne->yJ,getElem_mem->yK,length_drop->yL,take_zero->yM,range->yQ,getD_eq_getElem?_getD->yR,map_cons->yT,mapM_nil->yU,getElem?_append_left->yV,length_take->yW,length_eq_zero_iff->yX,getElem?_eq_none->xB,mapM_cons->xF,replicate->xG,all_cons->xH,set_cons_zero->xJ,isEmpty_cons->xL,contains_nil->xM,take_append->xO,filter_cons->xP,drop_take->xQ,any_cons->xT,all_nil->xU,any_nil->xX,map_nil->xY
open Nat renaming zero_add->zF,reduceAdd->yO,le_refl->yS,zero_le->xC,add_zero->xK,lt_or_ge->xV
open Bool renaming false_eq_true->zD,true_or->zO,eq_iff_iff->zS,false_or->zT,not_false->zU,true_and->zW,not_true->yB,false_and->yH,and_eq_true->yN,or_eq_true->yP,or_true->yY,or_false->xI,and_true->xR,not_not->xW
open Prod renaming fst->zK
open UInt8 renaming ofNat->yG,lt_iff_toNat_lt->xD,ofNat_toNat->xN
open Prod.mk renaming injEq->xS
open Go.Am.AObj renaming cells->zA,row->yI,bld->yZ,dead->xE
open Go.Am.AV renaming int->zN,cells->zV,known->yF,str->xA
namespace Go.Am
set_option maxRecDepth 100000
theorem N5 {α β γ:Type}(x:Option α)(f:α->Option β)(g:β->Option γ):Z0 (Z0 x f) g=Z0 x fun a=>Z0 (f a) g:=by cases x <;> rfl
def Lh (h x8:AV):Option AV :=
 Z0 (Z5 .eql h (.int .u8 95)) fun j =>
 Z0 (Z8 j false ak (some h)) fun C =>
 Z0 (Z8 j false ak (Z5 .geq C (.int .u8 97))) fun D =>
 Z0 (Z8 j false ak (some D)) fun w =>
 Z0 (Z8 w true ak (some h)) fun E =>
 Z0 (Z8 w true ak (Z5 .leq E (.int .u8 122))) fun F =>
 Z0 (Z8 j false ak (Zi w F (.bool false))) fun H =>
 Z0 (Zi j (.bool true) H) fun u =>
 Z0 (Z8 u false ak (some h)) fun K =>
 Z0 (Z8 u false ak (Z5 .geq K (.int .u8 65))) fun M =>
 Z0 (Z8 u false ak (some M)) fun z =>
 Z0 (Z8 z true ak (some h)) fun N =>
 Z0 (Z8 z true ak (Z5 .leq N (.int .u8 90))) fun O =>
 Z0 (Z8 u false ak (Zi z O (.bool false))) fun Q =>
 Z0 (Zi u (.bool true) Q) fun R =>
 Z0 (Xv .not R) fun g =>
 Z0 (Z8 g true ak (some x8)) fun S =>
 Z0 (Z8 g true ak (Z5 .eql S (wA J 0))) fun T =>
 Z0 (Z8 g true ak (some T)) fun A =>
 Z0 (Z8 A false ak (some h)) fun U =>
 Z0 (Z8 A false ak (Z5 .lss U (.int .u8 48))) fun V =>
 Z0 (Z8 g true ak (Zi A (.bool true) V)) fun W =>
 Z0 (Z8 g true ak (some W)) fun B =>
 Z0 (Z8 B false ak (some h)) fun X =>
 Z0 (Z8 B false ak (Z5 .gtr X (.int .u8 57))) fun Y =>
 Z0 (Z8 g true ak (Zi B (.bool true) Y)) fun Z =>
 Z0 (Zi g Z (.bool false)) fun aa =>
 some aa
theorem Tw (u z j A:AV)(w H:Hp):Pk u z j A w H =
 Z0 (Zx u j) fun h =>
 Z0 (Lh h j) fun g =>
 Zj g (some ((.bool false),H)) (Pl u z j w H):=by
 rw[Zef];simp only[Lh,N5,WZ]
def ZhF (g:AV):Option AV :=
 Z0 (Z5 .geq g (.int .u8 97)) fun z =>
 Z0 (Z8 z true ak (some g)) fun S =>
 Z0 (Z8 z true ak (Z5 .leq S (.int .u8 122))) fun T =>
 Z0 (Zi z T (.bool false)) fun j =>
 Z0 (Z8 j false ak (some g)) fun U =>
 Z0 (Z8 j false ak (Z5 .geq U (.int .u8 65))) fun V =>
 Z0 (Z8 j false ak (some V)) fun A =>
 Z0 (Z8 A true ak (some g)) fun B =>
 Z0 (Z8 A true ak (Z5 .leq B (.int .u8 90))) fun C =>
 Z0 (Z8 j false ak (Zi A C (.bool false))) fun D =>
 Z0 (Zi j (.bool true) D) fun h =>
 Z0 (Z8 h false ak (some g)) fun E =>
 Z0 (Z8 h false ak (Z5 .geq E (.int .u8 48))) fun F =>
 Z0 (Z8 h false ak (some F)) fun u =>
 Z0 (Z8 u true ak (some g)) fun H =>
 Z0 (Z8 u true ak (Z5 .leq H (.int .u8 57))) fun K =>
 Z0 (Z8 h false ak (Zi u K (.bool false))) fun M =>
 Z0 (Zi h (.bool true) M) fun w =>
 Z0 (Z8 w false ak (some g)) fun N =>
 Z0 (Z8 w false ak (Z5 .eql N (.int .u8 95))) fun O =>
 Z0 (Zi w (.bool true) O) fun Q =>
 Z0 (Xv .not Q) fun R =>
 some R
theorem ZbN (j u:AV)(w H:Hp):NB j u w H =
 Z0 (Zx j u) fun h =>
 Z0 (ZhF h) fun g =>
 Zj g (some ((.bool false),H)) (NC j u w H):=by
 rw[Zff];simp only[ZhF,N5,WZ]
def ZsL (g u:AV):Option AV :=
 Z0 (Z8 g false ak (some u)) fun S =>
 Z0 (Z8 g false ak (Z5 .geq S (.int .u8 48))) fun T =>
 Z0 (Z8 g false ak (some T)) fun A =>
 Z0 (Z8 A true ak (some u)) fun U =>
 Z0 (Z8 A true ak (Z5 .leq U (.int .u8 57))) fun V =>
 Z0 (Z8 g false ak (Zi A V (.bool false))) fun B =>
 Z0 (Zi g (.bool true) B) fun h =>
 Z0 (Z8 h false ak (some u)) fun C =>
 Z0 (Z8 h false ak (Z5 .geq C (.int .u8 97))) fun D =>
 Z0 (Z8 h false ak (some D)) fun w =>
 Z0 (Z8 w true ak (some u)) fun E =>
 Z0 (Z8 w true ak (Z5 .leq E (.int .u8 122))) fun F =>
 Z0 (Z8 h false ak (Zi w F (.bool false))) fun H =>
 Z0 (Zi h (.bool true) H) fun j =>
 Z0 (Z8 j false ak (some u)) fun K =>
 Z0 (Z8 j false ak (Z5 .geq K (.int .u8 65))) fun M =>
 Z0 (Z8 j false ak (some M)) fun z =>
 Z0 (Z8 z true ak (some u)) fun N =>
 Z0 (Z8 z true ak (Z5 .leq N (.int .u8 90))) fun O =>
 Z0 (Z8 j false ak (Zi z O (.bool false))) fun Q =>
 Z0 (Zi j (.bool true) Q) fun R =>
 some R
def Zkp (g u:AV):Option AV :=
 Z0 (Z8 g false ak (some u)) fun U =>
 Z0 (Z8 g false ak (Z5 .geq U (.int .u8 97))) fun V =>
 Z0 (Z8 g false ak (some V)) fun w =>
 Z0 (Z8 w true ak (some u)) fun B =>
 Z0 (Z8 w true ak (Z5 .leq B (.int .u8 122))) fun C =>
 Z0 (Z8 g false ak (Zi w C (.bool false))) fun D =>
 Z0 (Zi g (.bool true) D) fun h =>
 Z0 (Z8 h false ak (some u)) fun E =>
 Z0 (Z8 h false ak (Z5 .geq E (.int .u8 65))) fun F =>
 Z0 (Z8 h false ak (some F)) fun z =>
 Z0 (Z8 z true ak (some u)) fun H =>
 Z0 (Z8 z true ak (Z5 .leq H (.int .u8 90))) fun K =>
 Z0 (Z8 h false ak (Zi z K (.bool false))) fun M =>
 Z0 (Zi h (.bool true) M) fun j =>
 Z0 (Z8 j false ak (some u)) fun N =>
 Z0 (Z8 j false ak (Z5 .geq N (.int .u8 48))) fun O =>
 Z0 (Z8 j false ak (some O)) fun A =>
 Z0 (Z8 A true ak (some u)) fun Q =>
 Z0 (Z8 A true ak (Z5 .leq Q (.int .u8 57))) fun R =>
 Z0 (Z8 j false ak (Zi A R (.bool false))) fun S =>
 Z0 (Zi j (.bool true) S) fun T =>
 some T
theorem OL (w z C A D:AV)(B H:Hp):RY w z C A D B H =
 Z0 (Zx w A) fun h =>
 Z0 (Vn [h] H) fun g =>
 Z0 (Zkp g.1 h) fun u =>
 Zj u (Z0 (byteE.run [z,h] g.2) fun j=>Ql w z C A B j.2) (Ql w z C A B g.2):=by
 rw[Zdn];simp only[Zkp,N5,WZ]
def Rq:Option AV->Option Bool
 |some (.bool b)=>some b
 |_=>none
theorem Qo {x:Option AV}{b:Bool}(h:Rq x=some b):x=some (.bool b):=by
 unfold Rq at h;split at h
 ·injection h with h;subst h;rfl
 ·cases h
def Zsa (n:Nat):Bool:=(decide (97<=n)&&decide (n<=122)) || (decide (65<=n)&&decide (n<=90))
def PM (n:Nat):Bool:=decide (48<=n)&&decide (n<=57)
def Wt (n:Nat):Bool:=n==95 || Zsa n || PM n
theorem Zju:((yQ 256).all fun n=>(Rq (Lh (.int .u8 (n:Int)) (wA J 1))==some (!Wt n))&&(Rq (Lh (.int .u8 (n:Int)) (wA J 0))==some (!Wt n || PM n)))=true:=by kernel_rfl
theorem Zqk:((yQ 256).all fun n=>(Rq (ZhF (.int .u8 (n:Int)))==some (!Wt n)))=true:=by kernel_rfl
theorem ZdK (b:UInt8):b.toNat<256:=b.toNat_lt
theorem ZeT (b:UInt8):Lh (.int .u8 b.toNat) (wA J 0)=some (.bool (!Wt b.toNat || PM b.toNat)):=by
 have h:=WF Zju (ZdK b);simp only[yN,beq_iff_eq]at h;exact Qo h.2
theorem Zhr (b:UInt8){i:Int}(hi:(i==0)=false):Lh (.int .u8 b.toNat) (wA J i)=some (.bool (!Wt b.toNat)):=by
 have h:=WF Zju (ZdK b);simp only[yN,beq_iff_eq]at h;rw[<-Qo h.1];have e:Z5 .eql (wA J i) (wA J 0)=Z5 .eql (wA J 1) (wA J 0):=by simp only[Z5,Wa,Wb,hi];rfl
 unfold Lh
 iterate 16 refine congrArg (Z0 _) (funext fun t=>?_)
 cases t with
 |bool b =>
  cases b
  ·rfl
  ·simp only[Zlx,WZ,e]
 |_=>rfl
theorem ZsT (b:UInt8):ZhF (.int .u8 b.toNat)=some (.bool (!Wt b.toNat)):=by
 have h:=WF Zqk (ZdK b);simp only[beq_iff_eq]at h;exact Qo h
def Vt (s:List UInt8):Bool :=
 match s with
 |[]=>false
 |b::_=>decide (s.length<=32)&&!PM b.toNat&&s.all fun c=>Wt c.toNat
theorem Zo8 (s:List UInt8)(h:s.length<=4611686018427387904)(g H:Hp):Pj (.str s) g H=some (.bool (!s.isEmpty&&decide (s.length<=32)),H):=by
 rw[Zee]
 cases s with
 |nil=>simp[go_sem,Yr,Ki]
 |cons b l =>
  simp only[Yr,Ki,go_sem,Zk];have:(!((b::l)==([]:List UInt8)))=true:=rfl;have c:decide (((b::l).length:Int)<=32)=decide ((b::l).length<=32):=by rw[zS];simp;omega
  simp only[this,go_sem,c,xL,zU,zW]
theorem Zsk (s:List UInt8)(A:s.length<=4611686018427387904)(u H:Hp):∀ (k i:Nat),s.length-i=k->0<i->i<=s.length ->
 GO (.str s) (wA J s.length) (wA J i) u H=some (.bool (((s.drop i).all fun c=>Wt c.toNat)&&(!s.isEmpty&&decide (s.length<=32))),H):=by
 intro k
 induction k with
 |zero =>
  intro i hk w hi;rw[QJ];have g:decide ((i:Int)<(s.length:Int))=false:=by simp;omega
  have z:s.drop i=[]:=zG.2 (by omega);simp only[go_sem,g,Zo8 s A,z,xU,zW]
 |succ k B =>
  intro i hk w hi;rw[QJ];have j:i<s.length:=by omega
  have g:decide ((i:Int)<(s.length:Int))=true:=by simp;omega
  have hw:xZ.wrap ((i:Int)+1)=((i+1:Nat):Int):=by rw[Zr (by omega) (by omega)];omega
  have h:((i:Int)==0)=false:=by simp;omega
  simp only[go_sem,g,Tw,ZX (zC j),Zhr _ h];rw[zH j,xH]
  cases hb:Wt s[i].toNat with
  |false=>simp only[go_sem,zU,yH]
  |true =>
   simp only[go_sem,yB,zW,Mx,hw];exact B (i+1) (by omega) (by omega) (by omega)
theorem Zsl (s:List UInt8)(j:s.length<=4611686018427387904)(H:Hp):K4 [.str s] H=some (.bool (Vt s),H):=by
 rw[Zfa];unfold Za2;simp only[go_sem,Zk]
 cases s with
 |nil=>rw[QJ];simp[go_sem,Zo8 [] (by simp),Vt]
 |cons b l =>
  rw[QJ];have h:decide ((0:Int)<((b::l).length:Int))=true:=by simp
  have hw:xZ.wrap ((0:Int)+1)=((0+1:Nat):Int):=by decide
  have g:Zx (.str (b::l)) (wA J 0)=some (.int .u8 b.toNat):=by simp[Zx]
  simp only[go_sem,h,Tw,g,ZeT]
  cases hb:(!Wt b.toNat || PM b.toNat) with
  |true =>
   have:Vt (b::l)=false:=by
    unfold Vt;simp only[yP,Bool.not_eq_true']at hb;rcases hb with hb|hb <;> simp[hb]
   simp only[go_sem,this]
  |false =>
   simp only[Bool.or_eq_false_iff,Bool.not_eq_false']at hb;simp only[go_sem,Mx,hw];rw[Zsk (b::l) j H H l.length 1 (by simp) (by omega) (by simp)]
   have:Vt (b::l)=(((b::l).drop 1).all (fun c=>Wt c.toNat)&&(!(b::l).isEmpty&&decide ((b::l).length<=32))):=by
    unfold Vt;simp only[hb.1,hb.2,xH,List.drop_one,List.tail_cons,xL,zU,zW,xR];rw[Bool.and_comm]
   rw[this]
theorem Zql (s:List UInt8)(z:s.length<=4611686018427387904)(j H:Hp):∀ (k i:Nat),s.length-i=k->i<=s.length ->
 DW (.str s) (wA J i) j H=some (.bool ((s.drop i).all fun c=>Wt c.toNat),H):=by
 intro k
 induction k with
 |zero =>
  intro i hk hi;rw[LU];have g:decide ((i:Int)<(s.length:Int))=false:=by simp;omega
  have u:s.drop i=[]:=zG.2 (by omega);simp only[go_sem,Zk,g,Zfe,u,xU]
 |succ k w =>
  intro i hk hi;rw[LU];have h:i<s.length:=by omega
  have g:decide ((i:Int)<(s.length:Int))=true:=by simp;omega
  have hw:xZ.wrap ((i:Int)+1)=((i+1:Nat):Int):=by rw[Zr (by omega) (by omega)];omega
  simp only[go_sem,Zk,g,ZbN,ZX (zC h),ZsT];rw[zH h,xH]
  cases hb:Wt s[i].toNat with
  |false=>simp only[go_sem,zU,yH]
  |true =>
   simp only[go_sem,yB,zW,Zfg,hw];exact w (i+1) (by omega) (by omega)
theorem Zqm (s:List UInt8)(hs:s.length<=4611686018427387904)(H:Hp):G9 [.str s] H=some (.bool (Vt s),H):=by
 rw[Zg5];unfold Zbm;simp only[go_sem,Zk]
 cases s with
 |nil=>simp[go_sem,Vt]
 |cons b l =>
  have h0:((((b::l).length:Nat):Int)==0)=false:=by simp;omega
  have hidx:Zx (.str (b::l)) (wA J 0)=some (.int .u8 b.toNat):=by simp[Zx]
  simp only[go_sem,h0];by_cases h32:32<(b::l).length
  ·have c1:decide ((32:Int)<((b::l).length:Int))=true:=by simp at h32 ⊢;omega
   have    : Vt (b :: l) = false := by unfold Vt; have : decide ((b :: l).length <= 32) = false := by simp at h32 ⊢; omega
                                       rw[this];rfl
   simp only[go_sem,c1,this]
  ·have c1:decide ((32:Int)<((b::l).length:Int))=false:=by simp at h32 ⊢;omega
   have c2:decide ((b::l).length<=32)=true:=by simp at h32 ⊢;omega
   have hl:=Zql (b::l) hs H H (b::l).length 0 (by simp) (by omega);rw[show ((0:Nat):Int)=0 from rfl,zQ]at hl;have hn:Vt (b::l)=(!PM b.toNat&&(b::l).all fun c=>Wt c.toNat):=by unfold Vt;simp only[c2,zW]
   simp only[go_sem,c1,hidx,Zfd,hl,hn];have e1:decide ((48:Int)<=(b.toNat:Int))=decide (48<=b.toNat):=by rw[zS];simp;omega
   have e2:decide ((b.toNat:Int)<=(57:Int))=decide (b.toNat<=57):=by rw[zS];simp;omega
   unfold PM;simp only[e1,e2]
   cases h48:decide (48<=b.toNat) with
   |false=>simp only[go_sem,yH,zU,zW]
   |true =>
    cases h57:decide (b.toNat<=57) with
    |false=>simp only[go_sem,hidx,e2,h57,zW,zU]
    |true=>simp only[go_sem,hidx,e2,h57,zW,yB,yH]
theorem Zjv (s:List UInt8)(g:s.length<=4611686018427387904)(H:Hp):Zf K4 [.str s] H=some (.bool (Vt s),H):=XI rfl (Zsl s g []) rfl
theorem ZhG (s:List UInt8)(g:s.length<=4611686018427387904)(H:Hp):Zf G9 [.str s] H=some (.bool (Vt s),H):=XI rfl (Zqm s g []) rfl
theorem Zz (a:AV)(l:List AV)(H:Hp):Z3 false 1 (.vp (a::l)) H=some a:=(Eq.refl _).trans (Eq.refl _)
theorem ZoK (a:AV)(l:List AV):QZ false 1 (.vp (a::l))=some a:=(Eq.refl _).trans (Eq.refl _)
theorem Zut (H:Hp)(l:List AV)(k:AV->Hp->Z4):UI (.ptr H.length 0) (H++[.cells l]) k=k (.vp l) (H++[.dead]):=by
 rw[ZrS (VB _ _),Zvp]
def ND {α:Type}(bad:α->Option Int)(key:α->List UInt8):List α->List (List UInt8)->Int
 |[],_=>0
 |c::r,seen=>match bad c with
  |some e=>e
  |none=>if seen.contains (key c) then 6 else ND bad key r (seen++[key c])
theorem FJ {α:Type}(bad:α->Option Int)(key:α->List UInt8)(c:α)(r:List α)(g:List (List UInt8)):ND bad key (c::r) g=match bad c with
 |some e=>e
 |none=>if g.contains (key c) then 6 else ND bad key r (g++[key c]):=(Eq.refl _).trans (Eq.refl _)
def Hn (h:List (AV×AV×Nat))(g:List (List UInt8)):Prop:=h.map (fun e=>(e.1,e.2.1))=g.map fun s=>(xA s,AV.bool true)
theorem Zh5 (k:List UInt8):∀ (u:List (AV×AV×Nat)) (g:List (List UInt8)) (i:Nat),Hn u g ->
 if g.contains k then ∃ j,YQ (.str k) u i=some (some (j,.bool true)) else YQ (.str k) u i=some none:=by
 intro u
 induction u with
 |nil =>
  intro g i h
  cases g with
  |nil=>simp[YQ]
  |cons s r=>simp[Hn]at h
 |cons e u z =>
  intro g i h
  cases g with
  |nil=>simp[Hn]at h
  |cons s r =>
   obtain⟨a,b,c⟩:=e;simp only[Hn,yT,List.cons.injEq,xS]at h;obtain⟨⟨rfl,rfl⟩,w⟩:=h;have:=z r (i+1) w;simp only[YQ,J4,yD]
   cases hk:(k==s) with
   |true=>simp
   |false=>simpa using this
theorem ZjF {H:Hp}{m:Nat}{u:List (AV×AV×Nat)}{c:Nat}{g:List (List UInt8)}(hm:H[m]?=some (.map u c))(z:Hn u g)(k:List UInt8) :
 Y9 .string (.bool false) false (.map m) (.str k) H=some (.bool (g.contains k)):=by
 have h:=Zh5 k u g 0 z;unfold Y9;simp only[Wf,if_true,Xe,hm]
 cases hk:g.contains k with
 |true =>
  rw[hk]at h;obtain⟨j,w⟩:=h;simp[w]
 |false =>
  rw[hk]at h;simp at h;simp[h]
theorem Zmd {H:Hp}{m:Nat}{j:List (AV×AV×Nat)}{c:Nat}{g:List (List UInt8)}(hm:H[m]?=some (.map j c))(u:Hn j g){k:List UInt8}(hk:g.contains k=false) :
 Xq .string (.map m) (.str k) (.bool true) H=some (.tuple [],H.set m (.map (j++[(.str k,.bool true,c)]) (c+1)))/\Hn (j++[(.str k,.bool true,c)]) (g++[k]):=by
 have h:=Zh5 k j g 0 u;rw[hk]at h;simp at h;constructor
 ·unfold Xq;simp only[hm,Wf,if_true,h]
 ·unfold Hn at u ⊢;simp[u]
theorem MV (l:List AV):Z7 0 (.vp l)=some (.vp l):=by simp[Z7]
def QA (c:List UInt8×List Int):AV:=.agg (.str c.1::c.2.map (.int .u64))
def E4 (c:List UInt8×List Int):Option Int:=if Vt c.1 then none else some 4
def HC (l:List (List UInt8×List Int)):Int:=if 24<l.length then 3 else ND E4 zK l []
def Zdv (l:List (List UInt8×List Int)):Prop:=∀ c∈l,c.2.length=4/\c.1.length<=4611686018427387904
theorem Sl.cls {x:AV}{l:List (List UInt8×List Int)}(h:Sl 5 x (l.map QA)){i:Nat}{c:List UInt8×List Int}(hi:l[i]?=some c):Zo 5 x (wA J (i:Int))=some (.vp (.str c.1::c.2.map (.int .u64))):=h.idx (c:=QA c) (by simp[hi])
theorem Vh (n:Nat)(l:List AV)(g:l.length=n)(H:Hp):Z3 true n (.vp l) H=some (.agg l):=by
 subst g;simp[Z3,Go.Am.apart]
theorem LZ (H:Hp)(n:Nat)(l z:List AV)(g:l.length=n)(h:z.length=n):Zb n (.ptr H.length 0) (.agg l) (H++[.cells z])=some (.tuple [],H++[.cells l]):=by
 rw[WG (sz:=n) (v:=.agg l) (VB _ _) rfl g (by omega)];simp[zV,splice,h,g]
theorem ZtV {x:AV}{l:List (List UInt8×List Int)}(h:Sl 5 x (l.map QA))(R:l.length<=24)(hok:Zdv l)(E:Hp)(m:Nat):∀ (k i:Nat) (H:Hp) (z:List (AV×AV×Nat)) (c:Nat),l.length-i=k->i<=l.length ->
 H[m]?=some (.map z c)->Hn z ((l.take i).map zK) ->
 ∃ H',Vd (.map m) x (wA J (l.length:Int)) (wA J (i:Int)) E H=some (wA J (ND E4 zK (l.drop i) ((l.take i).map zK)),H'):=by
 intro k
 induction k with
 |zero =>
  intro i H z c hk hi hm B;rw[KY];have u:decide ((i:Int)<(l.length:Int))=false:=by simp;omega
  have M:l.drop i=[]:=zG.2 (by omega);simp only[go_sem,u,La,M];exact⟨_,rfl⟩
 |succ k N =>
  intro i H z c hk hi hm B;rw[KY];have j:i<l.length:=by omega
  have u:decide ((i:Int)<(l.length:Int))=true:=by simp;omega
  have hw:xZ.wrap ((i:Int)+1)=((i+1:Nat):Int):=by rw[Zr (by omega) (by omega)];omega
  obtain⟨F,A⟩:=hok l[i] (yK j);have g:(xA l[i].1::l[i].2.map (zN .u64)).length=5:=by simp[F]
  have C:=LZ H 5 _ [.str [],.int .u64 0,.int .u64 0,.int .u64 0,.int .u64 0] g rfl;simp only[go_sem,u,Lb,h.cls (zC j),Vh 5 _ g,C,zF,ZH,zB,Zjv _ A];rw[zH j,FJ];have w:(H++[zA (xA l[i].1::l[i].2.map (zN .u64))])[m]?=some (.map z c):=Y5 hm _
  cases hb:Vt l[i].1 with
  |false =>
   simp only[go_sem,zU,E4,hb,zD,if_false];exact⟨_,rfl⟩
  |true =>
   simp only[go_sem,yB,E4,hb,if_true,Ld,zF,ZH,zB,ZjF w B]
   cases K:((l.take i).map zK).contains l[i].1 with
   |true =>
    simp only[go_sem,if_true];exact⟨_,rfl⟩
   |false =>
    obtain⟨O,Q⟩:=Zmd w B K;simp only[go_sem,zD,if_false,Lf,zF,ZH,zB,O,Lc,hw]
    have D:(l.take (i+1)).map zK=(l.take i).map zK++[l[i].1]:=by
     rw[yC,zC j,yE];rfl
    rw[<-D];refine N (i+1) _ _ _ (by omega) (by omega) (Zs _ w) ?_;rw[D];exact Q
theorem ZtW {x:AV}{l:List (List UInt8×List Int)}(h:Sl 5 x (l.map QA))(hok:Zdv l)(u:l.length<=4611686018427387904)(H:Hp):∃ H',Vm [x] H=some (wA J (HC l),H'):=by
 rw[LH];unfold FA HC;have hlen:=h.len 246;rw[zP]at hlen;simp only[go_sem,hlen];by_cases g:24<l.length
 ·have j:decide ((24:Int)<(l.length:Int))=true:=by simp;omega
  simp only[j,go_sem,g,if_true];exact⟨_,rfl⟩
 ·have j:decide ((24:Int)<(l.length:Int))=false:=by simp;omega
  simp only[j,go_sem,g,if_false,L9,hlen];have:=ZtV h (by omega) hok H H.length l.length 0 (H++[.map [] 0]) [] 0 (by omega) (by omega) (VB H _) rfl;rw[show ((0:Nat):Int)=0 from rfl,zQ,yM]at this;exact this
theorem ZwT {x:AV}{l:List (List UInt8×List Int)}(h:Sl 5 x (l.map QA))(M:l.length<=24)(B H:Hp){i:Nat}{n:List UInt8}{q:List Int}(hi:l[i]?=some (n,q)):∀ (k j:Nat),i-j=k->j<=i ->
 Ut x (wA J (i:Int)) (wA J (j:Int)) B H=if (((l.take i).map zK).drop j).contains n then some (wA J 6,H) else KA x (wA J (i:Int)) B H:=by
 intro k
 have D:i<l.length:=by
  rcases xV i l.length with u|u
  ·exact u
  ·rw[xB u]at hi;cases hi
 induction k with
 |zero =>
  intro j hk E;rw[Dn];have g:decide ((j:Int)<(i:Int))=false:=by simp;omega
  have C:((l.take i).map zK).drop j=[]:=zG.2 (by simp;omega);simp only[go_sem,g,C,xM,zD,if_false]
 |succ k K =>
  intro j hk E;rw[Dn];have z:j<l.length:=by omega
  have g:decide ((j:Int)<(i:Int))=true:=by simp;omega
  have hw:xZ.wrap ((j:Int)+1)=((j+1:Nat):Int):=by rw[Zr (by omega) (by omega)];omega
  have w:((l.take i).map zK).drop j=l[j].1::((l.take i).map zK).drop (j+1):=by
   rw[zH (by simp;omega)];simp
  rw[w,yD];simp only[go_sem,g,Hu,h.cls (zC z),h.cls hi,Zz];have F:Yr .eql (.str l[j].1) (.str n)=some (.bool (l[j].1==n)):=rfl;have A:(n==l[j].1)=(l[j].1==n):=by rw[zS,beq_iff_eq,beq_iff_eq];exact eq_comm
  simp only[MV,Zz,F,go_sem,A]
  cases hb:(l[j].1==n) with
  |true=>simp only[go_sem,zO,if_true]
  |false =>
   simp only[go_sem,zT,Hv,hw];exact K (j+1) (by omega) (by omega)
theorem ZsI {x:AV}{l:List (List UInt8×List Int)}(h:Sl 5 x (l.map QA))(B:l.length<=24)(hok:Zdv l)(z H:Hp):∀ (k i:Nat),l.length-i=k->i<=l.length ->
 Us x (wA J (i:Int)) z H=some (wA J (ND E4 zK (l.drop i) ((l.take i).map zK)),H):=by
 have hlen:=h.len 246;rw[zP]at hlen;intro k
 induction k with
 |zero =>
  intro i hk hi;rw[Dm];have j:decide ((i:Int)<(l.length:Int))=false:=by simp;omega
  have A:l.drop i=[]:=zG.2 (by omega);simp only[go_sem,hlen,j,Hq,A];rfl
 |succ k D =>
  intro i hk hi;rw[Dm];have g:i<l.length:=by omega
  have j:decide ((i:Int)<(l.length:Int))=true:=by simp;omega
  have hw:xZ.wrap ((i:Int)+1)=((i+1:Nat):Int):=by rw[Zr (by omega) (by omega)];omega
  obtain⟨E,w⟩:=hok l[i] (yK g);simp only[go_sem,hlen,j,Hr,h.cls (zC g),MV,Zz,ZhG _ w];rw[zH g,FJ]
  cases hb:Vt l[i].1 with
  |false=>simp only[go_sem,zU,E4,hb,zD,if_false]
  |true =>
   have u:=ZwT h B z H (zC g) i 0 (by omega) (by omega);rw[zQ,show ((0:Nat):Int)=0 from rfl]at u;simp only[go_sem,yB,E4,hb,if_true,Ht,u]
   have C:(l.take (i+1)).map zK=(l.take i).map zK++[l[i].1]:=by
    rw[yC,zC g,yE];rfl
   cases F:((l.take i).map zK).contains l[i].1 with
   |true=>simp only[if_true]
   |false =>
    simp only[zD,if_false,Hs,go_sem,hw];rw[D (i+1) (by omega) (by omega),C]
theorem ZsJ {x:AV}{l:List (List UInt8×List Int)}(h:Sl 5 x (l.map QA))(hok:Zdv l)(H:Hp):UT [x] H=some (wA J (HC l),H):=by
 rw[A9];unfold PR HC;have hlen:=h.len 246;rw[zP]at hlen;simp only[go_sem,hlen];by_cases g:24<l.length
 ·have j:decide ((24:Int)<(l.length:Int))=true:=by simp;omega
  simp only[j,go_sem,g,if_true]
 ·have j:decide ((24:Int)<(l.length:Int))=false:=by simp;omega
  simp only[j,go_sem,g,if_false,Ho];have:=ZsI h (by omega) hok H H l.length 0 (by omega) (by omega);rw[show ((0:Nat):Int)=0 from rfl,zQ,yM]at this;exact this
def D2 (c:List UInt8×Int):AV:=.agg [.str c.1,wA J c.2]
def IW (c:List UInt8×Int):Option Int:=if (c.1.length != 2 || (decide (c.2<0) || decide (65535<c.2)))=true then some 2 else none
def Ea (l:List (List UInt8×Int)):Int:=if 64<l.length then 3 else ND IW zK l []
def Zdw (l:List (List UInt8×Int)):Prop:=∀ c∈l,c.1.length<=4611686018427387904
theorem Sl.els {x:AV}{l:List (List UInt8×Int)}(h:Sl 2 x (l.map D2)){i:Nat}{c:List UInt8×Int}(hi:l[i]?=some c):Zo 2 x (wA J (i:Int))=some (.vp [.str c.1,wA J c.2]):=h.idx (c:=D2 c) (by simp[hi])
theorem ZoB (a:AV)(l:List AV):Z7 1 (.vp (a::l))=some (.vp l):=by simp[Z7]
theorem ZpK (n:Int)(H:Hp):Dd [wA J n] H=some (.bool (!(decide (n<0) || decide (65535<n))),H):=by
 rw[Zi4];unfold Zeq;have g:decide ((0:Int)<=n)=!decide (n<0):=by rw[zS];simp
 have h:decide (n<=(65535:Int))=!decide (65535<n):=by rw[zS];simp
 simp only[go_sem,g]
 cases j:decide (n<0) with
 |true=>simp only[go_sem,yB,zO]
 |false=>simp only[go_sem,zU,zT,h]
theorem Zhm (n:Int)(H:Hp):Zf Dd [wA J n] H=some (.bool (!(decide (n<0) || decide (65535<n))),H):=XI rfl (ZpK n []) rfl
theorem Zue {x:AV}{l:List (List UInt8×Int)}(h:Sl 2 x (l.map D2))(S:l.length<=64)(hok:Zdw l)(C:Hp)(m:Nat):∀ (k i:Nat) (H:Hp) (w:List (AV×AV×Nat)) (c:Nat),l.length-i=k->i<=l.length ->
 H[m]?=some (.map w c)->Hn w ((l.take i).map zK) ->
 ∃ H',WN (.map m) x (wA J (l.length:Int)) (wA J (i:Int)) C H=some (wA J (ND IW zK (l.drop i) ((l.take i).map zK)),H'):=by
 intro k
 induction k with
 |zero =>
  intro i H w c hk hi hm z;rw[Kd];have j:decide ((i:Int)<(l.length:Int))=false:=by simp;omega
  have M:l.drop i=[]:=zG.2 (by omega);simp only[go_sem,j,NS,M];exact⟨_,rfl⟩
 |succ k O =>
  intro i H w c hk hi hm z;rw[Kd];have g:i<l.length:=by omega
  have j:decide ((i:Int)<(l.length:Int))=true:=by simp;omega
  have hw:xZ.wrap ((i:Int)+1)=((i+1:Nat):Int):=by rw[Zr (by omega) (by omega)];omega
  have N:=hok l[i] (yK g);have A:=LZ H 2 [.str l[i].1,wA J l[i].2] [.str [],wA J 0] rfl rfl;simp only[go_sem,j,NT,h.els (zC g),Vh 2 [.str l[i].1,wA J l[i].2] rfl,A,zF,ZH,zB,zE,YI];rw[zH g,FJ];have u:(H++[zA [xA l[i].1,zN .i64 l[i].2]])[m]?=some (.map w c):=Y5 hm _;have D:((l[i].1.length:Int) != 2)=(l[i].1.length != 2):=by rw[zS];simp;omega
  rw[D];unfold IW
  cases hb:(l[i].1.length != 2) with
  |true=>simp only[go_sem,zO,if_true];exact⟨_,rfl⟩
  |false =>
  simp only[go_sem,zT,zF,ZH,zB,zE]
  cases E:decide (l[i].2<0) with
  |true=>simp only[go_sem,zO,if_true];exact⟨_,rfl⟩
  |false =>
  simp only[go_sem,zT,zF,ZH,zB,zE]
  cases F:decide (65535<l[i].2) with
  |true=>simp only[go_sem,if_true];exact⟨_,rfl⟩
  |false =>
   simp only[go_sem,zD,if_false,NV,zF,ZH,zB,ZjF u z]
   cases K:((l.take i).map zK).contains l[i].1 with
   |true =>
    simp only[go_sem,if_true];exact⟨_,rfl⟩
   |false =>
    obtain⟨Q,R⟩:=Zmd u z K;simp only[go_sem,zD,if_false,NW,zF,ZH,zB,Q,NU,hw]
    have B:(l.take (i+1)).map zK=(l.take i).map zK++[l[i].1]:=by
     rw[yC,zC g,yE];rfl
    rw[<-B];refine O (i+1) _ _ _ (by omega) (by omega) (Zs _ u) ?_;rw[B];exact R
theorem Zuf {x:AV}{l:List (List UInt8×Int)}(h:Sl 2 x (l.map D2))(hok:Zdw l)(u:l.length<=4611686018427387904)(H:Hp):∃ H',V6 [x] H=some (wA J (Ea l),H'):=by
 rw[ML];unfold Dh Ea;have hlen:=h.len 189;rw[zP]at hlen;simp only[go_sem,hlen];by_cases g:64<l.length
 ·have j:decide ((64:Int)<(l.length:Int))=true:=by simp;omega
  simp only[j,go_sem,g,if_true];exact⟨_,rfl⟩
 ·have j:decide ((64:Int)<(l.length:Int))=false:=by simp;omega
  simp only[j,go_sem,g,if_false,NR,hlen];have:=Zue h (by omega) hok H H.length l.length 0 (H++[.map [] 0]) [] 0 (by omega) (by omega) (VB H _) rfl;rw[show ((0:Nat):Int)=0 from rfl,zQ,yM]at this;exact this
theorem ZwV {x:AV}{l:List (List UInt8×Int)}(h:Sl 2 x (l.map D2))(M:l.length<=64)(B H:Hp){i:Nat}{n:List UInt8}{q:Int}(hi:l[i]?=some (n,q)):∀ (k j:Nat),i-j=k->j<=i ->
 VN x (wA J (i:Int)) (wA J (j:Int)) B H=if (((l.take i).map zK).drop j).contains n then some (wA J 6,H) else Jp x (wA J (i:Int)) B H:=by
 intro k
 have D:i<l.length:=by
  rcases xV i l.length with u|u
  ·exact u
  ·rw[xB u]at hi;cases hi
 induction k with
 |zero =>
  intro j hk E;rw[B8];have g:decide ((j:Int)<(i:Int))=false:=by simp;omega
  have C:((l.take i).map zK).drop j=[]:=zG.2 (by simp;omega);simp only[go_sem,g,C,xM,zD,if_false]
 |succ k K =>
  intro j hk E;rw[B8];have z:j<l.length:=by omega
  have g:decide ((j:Int)<(i:Int))=true:=by simp;omega
  have hw:xZ.wrap ((j:Int)+1)=((j+1:Nat):Int):=by rw[Zr (by omega) (by omega)];omega
  have w:((l.take i).map zK).drop j=l[j].1::((l.take i).map zK).drop (j+1):=by
   rw[zH (by simp;omega)];simp
  rw[w,yD];simp only[go_sem,g,Sr,h.els (zC z),h.els hi,Zz];have F:Yr .eql (.str l[j].1) (.str n)=some (.bool (l[j].1==n)):=rfl;have A:(n==l[j].1)=(l[j].1==n):=by rw[zS,beq_iff_eq,beq_iff_eq];exact eq_comm
  simp only[MV,Zz,F,go_sem,A]
  cases hb:(l[j].1==n) with
  |true=>simp only[go_sem,zO,if_true]
  |false =>
   simp only[go_sem,zT,Su,hw];exact K (j+1) (by omega) (by omega)
theorem ZsN {x:AV}{l:List (List UInt8×Int)}(h:Sl 2 x (l.map D2))(C:l.length<=64)(hok:Zdw l)(w H:Hp):∀ (k i:Nat),l.length-i=k->i<=l.length ->
 VM x (wA J (i:Int)) w H=some (wA J (ND IW zK (l.drop i) ((l.take i).map zK)),H):=by
 have hlen:=h.len 189;rw[zP]at hlen;intro k
 induction k with
 |zero =>
  intro i hk hi;rw[B7];have j:decide ((i:Int)<(l.length:Int))=false:=by simp;omega
  have B:l.drop i=[]:=zG.2 (by omega);simp only[go_sem,hlen,j,Sn,B];rfl
 |succ k F =>
  intro i hk hi;rw[B7];have g:i<l.length:=by omega
  have j:decide ((i:Int)<(l.length:Int))=true:=by simp;omega
  have hw:xZ.wrap ((i:Int)+1)=((i+1:Nat):Int):=by rw[Zr (by omega) (by omega)];omega
  have D:=hok l[i] (yK g);simp only[go_sem,hlen,j,So,h.els (zC g),MV,Zz,YI];rw[zH g,FJ];have z:((l[i].1.length:Int) != 2)=(l[i].1.length != 2):=by rw[zS];simp;omega
  rw[z];unfold IW
  cases hb:(l[i].1.length != 2) with
  |true=>simp only[go_sem,zO,if_true]
  |false =>
  simp only[go_sem,zT,h.els (zC g),ZoB,Zz,Zhm,xW]
  cases A:(decide (l[i].2<0) || decide (65535<l[i].2)) with
  |true=>simp only[go_sem,if_true]
  |false =>
   have u:=ZwV h C w H (zC g) i 0 (by omega) (by omega);rw[zQ,show ((0:Nat):Int)=0 from rfl]at u;simp only[go_sem,zD,if_false,Sq,u]
   have E:(l.take (i+1)).map zK=(l.take i).map zK++[l[i].1]:=by
    rw[yC,zC g,yE];rfl
   cases K:((l.take i).map zK).contains l[i].1 with
   |true=>simp only[if_true]
   |false =>
    simp only[zD,if_false,Sp,go_sem,hw];rw[F (i+1) (by omega) (by omega),E];rfl
theorem ZsO {x:AV}{l:List (List UInt8×Int)}(h:Sl 2 x (l.map D2))(hok:Zdw l)(H:Hp):Up [x] H=some (wA J (Ea l),H):=by
 rw[Hf];unfold Tb Ea;have hlen:=h.len 189;rw[zP]at hlen;simp only[go_sem,hlen];by_cases g:64<l.length
 ·have j:decide ((64:Int)<(l.length:Int))=true:=by simp;omega
  simp only[j,go_sem,g,if_true]
 ·have j:decide ((64:Int)<(l.length:Int))=false:=by simp;omega
  simp only[j,go_sem,g,if_false,Sm];have:=ZsN h (by omega) hok H H l.length 0 (by omega) (by omega);rw[show ((0:Nat):Int)=0 from rfl,zQ,yM]at this;exact this
structure Loc where
 name:List UInt8
 w:List Int
 lo:List UInt8
 up:List UInt8
 cls:List (List UInt8×List Int)
 els:List (List UInt8×Int)
def Loc.cells (x c e:AV)(L:Loc):List AV:=[.str L.name,x,.str L.lo,.str L.up,c,e]
def LocAV (a:AV)(L:Loc):Prop:=∃ x c e,a=.agg (L.cells x c e)/\Sl 1 x (L.w.map (zN .i64))/\Sl 5 c (L.cls.map QA)/\Sl 2 e (L.els.map D2)
structure LocOk (L:Loc):Prop where
 name:L.name.length<=4611686018427387904
 w:L.w.length<=4611686018427387904
 lo:L.lo.length<=4611686018427387904
 up:L.up.length<=4611686018427387904
 cls:Zdv L.cls
 els:Zdw L.els
 ncls:L.cls.length<=4611686018427387904
 nels:L.els.length<=4611686018427387904
theorem C4 (c:List UInt8×List Int)(H:Hp)(n f:Nat):Zd H n (f+2) (QA c)=some (QA c):=by
 have:(xA c.1::c.2.map (zN .u64)).mapM (Zd H n (f+1))=some (xA c.1::c.2.map (zN .u64)):=AR fun x hx=>by
  rcases List.mem_cons.1 hx with rfl|hx
  ·rfl
  ·obtain⟨m,_,rfl⟩:=zR.1 hx;rfl
 rw[QA,Kr,this]
theorem IX (c:List UInt8×Int)(H:Hp)(n f:Nat):Zd H n (f+2) (D2 c)=some (D2 c):=(Eq.refl _).trans (Eq.refl _)
theorem LocAV.close {a:AV}{L:Loc}(h:LocAV a L)(H:Hp)(n f:Nat):∃ a',Zd H n (f+4) a=some a'/\LocAV a' L:=by
 obtain⟨x,c,e,rfl,hx,D,E⟩:=h;obtain⟨C,A,B⟩:=hx.close (H:=H) (n:=n) (f:=f+2) (fun y hy=>by obtain⟨m,_,rfl⟩:=zR.1 hy;rfl);obtain⟨c',j,u⟩:=D.close (H:=H) (n:=n) (f:=f+2) (fun y hy=>by obtain⟨m,_,rfl⟩:=zR.1 hy;exact C4 m H n f);obtain⟨g,w,z⟩:=E.close (H:=H) (n:=n) (f:=f+2) (fun y hy=>by obtain⟨m,_,rfl⟩:=zR.1 hy;exact IX m H n f);refine⟨.agg (L.cells C c' g),?_,C,c',g,rfl,B,u,z⟩
 have:(L.cells x c e).mapM (Zd H n (f+3))=some (L.cells C c' g):=by
  simp only[Loc.cells,xF,A,j,w,yU];rfl
 rw[Kr,this]
theorem ZkX {x:AV}{l:List (List UInt8×List Int)}(h:Sl 5 x (l.map QA))(hok:Zdv l)(w:l.length<=4611686018427387904)(H:Hp):Zf Vm [x] H=some (wA J (HC l),H)/\Zf UT [x] H=some (wA J (HC l),H):=by
 obtain⟨z,g,j⟩:=h.close (H:=[]) (n:=0) (f:=8) (fun y hy=>by obtain⟨m,_,rfl⟩:=zR.1 hy;exact C4 m [] 0 6);obtain⟨H',u⟩:=ZtW j hok w [];exact⟨XI g u rfl,XI g (ZsJ j hok []) rfl⟩
theorem Zlh {x:AV}{l:List (List UInt8×Int)}(h:Sl 2 x (l.map D2))(hok:Zdw l)(w:l.length<=4611686018427387904)(H:Hp):Zf V6 [x] H=some (wA J (Ea l),H)/\Zf Up [x] H=some (wA J (Ea l),H):=by
 obtain⟨z,g,j⟩:=h.close (H:=[]) (n:=0) (f:=8) (fun y hy=>by obtain⟨m,_,rfl⟩:=zR.1 hy;exact IX m [] 0 6);obtain⟨H',u⟩:=Zuf j hok w [];exact⟨XI g u rfl,XI g (ZsO j hok []) rfl⟩
def Zg2 (n:Int):Bool:=decide (n<0) || decide (65535<n)
def OT (L:Loc):Int:=if (HC L.cls != 0)=true then HC L.cls else Ea L.els
def Wc (L:Loc):Int :=
 if Vt L.name then (if (L.w.length != 256 || (L.lo.length != 256 || L.up.length != 256))=true then 2 else if L.w.any Zg2 then 2 else OT L) else 4
theorem Sl.ints {x:AV}{l:List Int}(h:Sl 1 x (l.map (zN .i64))){i:Nat}(hi:i<l.length):Zo 1 x (wA J (i:Int))=some (.vp [wA J l[i]]):=h.idx (c:=wA J l[i]) (by simp[hi])
theorem AC (n:Nat):((n:Int) != 256)=(n != 256):=by rw[zS];simp;omega
theorem Zs3 {x c e:AV}{L:Loc}(hx:Sl 1 x (L.w.map (zN .i64)))(A:Sl 5 c (L.cls.map QA))(C:Sl 2 e (L.els.map D2))(hok:LocOk L)(D:L.w.length=256)(u H:Hp){o:Nat}(j:H[o]?=some (.cells (L.cells x c e))):∀ (k i:Nat),L.w.length-i=k->i<=L.w.length ->
 KX (.ptr o 0) x (wA J (L.w.length:Int)) (wA J (i:Int)) u H=some (wA J (if (L.w.drop i).any Zg2 then 2 else OT L),H):=by
 intro k
 induction k with
 |zero =>
  intro i hk hi;rw[Nk];have g:decide ((i:Int)<(L.w.length:Int))=false:=by simp;omega
  have B:L.w.drop i=[]:=zG.2 (by omega);simp only[go_sem,g,B,xX,zD,if_false,Zd6,zF,Y2 j,Loc.cells,zB,zE,(ZkX A hok.cls hok.ncls H).1];unfold OT
  cases z:(HC L.cls != 0) with
  |true=>simp only[go_sem,if_true]
  |false=>simp only[go_sem,zD,if_false,Zd7,zF,Y2 j,Loc.cells,zB,zE,(Zlh C hok.els hok.nels H).1]
 |succ k E =>
  intro i hk hi;rw[Nk];have h:i<L.w.length:=by omega
  have g:decide ((i:Int)<(L.w.length:Int))=true:=by simp;omega
  have hw:xZ.wrap ((i:Int)+1)=((i+1:Nat):Int):=by rw[Zr (by omega) (by omega)];omega
  simp only[go_sem,g,Zd8,hx.ints h,Zz];rw[zH h,xT];unfold Zg2
  cases z:decide (L.w[i]<0) with
  |true=>simp only[go_sem,zO,if_true]
  |false =>
   simp only[go_sem,zT]
   cases F:decide (65535<L.w[i]) with
   |true=>simp only[go_sem,zO,if_true]
   |false =>
    simp only[go_sem,zT,Zd9,hw];exact E (i+1) (by omega) (by omega)
theorem Zs4 {a:AV}{L:Loc}(h:LocAV a L)(hok:LocOk L)(H:Hp):∃ H',GE [a] H=some (wA J (Wc L),H'):=by
 obtain⟨x,c,e,rfl,hx,u,z⟩:=h;rw[ZdQ];unfold Ah Wc;have hlen:=hx.len 3;rw[zP]at hlen;have A:=VB H (.cells (L.cells x c e));simp only[go_sem,zF,ZH,Loc.cells,zB,zE,Zjv L.name hok.name]
 cases hn:Vt L.name with
 |false=>simp only[go_sem,zU,zD,if_false];exact⟨_,rfl⟩
 |true =>
 simp only[go_sem,yB,if_true,Zd4,zF,ZH,zB,zE,hlen,AC]
 cases j:(L.w.length != 256) with
 |true=>simp only[go_sem,zO,if_true];exact⟨_,rfl⟩
 |false =>
 simp only[go_sem,zT,zF,ZH,zB,zE,YI,AC]
 cases B:(L.lo.length != 256) with
 |true=>simp only[go_sem,zO,if_true];exact⟨_,rfl⟩
 |false =>
 simp only[go_sem,zT,zF,ZH,zB,zE,YI,AC]
 cases C:(L.up.length != 256) with
 |true=>simp only[go_sem,if_true];exact⟨_,rfl⟩
 |false =>
 have g:L.w.length=256:=by simpa using j
 have:=Zs3 hx u z hok g H (H++[.cells (L.cells x c e)]) A L.w.length 0 (by omega) (by omega);rw[show ((0:Nat):Int)=0 from rfl,zQ]at this;simp only[Loc.cells]at this;simp only[go_sem,zD,if_false,Zd5,zF,ZH,zB,zE,hlen,this];exact⟨_,rfl⟩
theorem Zqi {x c e:AV}{L:Loc}(hx:Sl 1 x (L.w.map (zN .i64)))(A:Sl 5 c (L.cls.map QA))(C:Sl 2 e (L.els.map D2))(hok:LocOk L)(D:L.w.length=256)(u H:Hp){o:Nat}(j:H[o]?=some (.cells (L.cells x c e))):∀ (k i:Nat),256-i=k->i<=256 ->
 Ra (.ptr o 0) (wA J (i:Int)) u H=some (wA J (if (L.w.drop i).any Zg2 then 2 else if (L.lo.length != 256 || L.up.length != 256)=true then 2 else OT L),H):=by
 intro k
 induction k with
 |zero =>
  intro i hk hi;rw[SU];have g:decide ((i:Int)<256)=false:=by simp;omega
  have B:L.w.drop i=[]:=zG.2 (by omega);simp only[go_sem,g,B,xX,zD,if_false,Zgk,zF,Y2 j,Loc.cells,zB,zE,YI,AC]
  cases F:(L.lo.length != 256) with
  |true=>simp only[go_sem,zO,if_true]
  |false =>
  simp only[go_sem,zT,zF,Y2 j,Loc.cells,zB,zE,YI,AC]
  cases K:(L.up.length != 256) with
  |true=>simp only[go_sem,if_true]
  |false =>
  simp only[go_sem,zD,if_false,Zgl,zF,Y2 j,Loc.cells,zB,zE,(ZkX A hok.cls hok.ncls H).2];unfold OT
  cases z:(HC L.cls != 0) with
  |true=>simp only[go_sem,if_true]
  |false=>simp only[go_sem,zD,if_false,Zgm,zF,Y2 j,Loc.cells,zB,zE,(Zlh C hok.els hok.nels H).2]
 |succ k E =>
  intro i hk hi;rw[SU];have h:i<L.w.length:=by omega
  have g:decide ((i:Int)<256)=true:=by simp;omega
  have hw:xZ.wrap ((i:Int)+1)=((i+1:Nat):Int):=by rw[Zr (by omega) (by omega)];omega
  simp only[go_sem,g,Zgn,zF,Y2 j,Loc.cells,zB,zE,hx.ints h,Zz,Zhm,xW];rw[zH h,xT];have e:(decide (L.w[i]<0) || decide (65535<L.w[i]))=Zg2 L.w[i]:=rfl;rw[e]
  cases z:Zg2 L.w[i] with
  |true=>simp only[go_sem,zO,if_true]
  |false =>
   simp only[go_sem,zT,Zgo,hw];exact E (i+1) (by omega) (by omega)
theorem Zqj {a:AV}{L:Loc}(h:LocAV a L)(hok:LocOk L)(H:Hp):∃ H',PA [a] H=some (wA J (Wc L),H'):=by
 obtain⟨x,c,e,rfl,hx,u,z⟩:=h;rw[Zi2];unfold Zeo Wc;have hlen:=hx.len 3;rw[zP]at hlen;have A:=VB H (.cells (L.cells x c e));simp only[go_sem,zF,ZH,Loc.cells,zB,zE,ZhG L.name hok.name]
 cases hn:Vt L.name with
 |false=>simp only[go_sem,zU,zD,if_false];exact⟨_,rfl⟩
 |true =>
 simp only[go_sem,yB,if_true,Zgi,zF,ZH,zB,zE,hlen,AC]
 cases j:(L.w.length != 256) with
 |true=>simp only[go_sem,zO,if_true];exact⟨_,rfl⟩
 |false =>
 have g:L.w.length=256:=by simpa using j
 have:=Zqi hx u z hok g H (H++[.cells (L.cells x c e)]) A 256 0 (by omega) (by omega);rw[show ((0:Nat):Int)=0 from rfl,zQ]at this;simp only[Loc.cells]at this;simp only[go_sem,zT,Zgj,this];refine⟨_,congrArg some (Prod.ext (congrArg (zN .i64) ?_) rfl)⟩;cases B:(L.lo.length != 256 || L.up.length != 256) <;> cases C:L.w.any Zg2 <;> simp
theorem Zjo {a:AV}{L:Loc}(h:LocAV a L)(hok:LocOk L)(H:Hp):Zf GE [a] H=some (wA J (Wc L),H)/\Zf PA [a] H=some (wA J (Wc L),H):=by
 obtain⟨a',g,j⟩:=h.close [] 0 5;obtain⟨H',w⟩:=Zs4 j hok [];obtain⟨u,z⟩:=Zqj j hok [];exact⟨XI g w rfl,XI g z rfl⟩
set_option maxRecDepth 1000000
def defL:Loc:={
 name:=[112,111,115,105,120]
 w:=(yQ 256).map Int.ofNat
 lo:=(yQ 256).map fun n=>yG (if 65<=n/\n<=90 then n+32 else n)
 up:=(yQ 256).map fun n=>yG (if 97<=n/\n<=122 then n-32 else n)
 cls:=[]
 els:=[] }
def ZcW:List AV->Option (List Int)
 |[]=>some []
 |wA J n::r=>match ZcW r with
  |some l=>some (n::l)
  |none=>none
 |_=>none
theorem Znn:∀ {l:List AV} {r:List Int},ZcW l=some r->l=r.map (zN .i64):=by
 intro l
 induction l with
 |nil=>intro r h;simp[ZcW]at h;subst h;rfl
 |cons a l w =>
  intro r h;unfold ZcW at h;split at h
  ·rename_i g;cases g
  ·rename_i n z g;injection g with j u;subst j u;split at h
   ·rename_i m hm;injection h with h;subst h;rw[w hm];rfl
   ·cases h
  ·cases h
def Zkq (L:Loc)(r:Z4):Bool :=
 match r with
 |some (v,H1)=>match Zd H1 0 9 v with
  |some (.agg [.str n,.vs 1 .no l,.str lo,.str up,.nils,.nils])=>n==L.name&&(ZcW l==some L.w&&(lo==L.lo&&(up==L.up&&(L.cls.isEmpty&&L.els.isEmpty))))
  |_=>false
 |none=>false
theorem Zhj {f:List AV->Hp->Z4}{L:Loc}{x:Z4}(hx:Zkq L x=true)(C:∀ r,x=some r->f [] []=some r)(H:Hp):∃ a,Zf f [] H=some (a,H)/\LocAV a L:=by
 unfold Zkq at hx;split at hx
 ·rename_i v H1;split at hx
  ·rename_i n l lo up g;simp only[yN,beq_iff_eq,List.isEmpty_iff]at hx;obtain⟨h,j,u,w,z,A⟩:=hx;have B:=C _ rfl;refine⟨.agg [.str n,.vs 1 .no l,.str lo,.str up,.nils,.nils],?_,.vs 1 .no l,.nils,.nils,?_,.inr ⟨.no,?_⟩,.inl ⟨rfl,by rw[z];rfl⟩,.inl ⟨rfl,by rw[A];rfl⟩⟩
   ·unfold Zf;simp only[yU];show (match f [] [] with|some (v,H1)=>_|none=>_)=_;rw[B];simp only[g]
   ·rw[h,u,w];rfl
   ·rw[Znn j]
  ·cases hx
 ·cases hx
theorem YV {α:Type}{x:Option α}{f g:α->Z4}{r:AV×Hp}(h:∀ a,f a=some r->g a=some r):Z0 x f=some r->Z0 x g=some r:=by
 cases x with
 |none=>exact id
 |some a=>exact h a
theorem AF {c:AV}{x y g h:Z4}{r:AV×Hp}(j:x=some r->g=some r)(u:y=some r->h=some r):Zj c x y=some r->Zj c g h=some r:=by
 unfold Zj;split
 ·split
  ·exact j
  ·exact u
 ·exact id
def dfD (k:AV->AV->AV->Hp->Z4)(u z A w B C:AV)(H:Hp):Z4 :=
 Z0 (Z7 1 u) fun a =>
 Z0 (Z3 false 1 a H) fun b =>
 Z0 ((ZA 1 [(0,w)] [(wA J 0)]).map (.vs 1 .clip)) fun c =>
 Z0 (Y7 1 8 b c H) fun d =>
 Z0 (Z7 1 u) fun e =>
 Z0 (Zb 1 e d.1 d.2) fun f =>
 Z0 ((ZA 1 [(0,B)] [(.int .u8 0)]).map (.vs 1 .clip)) fun g =>
 Z0 (Y7 1 1 z g f.2) fun h =>
 Z0 ((ZA 1 [(0,C)] [(.int .u8 0)]).map (.vs 1 .clip)) fun i =>
 Z0 (Y7 1 1 A i h.2) fun j =>
 Z0 (Z5 .add w (wA J 1)) fun l =>
 k h.1 j.1 l j.2
def dfC (k:AV->AV->AV->Hp->Z4)(h j u g w z:AV)(H:Hp):Z4 :=
 Z0 (Z5 .geq g (wA J 97)) fun a =>
 Z0 (Z8 a true ak (some g)) fun b =>
 Z0 (Z8 a true ak (Z5 .leq b (wA J 122))) fun c =>
 Z0 (Zi a c (.bool false)) fun d =>
 Zj d (Z0 (Z5 .sub g (wA J 32)) fun e=>Z0 (Yv .u8 e) fun f=>dfD k h j u g w f H) (dfD k h j u g w z H)
def dfB (k:AV->AV->AV->Hp->Z4)(h j u g:AV)(H:Hp):Z4 :=
 Z0 (Yv .u8 g) fun z =>
 Z0 (Yv .u8 g) fun w =>
 Z0 (Z5 .geq g (wA J 65)) fun a =>
 Z0 (Z8 a true ak (some g)) fun b =>
 Z0 (Z8 a true ak (Z5 .leq b (wA J 90))) fun c =>
 Z0 (Zi a c (.bool false)) fun d =>
 Zj d (Z0 (Z5 .add g (wA J 32)) fun e=>Z0 (Yv .u8 e) fun f=>dfC k h j u g f w H) (dfC k h j u g z w H)
def dfA (u j w z:AV)(H:Hp):Z4 :=
 Z0 (UG w H) fun a =>
 Z0 (Z7 2 j) fun b =>
 Z0 (Zb 1 b a H) fun c =>
 Z0 (UG z c.2) fun d =>
 Z0 (Z7 3 j) fun e =>
 Z0 (Zb 1 e d c.2) fun f =>
 Z0 (Z3 true 6 j f.2) fun g =>
 Z0 (Zb 6 u g f.2) fun h =>
 Z0 (Z3 true 6 u h.2) fun i =>
 some (i,h.2)
def dfL (h g:AV):Nat->AV->AV->AV->Hp->Z4
 |0,_,_,_,_=>none
 |n+1,x2,x3,x4,H=>Z0 (Z5 .lss x4 (wA J 256)) fun t=>Zj t (dfB (dfL h g n) g x2 x3 x4 H) (dfA h g x2 x3 H)
theorem Zrt {k k':AV->AV->AV->Hp->Z4}{r:AV×Hp}(h:∀ a b c H,k a b c H=some r->k' a b c H=some r)(g j u w z A:AV)(H:Hp):dfD k g j u w z A H=some r->dfD k' g j u w z A H=some r:=by
 unfold dfD;repeat refine YV fun _=>?_
 exact h _ _ _ _
theorem Zrr {k k':AV->AV->AV->Hp->Z4}{r:AV×Hp}(h:∀ a b c H,k a b c H=some r->k' a b c H=some r)(g j u w z A:AV)(H:Hp):dfC k g j u w z A H=some r->dfC k' g j u w z A H=some r:=by
 unfold dfC;repeat refine YV fun _=>?_
 exact AF (YV fun _=>YV fun _=>Zrt h _ _ _ _ _ _ _) (Zrt h _ _ _ _ _ _ _)
theorem Zxs {k k':AV->AV->AV->Hp->Z4}{r:AV×Hp}(h:∀ a b c H,k a b c H=some r->k' a b c H=some r)(g j u w:AV)(H:Hp):dfB k g j u w H=some r->dfB k' g j u w H=some r:=by
 unfold dfB;repeat refine YV fun _=>?_
 exact AF (YV fun _=>YV fun _=>Zrr h _ _ _ _ _ _ _) (Zrr h _ _ _ _ _ _ _)
theorem Zxu (g j:AV)(A:Hp){r:AV×Hp}:∀ (n:Nat) (u w z:AV) (H:Hp),dfL g j n u w z H=some r->QY g j u w z A H=some r:=by
 intro n
 induction n with
 |zero=>intro _ _ _ _ h;cases h
 |succ n B =>
  intro u w z H h;rw[Ze4];simp only[ZdZ,Ze0,Ze2,Ze3,Ze1];exact YV (fun _=>AF (Zxs (k':=fun a b c H=>QY g j a b c A H) B _ _ _ _ _) id) h
def dfR:Z4 :=
 Z0 ((YD [(0,1,(.str [112,111,115,105,120]))] [(.str []),.nils,(.str []),(.str []),.nils,.nils]).map .agg) fun a =>
 Z0 (Zb 6 (.ptr 1 0) a [.cells [(.str []),.nils,(.str []),(.str []),.nils,.nils],.cells [(.str []),.nils,(.str []),(.str []),.nils,.nils]]) fun b =>
 dfL (.ptr 0 0) (.ptr 1 0) 300 .nils .nils (wA J 0) b.2
theorem Zwp:Zkq defL dfR=true:=by kernel_rfl
theorem F7 (H:Hp):∃ a,Zf UN [] H=some (a,H)/\LocAV a defL:=Zhj Zwp (fun r h=>by
 rw[Zf6];unfold Za0;simp only[WZ];unfold dfR at h;exact YV (fun _=>YV fun _=>Zxu _ _ _ _ _ _ _ _) h) H
def shA (g:AV)(H:Hp):Z4:=Z0 (UG g H) fun a=>some (a,H)
def shB (k:AV->Hp->Z4)(z A B w u:AV)(H:Hp):Z4 :=
 Z0 (Yv .u8 u) fun a =>
 Z0 (Zo 1 w u) fun b =>
 Z0 (Zb 1 b a H) fun c =>
 Z0 (Yv .u8 u) fun d =>
 Z0 (Z5 .geq d z) fun e =>
 Z0 (Z8 e true ak (some u)) fun f =>
 Z0 (Z8 e true ak (Yv .u8 f)) fun g =>
 Z0 (Z8 e true ak (some A)) fun h =>
 Z0 (Z8 e true ak (Z5 .leq g h)) fun i =>
 Z0 (Zi e i (.bool false)) fun j =>
 Zj j (Z0 (Z5 .add u B) fun l=>Z0 (Yv .u8 l) fun m=>Z0 (Zo 1 w u) fun n=>Z0 (Zb 1 n m c.2) fun o=>Z0 (Z5 .add u (wA J 1)) fun p=>k p o.2) (Z0 (Z5 .add u (wA J 1)) fun p=>k p c.2)
def shL (j u w h g:AV):Nat->AV->Hp->Z4
 |0,_,_=>none
 |n+1,x12,H=>Z0 (Z5 .lss x12 g) fun t=>Zj t (shB (shL j u w h g n) j u w h x12 H) (shA h H)
theorem ZxW (w z A B j:AV)(C:Hp){r:AV×Hp}:∀ (n:Nat) (g:AV) (H:Hp),shL w z A B j n g H=some r->QL w z A B j g C H=some r:=by
 intro n
 induction n with
 |zero=>intro _ _ h;cases h
 |succ n u =>
  intro g H h;rw[Oy];simp only[Ov,Ow,Ox];refine YV (fun _=>AF ?_ id) h;unfold shB;repeat refine YV fun _=>?_
  exact AF (YV fun _=>YV fun _=>YV fun _=>YV fun _=>YV fun _=>u _ _) (YV fun _=>u _ _)
def shR (a b c:AV):Z4 :=
 Z0 (Js 1 1 false (.int .u8 0) (wA J 256) (wA J 256) []) fun r=>Z0 (Zk (.slice 5) r.1) fun t=>shL a b c r.1 t 300 (wA J 0) r.2
def ZvS (s:List UInt8)(r:Z4):Bool:=match r with
 |some (.str t,_)=>t==s
 |_=>false
theorem Zmf {a b c:AV}{s:List UInt8}(ha:[a,b,c].mapM (Zd [] 0 9)=some [a,b,c])(h:ZvS s (shR a b c)=true)(H:Hp):Zf WX [a,b,c] H=some (.str s,H):=by
 unfold ZvS at h;split at h
 ·rename_i t H1 g;have:=eq_of_beq h;subst this;refine Ws ha (H1:=H1) ?_ rfl;rw[ZaC];unfold LI;unfold shR at g;exact YV (fun _=>YV fun _=>ZxW _ _ _ _ _ _ _ _ _) g
 ·cases h
theorem Zyg (H:Hp):Zf WX [(.int .u8 65),(.int .u8 90),(wA J 32)] H=some (.str defL.lo,H):=Zmf rfl (by kernel_rfl) H
theorem Zyh (H:Hp):Zf WX [(.int .u8 97),(.int .u8 122),(wA J (-32))] H=some (.str defL.up,H):=Zmf rfl (by kernel_rfl) H
def dgA (g h:AV)(H:Hp):Z4 :=
 Z0 ((YD [(0,1,(.str [112,111,115,105,120])),(1,1,h),(2,1,.str defL.lo),(3,1,.str defL.up)] [(.str []),.nils,(.str []),(.str []),.nils,.nils]).map .agg) fun a =>
 Z0 (Zb 6 g a H) fun b=>Z0 (Z3 true 6 g b.2) fun c=>some (c,b.2)
def dgL (h g j:AV):Nat->AV->Hp->Z4
 |0,_,_=>none
 |n+1,x6,H=>Z0 (Z5 .lss x6 j) fun t=>Zj t (Z0 (Zo 1 g x6) fun a=>Z0 (Zb 1 a x6 H) fun b=>Z0 (Z5 .add x6 (wA J 1)) fun c=>dgL h g j n c b.2) (dgA h g H)
theorem Zxw (j u w:AV)(z:Hp){r:AV×Hp}:∀ (n:Nat) (g:AV) (H:Hp),dgL j u w n g H=some r->QI j u w g z H=some r:=by
 intro n
 induction n with
 |zero=>intro _ _ h;cases h
 |succ n A =>
  intro g H h;rw[Ou];simp only[Oo,Oq,Ot,Zyg,Zyh,WZ];exact YV (fun _=>AF (YV fun _=>YV fun _=>YV fun _=>A _ _) id) h
def dgR:Z4 :=
 Z0 (Js 1 8 false (wA J 0) (wA J 256) (wA J 256) [.cells [(.str []),.nils,(.str []),(.str []),.nils,.nils]]) fun r=>Z0 (Zk (.slice 3) r.1) fun t=>dgL (.ptr 0 0) r.1 t 300 (wA J 0) r.2
theorem Zwq:Zkq defL dgR=true:=by kernel_rfl
theorem Zl9 (H:Hp):∃ a,Zf F9 [] H=some (a,H)/\LocAV a defL:=Zhj Zwq (fun r h=>by
 rw[ZaB];unfold LG;simp only[WZ];unfold dgR at h;exact YV (fun _=>YV fun _=>Zxw _ _ _ _ _ _ _) h) H
theorem ZgK:∀ (n:Nat) (l:List AV),l.length=n->Uf false 1 n l=l:=by
 intro n
 induction n with
 |zero=>intro l h;simp at h;subst h;rfl
 |succ n g =>
  intro l h
  cases l with
  |nil=>simp at h
  |cons a l =>
   have:l.length=n:=by simpa using h
   unfold Uf;simp[g l this]
theorem Zup (l:List Int):((l.map (zN .i64)).map zV).flatten=l.map (zN .i64):=by
 induction l with
 |nil=>rfl
 |cons a l g=>simp[zV]at g ⊢;exact g
theorem Ztv (bytes:Nat)(hb:256*(bytes+1)<=140737488355328)(z:AV)(j:z.known=true)(g:z.cells.length=1)(H:Hp):Js 1 bytes false z (wA J 256) (wA J 256) H=some (.rs false 1 H.length 0 256 256,H++[.cells ((xG 256 z.cells).flatten)]):=by
 have h:X9 256 bytes=true:=by simpa[X9]using hb
 unfold Js;simp only;rw[if_pos ⟨by decide,by decide,j,g,by decide,h⟩,if_neg (by decide)];rfl
theorem Zuc {k:Nat}{x:AV}{l:List AV}(h:Sl k x l)(H:Hp):elems k x H=some l:=by
 rcases h with ⟨rfl,rfl⟩|⟨tok,rfl⟩
 ·rfl
 ·simp[elems]
theorem ZqQ {x:AV}{l:List Int}(h:Sl 1 x (l.map (zN .i64))){H:Hp}{o n:Nat}{z:List AV}(j:H[o]?=some (.cells z))(u:z.length=n)(g:l.length=n)(hn:0<n) :
 SZ 1 (.rs false 1 o 0 n n) x H=some (wA J n,H.set o (.cells (l.map (zN .i64)))):=by
 unfold SZ;simp only[Zuc h H];rw[if_neg (by intro e;have:=congrArg List.length e;simp at this;simp[this]at g;omega),if_pos (by simp;omega)];simp only[j];rw[if_pos (by simp;omega)];simp only[zP,g,splice,yM,zI,Zup];rw[zG.2 (by simp;omega)];simp
theorem Zrj (H:Hp)(n f:Nat)(ag:Bool)(k o off len cap:Nat):Zd H n (f+1) (.rs ag k o off len cap)=if o<n then some (.rs ag k o off len cap) else
 match elems k (.rs ag k o off len cap) H with
 |some l=>match l.mapM (Zd H n f) with
  |some l=>some (.vs k .no l)
  |none=>none
 |none=>none:=(Eq.refl _).trans (Eq.refl _)
def Ye (L:Loc):Loc:=if (Wc L != 0)=true then defL else L
theorem Pc {f:List AV->Hp->Z4}{a a' v v':AV}{H H1:Hp}(ha:Zd [] 0 9 a=some a')(g:f [a'] []=some (v,H1))(h:Zd H1 0 9 v=some v'):Zf f [a] H=some (v',H):=by
 unfold Zf;simp[ha,g,h]
theorem checked {L:Loc}(h:(Wc L != 0)=false):L.w.length=256/\L.lo.length=256/\L.up.length=256:=by
 simp only[Wc,bne_eq_false_iff_eq]at h;split at h
 ·split at h
  ·cases h
  ·rename_i g;simp only[yP,bne_iff_ne,ne_eq,not_or,Decidable.not_not]at g;exact g
 ·cases h
theorem CA {H1:Hp}{x c e g:AV}{L:Loc}(hx:Zd H1 0 8 x=some g)(B:Sl 1 g (L.w.map (zN .i64)))(C:Sl 5 c (L.cls.map QA))(D:Sl 2 e (L.els.map D2)) :
 ∃ a',Zd H1 0 9 (.agg (L.cells x c e))=some a'/\LocAV a' L:=by
 obtain⟨c',j,u⟩:=C.close (H:=H1) (n:=0) (f:=7) (fun y hy=>by obtain⟨m,_,rfl⟩:=zR.1 hy;exact C4 m H1 0 5);obtain⟨h,z,A⟩:=D.close (H:=H1) (n:=0) (f:=7) (fun y hy=>by obtain⟨m,_,rfl⟩:=zR.1 hy;exact IX m H1 0 5);refine⟨.agg (L.cells g c' h),?_,g,c',h,rfl,B,u,A⟩
 have:(L.cells x c e).mapM (Zd H1 0 8)=some (L.cells g c' h):=by
  simp only[Loc.cells,xF,hx,j,z,yU];rfl
 rw[Kr,this]
theorem ZhU {a:AV}{L:Loc}(h:LocAV a L)(hok:LocOk L)(H:Hp):∃ a',Zf U5 [a] H=some (a',H)/\LocAV a' (Ye L):=by
 obtain⟨a1,h1,h2⟩:=h.close [] 0 5;have C:=fun H=>(Zjo h2 hok H).1;obtain⟨x,c,e,rfl,hx,hc,he⟩:=h2;obtain⟨d,M,N⟩:=Zl9 [zA (L.cells x c e),.cells [(.str []),.nils,(.str []),(.str []),.nils,.nils]];unfold Ye
 cases hb:(Wc L != 0) with
 |true =>
  obtain⟨A,j,u,rfl,R,O,Q⟩:=N
  have g:U5 [.agg (L.cells x c e)] []=some (.agg (defL.cells A j u),[zA (L.cells x c e),.cells (defL.cells A j u)]):=by
   rw[M9];unfold TX;have T:Z3 true 6 (.ptr 0 0) [zA (L.cells x c e),.cells [(.str []),.nils,(.str []),(.str []),.nils,.nils]]=some (.agg (L.cells x c e)):=by simp[Z3,Go.Am.apart,Loc.cells]
   have ab:Zb 6 (.ptr 1 0) (.agg (defL.cells A j u)) [zA (L.cells x c e),.cells [(.str []),.nils,(.str []),(.str []),.nils,.nils]]=some (.tuple [],[zA (L.cells x c e),.cells (defL.cells A j u)]):=by simp[Zb,YU,yF,zV,Loc.cells,splice]
   have V:Z3 true 6 (.ptr 1 0) [zA (L.cells x c e),.cells (defL.cells A j u)]=some (.agg (defL.cells A j u)):=by simp[Z3,Go.Am.apart,Loc.cells]
   simp only[go_sem,zI,zJ,zL,zM,zF,T,C,hb,M,ab,V]
  obtain⟨ac,E,F⟩:=R.close (H:=[zA (L.cells x c e),.cells (defL.cells A j u)]) (n:=0) (f:=7) (fun y hy=>by obtain⟨m,_,rfl⟩:=zR.1 hy;rfl);obtain⟨a',q1,q2⟩:=CA E F O Q;exact⟨a',Pc h1 g q1,by simpa using q2⟩
 |false =>
  obtain⟨hw,ad,ae⟩:=checked hb
  have g:U5 [.agg (L.cells x c e)] []=some (.agg (L.cells (.rs false 1 2 0 256 256) c e),[zA (L.cells (.rs false 1 2 0 256 256) c e),.cells (L.cells (.rs false 1 2 0 256 256) c e),.cells (L.w.map (zN .i64))]):=by
   rw[M9];unfold TX;have T:Z3 true 6 (.ptr 0 0) [zA (L.cells x c e),.cells [(.str []),.nils,(.str []),(.str []),.nils,.nils]]=some (.agg (L.cells x c e)):=by simp[Z3,Go.Am.apart,Loc.cells]
   have B:=Ztv 8 (by decide) (wA J 0) rfl rfl [zA (L.cells x c e),.cells [(.str []),.nils,(.str []),(.str []),.nils,.nils]];have K:((xG 256 (zN .i64 0).cells).flatten).length=256:=by simp[zV]
   generalize ((xG 256 (zN .i64 0).cells).flatten)=z at B K;simp only[zL,zJ,zM,zI]at B;have U:Z3 false 1 (.ptr 0 1) [zA (L.cells x c e),.cells [(.str []),.nils,(.str []),(.str []),.nils,.nils],.cells z]=some x:=by simp[Z3,Go.Am.apart,Loc.cells]
   have D:=ZqQ hx (H:=[zA (L.cells x c e),.cells [(.str []),.nils,(.str []),(.str []),.nils,.nils],.cells z]) (o:=2) rfl K hw (by omega);simp only[List.set_cons_succ,xJ]at D;have Z:Zb 1 (.ptr 0 1) (.rs false 1 2 0 256 256) [zA (L.cells x c e),.cells [(.str []),.nils,(.str []),(.str []),.nils,.nils],.cells (L.w.map (zN .i64))]=some (.tuple [],[zA (L.cells (.rs false 1 2 0 256 256) c e),.cells [(.str []),.nils,(.str []),(.str []),.nils,.nils],.cells (L.w.map (zN .i64))]):=by simp[Zb,YU,yF,zV,Loc.cells,splice]
   have W:Z3 true 6 (.ptr 0 0) [zA (L.cells (.rs false 1 2 0 256 256) c e),.cells [(.str []),.nils,(.str []),(.str []),.nils,.nils],.cells (L.w.map (zN .i64))]=some (.agg (L.cells (.rs false 1 2 0 256 256) c e)):=by simp[Z3,Go.Am.apart,Loc.cells]
   have aa:Zb 6 (.ptr 1 0) (.agg (L.cells (.rs false 1 2 0 256 256) c e)) [zA (L.cells (.rs false 1 2 0 256 256) c e),.cells [(.str []),.nils,(.str []),(.str []),.nils,.nils],.cells (L.w.map (zN .i64))]=some (.tuple [],[zA (L.cells (.rs false 1 2 0 256 256) c e),.cells (L.cells (.rs false 1 2 0 256 256) c e),.cells (L.w.map (zN .i64))]):=by simp[Zb,YU,yF,zV,Loc.cells,splice]
   have X:Z3 true 6 (.ptr 1 0) [zA (L.cells (.rs false 1 2 0 256 256) c e),.cells (L.cells (.rs false 1 2 0 256 256) c e),.cells (L.w.map (zN .i64))]=some (.agg (L.cells (.rs false 1 2 0 256 256) c e)):=by simp[Z3,Go.Am.apart,Loc.cells]
   simp only[go_sem,zI,zJ,zL,zM,zF,T,C,hb,Zda,B,U,D,Z,W,aa,X]
  have Y:Zd [zA (L.cells (.rs false 1 2 0 256 256) c e),.cells (L.cells (.rs false 1 2 0 256 256) c e),.cells (L.w.map (zN .i64))] 0 8 (.rs false 1 2 0 256 256)=some (.vs 1 .no (L.w.map (zN .i64))):=by
   have S:elems 1 (.rs false 1 2 0 256 256) [zA (L.cells (.rs false 1 2 0 256 256) c e),.cells (L.cells (.rs false 1 2 0 256 256) c e),.cells (L.w.map (zN .i64))]=some (L.w.map (zN .i64)):=by
    simp[elems,hw];exact ZgK 256 _ (by simp[hw])
   rw[Zrj,if_neg (by omega),S];simp only;rw[AR (fun y hy=>by obtain⟨m,_,rfl⟩:=zR.1 hy;rfl)]
  obtain⟨a',q1,q2⟩:=CA Y (.inr ⟨.no,rfl⟩) hc he;exact⟨a',Pc h1 g q1,by simpa using q2⟩
theorem ZnH {a:AV}{L:Loc}(h:LocAV a L)(hok:LocOk L)(H:Hp):∃ a',Zf De [a] H=some (a',H)/\LocAV a' (Ye L):=by
 obtain⟨Z,T,U⟩:=h.close [] 0 5;have B:=fun H=>(Zjo U hok H).2;obtain⟨x,c,e,rfl,hx,X,Y⟩:=U;obtain⟨d,E,F⟩:=F7 [zA (L.cells x c e),.cells [(.str []),.nils,(.str []),(.str []),.nils,.nils]];unfold Ye;have V:Z3 true 6 (.ptr 0 0) [zA (L.cells x c e),.cells [(.str []),.nils,(.str []),(.str []),.nils,.nils]]=some (.agg (L.cells x c e)):=by simp[Z3,Go.Am.apart,Loc.cells]
 cases hb:(Wc L != 0) with
 |true =>
  obtain⟨w,j,u,rfl,N,K,M⟩:=F
  have g:De [.agg (L.cells x c e)] []=some (.agg (defL.cells w j u),[zA (L.cells x c e),.cells (defL.cells w j u)]):=by
   rw[Aa];unfold Hg;have A:Zb 6 (.ptr 1 0) (.agg (defL.cells w j u)) [zA (L.cells x c e),.cells [(.str []),.nils,(.str []),(.str []),.nils,.nils]]=some (.tuple [],[zA (L.cells x c e),.cells (defL.cells w j u)]):=by simp[Zb,YU,yF,zV,Loc.cells,splice]
   have z:Z3 true 6 (.ptr 1 0) [zA (L.cells x c e),.cells (defL.cells w j u)]=some (.agg (defL.cells w j u)):=by simp[Z3,Go.Am.apart,Loc.cells]
   simp only[go_sem,zI,zJ,zL,zM,zF,V,B,hb,E,A,z]
  obtain⟨W,C,D⟩:=N.close (H:=[zA (L.cells x c e),.cells (defL.cells w j u)]) (n:=0) (f:=7) (fun y hy=>by obtain⟨m,_,rfl⟩:=zR.1 hy;rfl);obtain⟨a',R,S⟩:=CA C D K M;exact⟨a',Pc T g R,by simpa using S⟩
 |false =>
  have g:De [.agg (L.cells x c e)] []=some (.agg (L.cells x c e),[zA (L.cells x c e),.cells (L.cells x c e)]):=by
   rw[Aa];unfold Hg;have A:Zb 6 (.ptr 1 0) (.agg (L.cells x c e)) [zA (L.cells x c e),.cells [(.str []),.nils,(.str []),(.str []),.nils,.nils]]=some (.tuple [],[zA (L.cells x c e),.cells (L.cells x c e)]):=by simp[Zb,YU,yF,zV,Loc.cells,splice]
   have z:Z3 true 6 (.ptr 1 0) [zA (L.cells x c e),.cells (L.cells x c e)]=some (.agg (L.cells x c e)):=by simp[Z3,Go.Am.apart,Loc.cells]
   simp only[go_sem,zI,zJ,zL,zM,zF,V,B,hb,Zgp,A,z]
  obtain⟨x',O,Q⟩:=hx.close (H:=[zA (L.cells x c e),.cells (L.cells x c e)]) (n:=0) (f:=7) (fun y hy=>by obtain⟨m,_,rfl⟩:=zR.1 hy;rfl);obtain⟨a',R,S⟩:=CA O Q X Y;exact⟨a',Pc T g R,by simpa using S⟩
def J2 (b:UInt8):AV:=.int .u8 b.toNat
def Vk (t s:List UInt8):List UInt8:=s.map fun b=>t.getD b.toNat 0
theorem ZeJ:∀ s:List UInt8,V0 (s.map J2)=some s:=by
 intro s
 induction s with
 |nil=>rfl
 |cons b l g =>
  show (match V0 (l.map J2) with|some l=>some (yG (b.toNat:Int).toNat::l)|none=>none)=_;rw[g];simp
theorem Zof {t:List UInt8}(g:t.length=256)(b:UInt8):Zx (.str t) (.int .u8 b.toNat)=some (.int .u8 (t.getD b.toNat 0).toNat):=by
 have hb:b.toNat<t.length:=by rw[g];exact b.toNat_lt
 simp[Zx,zC hb,yR]
theorem Zy3 (o e n:Nat){i:Nat}(hi:i<n):Zo 1 (.ws false 1 o e n) (wA J (i:Int))=some (.wp o e i):=by
 simp[Zo,hi]
theorem ZsU (e:Nat)(l:List AV)(i:Nat):Z3 false 1 (.wp 0 e i) [yI e l]=l[i]?:=by simp[Z3,Go.Am.apart]
theorem Zqn (e:Nat)(l:List AV){i:Nat}(hi:i<l.length)(v:AV)(hk:v.known=true)(g:v.cells.length=1):Zb 1 (.wp 0 e i) v [yI e l]=some (.tuple [],[yI e (splice l i v.cells)]):=by
 unfold Zb YU;simp only[zB];rw[if_pos ⟨trivial,hk,g,by omega⟩];rfl
theorem ZpU (a:List AV)(x y:AV)(b:List AV):splice (a++x::b) a.length [y]=a++y::b:=by
 unfold splice;simp
theorem Znv {t:List UInt8}(D:t.length=256)(s:List UInt8)(F:s.length<=4611686018427387904)(A:Hp):∀ (r done:List UInt8),s=done++r ->
 JG (.str t) (.ws false 1 0 0 s.length) (wA J (s.length:Int)) (wA J (done.length:Int)) A [yI 0 ((Vk t done).map J2++r.map J2)]=some (.str (Vk t s),[yI 0 ((Vk t s).map J2)]):=by
 intro r
 induction r with
 |nil =>
  intro done u;obtain rfl:done=s:=by rw[u,yA]
  rw[Tv];have g:decide ((done.length:Int)<(done.length:Int))=false:=by simp
  have w:J3 (.ws false 1 0 0 done.length) [yI 0 ((Vk t done).map J2)]=some ((Vk t done).map J2):=by
   simp[J3,elems,Vk];exact ZgK _ _ (by simp)
  have C:UG (.ws false 1 0 0 done.length) [yI 0 ((Vk t done).map J2)]=some (.str (Vk t done)):=by
   unfold UG;simp only[Jc,w,ZeJ]
  simp only[go_sem,g,ZaP,xY,yA,C]
 |cons b r E =>
  intro done u;rw[Tv];have B:done.length<s.length:=by rw[u];simp
  have g:decide ((done.length:Int)<(s.length:Int))=true:=by simp;omega
  have hw:xZ.wrap ((done.length:Int)+1)=((done.length+1:Nat):Int):=by rw[Zr (by omega) (by omega)];omega
  have j:((Vk t done).map J2).length=done.length:=by simp[Vk]
  have h:((Vk t done).map J2++(b::r).map J2)[done.length]?=some (.int .u8 b.toNat):=by
   rw[zZ (by omega),j];simp[J2]
  have z:Zb 1 (.wp 0 0 done.length) (.int .u8 (t.getD b.toNat 0).toNat) [yI 0 ((Vk t done).map J2++(b::r).map J2)]=some (.tuple [],[yI 0 ((Vk t (done++[b])).map J2++r.map J2)]):=by
   rw[Zqn 0 _ (by simp[Vk]) _ rfl rfl];have:=ZpU ((Vk t done).map J2) (J2 b) (.int .u8 (t.getD b.toNat 0).toNat) (r.map J2);rw[j]at this;simp only[yT,zV];rw[this];simp[Vk,J2]
  have:=E (done++[b]) (by rw[u];simp);rw[zY,zX]at this;simp only[go_sem,g,ZaQ,Zy3 0 0 s.length B,ZsU,h,Zof D,z,ZaR,hw];exact this
theorem Znu {t:List UInt8}(j:t.length=256)(s:List UInt8)(h:s.length<=4611686018427387904)(H:Hp):Zf FY [.str t,.str s] H=some (.str (Vk t s),H):=by
 refine F1 (a':=.str t) (b':=.str s) (H1:=[yI 0 ((Vk t s).map J2)]) rfl rfl ?_ rfl;rw[Zbt];unfold SJ;have:=Znv j s h [] s [] rfl;simp only[zJ,Vk,xY,zI]at this;have e:IK (.str s) []=some (.ws false 1 0 0 s.length,[yI 0 (s.map J2)]):=rfl;have g:Zk (.slice 5) (.ws false 1 0 0 s.length)=some (wA J s.length):=rfl;simp only[e,g,go_sem];exact this
theorem ZxO (b:UInt8):(ZA 1 [(0,zN .u8 b.toNat)] [(.int .u8 0)]).map (AV.vs 1 .clip)=some (.vs 1 .clip [J2 b]):=rfl
theorem Zx0 {n:Nat}{H:Hp}{x:AV}{s:List UInt8}(h:RowN n H 1 x (s.map J2)):UG x H=some (.str s):=by
 rcases h with ⟨rfl,h⟩|⟨t,e,rfl,_⟩
 ·have:s=[]:=by cases s with
   |nil=>rfl
   |cons a l=>simp at h
  subst this;rfl
 ·unfold UG Jc;simp only[if_true,ZeJ]
theorem Zm8 {t:List UInt8}(z:t.length=256)(s:List UInt8)(D:s.length<=1048576)(j:Hp):∀ (r done:List UInt8) (x:AV) (H:Hp),s=done++r->RowN 0 H 1 x ((Vk t done).map J2) ->
 ∃ H',DY (.str t) (.str s) x (wA J (done.length:Int)) j H=some (.str (Vk t s),H'):=by
 intro r
 induction r with
 |nil =>
  intro done x H h hx;rw[yA]at h;subst h;rw[LW];have g:decide ((s.length:Int)<(s.length:Int))=false:=by simp
  simp only[go_sem,YI,g,Zfh,Zx0 hx];exact⟨_,rfl⟩
 |cons b r A =>
  intro done x H h hx;rw[LW];have C:done.length<s.length:=by rw[h];simp
  have g:decide ((done.length:Int)<(s.length:Int))=true:=by simp;omega
  have hw:xZ.wrap ((done.length:Int)+1)=((done.length+1:Nat):Int):=by rw[Zr (by omega) (by omega)];omega
  have hb:s[done.length]?=some b:=by rw[h,zZ (by omega)];simp
  obtain⟨B,H',u,w,_,_,_⟩:=hx.app (xC _) 1 (.vs 1 .clip [J2 (t.getD b.toNat 0)]) [J2 (t.getD b.toNat 0)] (by simp[elems]) (by simp[Vk];omega);simp only[go_sem,YI,g,Zfi,ZX hb,Zof z,ZxO,u,Zfj,hw];have:=A (done++[b]) B H' (by rw[h];simp) (by simpa[Vk]using w);rw[zY,zX]at this;exact this
theorem Zm7 {t:List UInt8}(j:t.length=256)(s:List UInt8)(g:s.length<=1048576)(H:Hp):Zf Lv [.str t,.str s] H=some (.str (Vk t s),H):=by
 obtain⟨H',h⟩:=Zm8 j s g [] s [] .nils [] rfl (RowN.nil 0 [] 1);refine F1 (a':=.str t) (b':=.str s) (H1:=H') rfl rfl ?_ rfl;rw[Zg6];unfold Zbn;exact h
theorem Zo0:defL.up.length=256/\defL.w.length=256:=⟨by simp[defL],by simp[defL]⟩
theorem ZjR (L:Loc):(Ye L).up.length=256:=by
 unfold Ye
 cases h:(Wc L != 0) with
 |true=>exact Zo0.1
 |false=>exact (checked h).2.2
theorem Zmw (L:Loc):(Ye L).w.length=256:=by
 unfold Ye
 cases h:(Wc L != 0) with
 |true=>exact Zo0.2
 |false=>exact (checked h).1
def upS (L:Loc)(s:List UInt8):List UInt8:=Vk (Ye L).up s
theorem Zqy {a:AV}{L:Loc}(h:LocAV a L)(hok:LocOk L)(s:List UInt8)(D:s.length<=1048576)(H:Hp):Zf TT [a,.str s] H=some (.str (upS L s),H)/\Zf Zel [a,.str s] H=some (.str (upS L s),H):=by
 obtain⟨F,B,u⟩:=h.close [] 0 5;have E:=fun H=>ZhU u hok H;have z:=fun H=>ZnH u hok H;obtain⟨x,c,e,rfl,hx,K,M⟩:=u;have C:Z3 true 6 (.ptr 0 0) [zA (L.cells x c e)]=some (.agg (L.cells x c e)):=by simp[Z3,Go.Am.apart,Loc.cells]
 constructor
 ·obtain⟨v,g,A,j,ev,rfl,_⟩:=E [zA (L.cells x c e)];have w:Lr false 1 3 (.agg ((Ye L).cells A j ev))=some (.str (Ye L).up):=rfl;refine F1 B (b':=.str s) rfl (H1:=[zA (L.cells x c e)]) ?_ rfl;rw[ZdR];unfold Aj;simp only[go_sem,zI,zJ,C,g,w,Znu (ZjR L) s (by omega)];rfl
 ·obtain⟨v,g,A,j,ev,rfl,_⟩:=z [zA (L.cells x c e)];have w:Lr false 1 3 (.agg ((Ye L).cells A j ev))=some (.str (Ye L).up):=rfl;refine F1 B (b':=.str s) rfl (H1:=[zA (L.cells x c e)]) ?_ rfl;rw[Zi3];unfold Zep;simp only[go_sem,zI,zJ,C,g,w,Zm7 (ZjR L) s D];rfl
theorem Zrc {α:Type}{bad:α->Option Int}{key:α->List UInt8}(hb:∀ c e,bad c=some e->e≠0){l:List α}(h:ND bad key l []=0):∀ i,i<=l.length->ND bad key (l.drop i) ((l.take i).map key)=0:=by
 intro i
 induction i with
 |zero=>intro _;simpa using h
 |succ i u =>
  intro hi;have:=u (by omega);rw[zH (by omega),FJ]at this
  cases g:bad l[i] with
  |some e=>rw[g]at this;exact absurd this (hb _ _ g)
  |none =>
   rw[g]at this;simp only at this;split at this
   ·cases this
   ·have j:(l.take (i+1)).map key=(l.take i).map key++[key l[i]]:=by
     rw[yC,zC (by omega),yE];rfl
    rw[j];exact this
theorem ZtQ {α:Type}{bad:α->Option Int}{key:α->List UInt8}(hb:∀ c e,bad c=some e->e≠0){l:List α}(h:ND bad key l []=0){i:Nat}(hi:i<l.length):((l.take i).map key).contains (key l[i])=false:=by
 have:=Zrc hb h i (by omega);rw[zH (by omega),FJ]at this
 cases g:bad l[i] with
 |some e=>rw[g]at this;exact absurd this (hb _ _ g)
 |none =>
  rw[g]at this;simp only at this;split at this
  ·cases this
  ·rename_i hn;exact Bool.eq_false_iff.2 hn
theorem Zub:∀ c e,IW c=some e->e≠0:=by
 intro c e h;unfold IW at h;split at h
 ·injection h with h;omega
 ·cases h
def Zku (l:List (List UInt8×Int)):Prop:=∀ i (hi:i<l.length),((l.take i).map zK).contains l[i].1=false
theorem ZhT (L:Loc):Zku (Ye L).els:=by
 unfold Ye
 cases h:(Wc L != 0) with
 |true=>intro i hi;simp[defL]at hi
 |false =>
  simp only[Wc,bne_eq_false_iff_eq]at h
  have:Ea L.els=0:=by
   split at h
   ·split at h
    ·cases h
    ·split at h
     ·cases h
     ·unfold OT at h;split at h
      ·rename_i g;simp[h]at g
      ·exact h
   ·cases h
  unfold Ea at this;split at this
  ·cases this
  ·intro i hi;exact ZtQ (key:=zK) Zub this hi
def LT (g:List (AV×AV×Nat))(l:List (List UInt8×Int)):Prop:=g.map (fun e=>(e.1,e.2.1))=l.map fun e=>(xA e.1,zN .i64 e.2)
theorem Zjf (k:List UInt8):∀ (g:List (AV×AV×Nat)) (l:List (List UInt8×Int)) (i:Nat),LT g l ->
 match l.find? (fun e=>e.1==k) with
 |some e=>∃ j,YQ (.str k) g i=some (some (j,wA J e.2))
 |none=>YQ (.str k) g i=some none:=by
 intro g
 induction g with
 |nil =>
  intro l i h
  cases l with
  |nil=>simp[YQ]
  |cons s r=>simp[LT]at h
 |cons e g z =>
  intro l i h
  cases l with
  |nil=>simp[LT]at h
  |cons s r =>
   obtain⟨a,b,c⟩:=e;simp only[LT,yT,List.cons.injEq,xS]at h;obtain⟨⟨rfl,rfl⟩,w⟩:=h;have:=z r (i+1) w;have u:(k==s.1)=(s.1==k):=by rw[zS,beq_iff_eq,beq_iff_eq];exact eq_comm
   simp only[YQ,J4,List.find?_cons,u]
   cases hk:(s.1==k) with
   |true=>exact⟨i,rfl⟩
   |false=>exact this
theorem Zud {H:Hp}{m:Nat}{g:List (AV×AV×Nat)}{c:Nat}{l:List (List UInt8×Int)}(hm:H[m]?=some (.map g c))(w:LT g l)(k:List UInt8) :
 Y9 .string (wA J 0) true (.map m) (.str k) H=some (match l.find? (fun e=>e.1==k) with|some e=>.tuple [wA J e.2,.bool true]|none=>.tuple [wA J 0,.bool false]):=by
 have h:=Zjf k g l 0 w;unfold Y9;simp only[Wf,if_true,Xe,hm]
 cases hk:l.find? (fun e=>e.1==k) with
 |some e =>
  rw[hk]at h;obtain⟨j,u⟩:=h;simp[u]
 |none =>
  rw[hk]at h;simp at h;simp[h]
theorem ZrL {l:List (List UInt8×Int)}{k:List UInt8}(h:(l.map zK).contains k=false):l.find? (fun e=>e.1==k)=none:=by
 rw[List.find?_eq_none];intro e he hk;have:k∈l.map zK:=zR.2 ⟨e,he,by simpa using hk⟩;simp at h
 exact h e.2 (by have : e.1 = k := by simpa using hk
                 subst this;exact he)
theorem Zwr {H:Hp}{m:Nat}{g:List (AV×AV×Nat)}{c:Nat}{l:List (List UInt8×Int)}(hm:H[m]?=some (.map g c))(j:LT g l){e:List UInt8×Int}(hk:(l.map zK).contains e.1=false) :
 Xq .string (.map m) (.str e.1) (wA J e.2) H=some (.tuple [],H.set m (.map (g++[(.str e.1,wA J e.2,c)]) (c+1)))/\LT (g++[(.str e.1,wA J e.2,c)]) (l++[e]):=by
 have h:=Zjf e.1 g l 0 j;rw[ZrL hk]at h;constructor
 ·unfold Xq;simp only[hm,Wf,if_true,h]
 ·unfold LT at j ⊢;simp[j]
theorem Zua {x:AV}{l:List (List UInt8×Int)}(h:Sl 2 x (l.map D2))(A:Zku l)(W:l.length<=1048576)(E F:AV)(D:Hp):∀ (k i:Nat) (H:Hp) (w:List (AV×AV×Nat)) (c:Nat),l.length-i=k->i<=l.length ->
 H[2]?=some (.map w c)->LT w (l.take i)->3<=H.length ->
 ∃ H' g c',GM E F (.ptr 1 0) (.map 2) x (wA J (l.length:Int)) (wA J (i:Int)) D H=Pi E F (.ptr 1 0) (.map 2) D H'/\H'[0]?=H[0]?/\H'[1]?=H[1]?/\H'[2]?=some (.map g c')/\LT g l/\3<=H'.length:=by
 intro k
 induction k with
 |zero =>
  intro i H w c hk hi hm B hlen;rw[Mw];have u:decide ((i:Int)<(l.length:Int))=false:=by simp;omega
  simp only[go_sem,u];exact⟨H,w,c,rfl,rfl,rfl,hm,by rw[List.take_of_length_le (by omega)]at B;exact B,hlen⟩
 |succ k T =>
  intro i H w c hk hi hm B hlen;rw[Mw];have j:i<l.length:=by omega
  have u:decide ((i:Int)<(l.length:Int))=true:=by simp;omega
  have hw:xZ.wrap ((i:Int)+1)=((i+1:Nat):Int):=by rw[Zr (by omega) (by omega)];omega
  have C:=LZ H 2 [.str l[i].1,wA J l[i].2] [.str [],wA J 0] rfl rfl;have z:(H++[zA [xA l[i].1,zN .i64 l[i].2]])[2]?=some (.map w c):=Y5 hm _;obtain⟨U,V⟩:=Zwr z B (e:=l[i]) (A i j);simp only[go_sem,u,Zec,h.els (zC j),Vh 2 [.str l[i].1,wA J l[i].2] rfl,C,zF,ZH,zB,zE,U,Zed,hw];have S:l.take (i+1)=l.take i++[l[i]]:=by rw[yC,zC j];rfl
  obtain⟨H',g,c',K,M,N,O,Q,R⟩:=T (i+1) _ _ _ (by omega) (by omega) (Zs _ z) (by rw[S];exact V) (by simp;omega);refine⟨H',g,c',K,?_,?_,O,Q,R⟩
  ·rw[M,yJ (by omega),yV (by omega)]
  ·rw[N,yJ (by omega),yV (by omega)]
def wOf (L:Loc)(b:UInt8):Int:=L.w.getD b.toNat 0
def wS (L:Loc):List UInt8->List Int
 |[]=>[]
 |[b]=>[wOf L b]
 |b::c::r=>match L.els.find? (fun e=>e.1==[b,c]) with
  |some e=>e.2::wS L r
  |none=>wOf L b::wS L (c::r)
theorem ZwN (n:Int):(ZA 1 [(0,zN .i64 n)] [(wA J 0)]).map (AV.vs 1 .clip)=some (.vs 1 .clip [wA J n]):=rfl
theorem Fj {s:List UInt8}{i j:Nat}(g:i<=j)(w:j<=s.length):ZU (.str s) (some (wA J (i:Int))) (some (wA J (j:Int))) none=some (.str ((s.take j).drop i)):=by
 have h:Xb (wA J (j:Int)) s.length=some j:=by simp[Xb,w]
 have u:Xb (wA J (i:Int)) j=some i:=by simp[Xb,g]
 unfold ZU Gl YM;simp only[h,u]
theorem Zyk {x:AV}{L:Loc}(h:Sl 1 x (L.w.map (zN .i64)))(hw:L.w.length=256)(b:UInt8):Zo 1 x (.int .u8 b.toNat)=some (.vp [wA J (wOf L b)]):=by
 have hb:b.toNat<L.w.length:=by rw[hw];exact b.toNat_lt
 rcases h with ⟨rfl,h⟩|⟨tok,rfl⟩
 ·simp at h;simp[h]at hb
 ·simp[Zo,zC hb,wOf,yR,zV]
structure WSt (L:Loc)(x c e:AV)(es:List (AV×AV×Nat))(acc:List Int)(H:Hp):Prop where
 out:∃ y,H[0]?=some (.cells [y])/\RowN 3 H 1 y (acc.map (zN .i64))
 loc:H[1]?=some (.cells (L.cells x c e))
 mp:∃ k,H[2]?=some (.map es k)
 len:3<=H.length
theorem ZnY {L:Loc}{x c e:AV}{D:List (AV×AV×Nat)}{g:List Int}{H:Hp}(h:WSt L x c e D g H)(U:g.length<=1048576)(t:AV)(w:Int) :
 ∃ H',Yd cfg (Za cfg) (.fn (.func 110) [] [.ptr 0 0]) [t,wA J w] H=some (.bool true,H')/\WSt L x c e D (g++[w]) H':=by
 obtain⟨⟨y,E,Q⟩,K,⟨k,M⟩,N⟩:=h;obtain⟨j,H1,F,C,S,z,T⟩:=Q.app N 8 (.vs 1 .clip [wA J w]) [wA J w] (by simp[elems]) (by simp;omega);have u:H1[0]?=some (.cells [y]):=by rw[z 0 (by omega)];exact E
 have B:Zb 1 (.ptr 0 0) j H1=some (.tuple [],H1.set 0 (.cells [j])):=by
  have A:j.known=true/\j.cells=[j]:=by
   rcases C with ⟨rfl,_⟩|⟨t,e,rfl,_⟩ <;> exact⟨rfl,rfl⟩
  rw[WG (sz:=1) u A.1 (by rw[A.2];rfl) (by simp)];rw[A.2];rfl
 refine⟨H1.set 0 (.cells [j]),?_,⟨⟨j,Zs _ u,?_⟩,?_,⟨k,?_⟩,by simp;omega⟩⟩
 ·rw[Iz];show Jl [t,wA J w,.ptr 0 0] H=_;rw[Se];unfold FZ;simp only[Y2 E,zB,go_sem,ZwN,F,B]
 ·rcases C with ⟨rfl,O⟩|⟨t,e,rfl,R,hn⟩
  ·exact .inl ⟨rfl,by rw[yE];exact O⟩
  ·exact .inr ⟨t,e,by simp,Yi _ (by omega) R,hn⟩
 ·rw[yJ (by omega),z 1 (by omega)];exact K
 ·rw[yJ (by omega),z 2 (by omega)];exact M
theorem Zrz {L:Loc}{x c e:AV}(hx:Sl 1 x (L.w.map (zN .i64)))(hw:L.w.length=256){D:List (AV×AV×Nat)}(S:LT D L.els)(s:List UInt8)(hs:s.length<=1048576)(W:Hp):∀ (n:Nat) (done r:List UInt8) (g:List Int) (H:Hp),r.length<=n->s=done++r->g.length<=done.length->WSt L x c e D g H ->
 ∃ H',GL (.str s) (.fn (.func 110) [] [.ptr 0 0]) (.ptr 1 0) (.map 2) (wA J (done.length:Int)) W H=some (.tuple [],H')/\WSt L x c e D (g++wS L r) H':=by
 intro n
 induction n with
 |zero =>
  intro done r g H T j ha h;have:r=[]:=yX.1 (by omega);subst this;rw[yA]at j;subst j;rw[D4];have u:decide ((s.length:Int)<(s.length:Int))=false:=by simp
  simp only[go_sem,YI,u];exact⟨H,rfl,by simpa[wS]using h⟩
 |succ n Z =>
  intro done r g H T j ha h
  cases r with
  |nil =>
   rw[yA]at j;subst j;rw[D4];have u:decide ((s.length:Int)<(s.length:Int))=false:=by simp
   simp only[go_sem,YI,u];exact⟨H,rfl,by simpa[wS]using h⟩
  |cons b r =>
   have hl:done.length<s.length:=by rw[j];simp
   have B:s.length=done.length+(r.length+1):=by rw[j];simp
   have u:decide ((done.length:Int)<(s.length:Int))=true:=by simp;omega
   have K:xZ.wrap ((done.length:Int)+1)=((done.length+1:Nat):Int):=by rw[Zr (by omega) (by omega)];omega
   have M:xZ.wrap ((done.length:Int)+2)=((done.length+2:Nat):Int):=by rw[Zr (by omega) (by omega)];omega
   have hb:s[done.length]?=some b:=by rw[j,zZ (by omega)];simp
   have U:(s.take (done.length+1)).drop done.length=[b]:=by rw[j,xO];simp
   have one:∀ H,WSt L x c e D g H->∃ H',J5 (.str s) (.fn (.func 110) [] [.ptr 0 0]) (.ptr 1 0) (.map 2) (wA J (done.length:Int)) (.str [b]) (wA J (wOf L b)) W H=some (.tuple [],H')/\WSt L x c e D (g++wOf L b::wS L r) H':=by
    intro H h;obtain⟨H1,O,Q⟩:=ZnY h (by omega) (.str [b]) (wOf L b);obtain⟨N,E,R⟩:=Z (done++[b]) r (g++[wOf L b]) H1 (by simp at T;omega) (by rw[j];simp) (by simp;omega) Q;rw[zY,zX]at E;rw[Mu];have z:(([b]:List UInt8).length:Int)=1:=rfl;simp only[O,go_sem,Mv,YI,z,K,E];exact⟨N,rfl,by simpa using R⟩
   rw[D4];obtain⟨⟨y,h0,F⟩,X,⟨k,Y⟩,h3⟩:=h;have h:WSt L x c e D g H:=⟨⟨y,h0,F⟩,X,⟨k,Y⟩,h3⟩;simp only[go_sem,YI,u,Zeb,K,Fj (Nat.le_succ _) (show done.length+1<=s.length by omega),U,zF,Y2 X,Loc.cells,zB,zE,ZX hb,Zyk hx hw,Zz,M]
   cases r with
   |nil =>
    have A:decide (((done.length+2:Nat):Int)<=(s.length:Int))=false:=by simp at B ⊢;omega
    simp only[A,go_sem];have:=one H h;simpa[wS]using this
   |cons C r =>
    have A:decide (((done.length+2:Nat):Int)<=(s.length:Int))=true:=by simp at B ⊢;omega
    have V:(s.take (done.length+2)).drop done.length=[b,C]:=by rw[j,xO];simp
    simp only[A,go_sem,Fj (show done.length<=done.length+2 by omega) (show done.length+2<=s.length by simp at B;omega),V,Zud Y S];unfold wS
    cases hf:L.els.find? (fun e=>e.1==[b,C]) with
    |none =>
     simp only[go_sem,zB,zE];exact one H h
    |some el =>
     simp only[go_sem,zB,zE];obtain⟨H1,O,Q⟩:=ZnY h (by omega) (.str [b,C]) el.2;obtain⟨N,E,R⟩:=Z (done++[b,C]) r (g++[el.2]) H1 (by simp at T;omega) (by rw[j];simp) (by simp;omega) Q;rw[zY,show ([b,C]:List UInt8).length=2 from rfl]at E;rw[Mu];have z:(([b,C]:List UInt8).length:Int)=2:=rfl;simp only[O,go_sem,Mv,YI,z,M,E];exact⟨N,rfl,by simpa using R⟩
def LocCells (l:List AV)(L:Loc):Prop:=∃ x c e,l=L.cells x c e/\Sl 1 x (L.w.map (zN .i64))/\Sl 5 c (L.cls.map QA)/\Sl 2 e (L.els.map D2)
theorem LocCells.close {l:List AV}{L:Loc}(h:LocCells l L)(H:Hp)(n f:Nat):∃ C,l.mapM (Zd H n (f+3))=some C/\LocCells C L:=by
 obtain⟨x,c,e,rfl,hx,E,F⟩:=h;obtain⟨D,z,A⟩:=hx.close (H:=H) (n:=n) (f:=f+2) (fun y hy=>by obtain⟨m,_,rfl⟩:=zR.1 hy;rfl);obtain⟨c',g,j⟩:=E.close (H:=H) (n:=n) (f:=f+2) (fun y hy=>by obtain⟨m,_,rfl⟩:=zR.1 hy;exact C4 m H n f);obtain⟨B,u,w⟩:=F.close (H:=H) (n:=n) (f:=f+2) (fun y hy=>by obtain⟨m,_,rfl⟩:=zR.1 hy;exact IX m H n f);refine⟨L.cells D c' B,?_,D,c',B,rfl,A,j,w⟩;simp only[Loc.cells,xF,z,g,u,yU];rfl
theorem Q1 (H:Hp)(n f:Nat)(l:List AV):Zd H n (f+1) (.vp l)=match l.mapM (Zd H n f) with
 |some l=>some (.vp l)
 |none=>none:=(Eq.refl _).trans (Eq.refl _)
theorem Nf {f:List AV->Hp->Z4}{a a' b b' v v':AV}{H H1:Hp}(ha:Zd [] 0 9 a=some a')(hb:Zd [] 0 9 b=some b')(g:f [a',b'] []=some (v,H1))(h:Zd H1 0 9 v=some v'):Zf f [a,b] H=some (v',H):=by
 unfold Zf;simp[ha,hb,g,h]
theorem RowN.close {n:Nat}{H:Hp}{x:AV}{l:List Int}(h:RowN n H 1 x (l.map (zN .i64)))(H1:Hp):∃ g,Zd H1 0 9 x=some g/\Sl 1 g (l.map (zN .i64)) :=
 h.sl.close (f:=8) (fun y hy=>by obtain⟨m,_,rfl⟩:=zR.1 hy;rfl)
theorem Zdu {l:List AV}{L:Loc}(h:LocCells l L)(hw:L.w.length=256)(g:Zku L.els)(hn:L.els.length<=1048576)(s:List UInt8)(Q:s.length<=1048576)(H:Hp) :
 ∃ v,Zf UU [.str s,.vp l] H=some (v,H)/\Sl 1 v ((wS L s).map (zN .i64)):=by
 obtain⟨Y,O,x,c,e,rfl,hx,X,D⟩:=h.close [] 0 5;have j:Zd [] 0 9 (.vp l)=some (.vp (L.cells x c e)):=by rw[Q1,O]
 have hlen:=D.len 189;rw[zP]at hlen;obtain⟨H1,N,k,E,R,S,T,U,V⟩:=Zua D g hn (.str s) (.fn (.func 110) [] [.ptr 0 0]) [zA [.nils]] L.els.length 0 [zA [.nils],.cells (L.cells x c e),.map [] 0] [] 0 (by omega) (by omega) rfl rfl (by simp);rw[show ((0:Nat):Int)=0 from rfl]at E;have z:WSt L x c e N [] H1:=⟨⟨.nils,by rw[R];rfl,RowN.nil _ _ _⟩,by rw[S];rfl,⟨k,T⟩,V⟩;obtain⟨C,F,⟨⟨y,W,K⟩,_,_,_⟩⟩:=Zrz hx hw U s Q [zA [.nils]] s.length [] s [] H1 (yS _) rfl (by simp) z;rw[zJ,show ((0:Nat):Int)=0 from rfl]at F;rw[zI]at K;obtain⟨v,A,B⟩:=K.close C;refine⟨v,Nf (a':=.str s) rfl j ?_ A,B⟩;rw[Ai];unfold PS
 have M:Nz [.agg (L.cells x c e),.str s,.fn (.func 110) [] [.ptr 0 0]] [zA [.nils]]=some (.tuple [],C):=by
  rw[Zf9];unfold Za1;have u:Z3 false 1 (.ptr 1 5) [zA [.nils],.cells (L.cells x c e),.map [] 0]=some e:=by simp[Z3,Go.Am.apart,Loc.cells]
  simp only[go_sem,zL,zJ,zM,zI,zF,u,hlen,E,Zea,F]
 simp only[go_sem,zJ,zI,Vh 6 (L.cells x c e) rfl,M,Y2 W,zB]
def Zse (r:List UInt8)(e:List UInt8×Int):Bool :=
 match r with
 |b::c::_=>e.1==[b,c]
 |_=>false
theorem Zy2 (L:Loc)(b c:UInt8)(r:List UInt8):wS L (b::c::r)=match L.els.find? (Zse (b::c::r)) with
 |some e=>e.2::wS L r
 |none=>wOf L b::wS L (c::r):=(Eq.refl _).trans (Eq.refl _)
set_option linter.unusedSectionVars false
def VU:List Int->List Int->Int
 |[],[]=>0
 |[],_::_=>-1
 |_::_,[]=>1
 |a::l,b::m=>if a<b then -1 else if b<a then 1 else VU l m
theorem Jh (a b:Int)(l m:List Int):VU (a::l) (b::m)=if a<b then -1 else if b<a then 1 else VU l m:=(Eq.refl _).trans (Eq.refl _)
theorem Zsx {l m:List Int}(h:l=[]\/m=[]):VU l m=if l.length<m.length then -1 else if m.length<l.length then 1 else 0:=by
 rcases h with rfl|rfl
 ·cases m <;> simp[VU]
 ·cases l <;> simp[VU]
theorem ZkY:∀ a b:List UInt8,VU (a.map fun c=>(c.toNat:Int)) (b.map fun c=>(c.toNat:Int))=Jt a b:=by
 intro a
 induction a with
 |nil=>intro b;cases b <;> simp[VU,Jt]
 |cons x a z =>
  intro b
  cases b with
  |nil=>simp[VU,Jt]
  |cons y b =>
   simp only[yT,Jh,Jt];by_cases h:x=y
   ·subst h;simp[z b]
   ·have w:x.toNat≠y.toNat:=fun e=>h (UInt8.toNat_inj.1 e);by_cases g:x<y
    ·have:(x.toNat:Int)<y.toNat:=by have:=xD.1 g;omega
     simp[h,g,this]
    ·have j:¬ (x.toNat:Int)<y.toNat:=by
      intro A;exact g (xD.2 (by omega))
     have u:(y.toNat:Int)<x.toNat:=by omega
     simp[h,g,j,u]
theorem ZsW (a b:List UInt8)(H:Hp):Zf BQ [.str a,.str b] H=some (wA J (Jt a b),H):=by
 have g:∀ H,Zf W4 [.str a,.str b] H=some (wA J (Jt a b),H):=fun H=>by
  refine F1 (a':=.str a) (b':=.str b) (H1:=[]) rfl rfl ?_ rfl;rw[GG];rfl
 refine F1 (a':=.str a) (b':=.str b) (H1:=[]) rfl rfl ?_ rfl;rw[Is];unfold Mf;simp only[g,go_sem]
section
variable {x y:AV}{a b:List Int}(hx:Sl 1 x (a.map (zN .i64)))(hy:Sl 1 y (b.map (zN .i64)))(ha:a.length<=4611686018427387904)(hb:b.length<=4611686018427387904)
include hx hy ha hb
theorem ZsA (s t:List UInt8)(E H:Hp):∀ (k i:Nat),min a.length b.length-i=k->i<=min a.length b.length ->
 QG (.str s) (.str t) x y (wA J ((min a.length b.length:Nat):Int)) (wA J (i:Int)) E H=some (wA J (if (VU (a.drop i) (b.drop i) != 0)=true then VU (a.drop i) (b.drop i) else Jt s t),H):=by
 have z:=hx.len 3;have A:=hy.len 3;rw[zP]at z A;intro k
 induction k with
 |zero =>
  intro i hk hi;rw[RL];have B:decide ((i:Int)<((min a.length b.length:Nat):Int))=false:=by simp;omega
  have F:a.drop i=[]\/b.drop i=[]:=by
   rcases Nat.le_total a.length b.length with h|h
   ·exact .inl (zG.2 (by omega))
   ·exact .inr (zG.2 (by omega))
  rw[Zsx F];simp only[yL,go_sem,B,Oi,z,A];by_cases M:a.length<b.length
  ·have c:decide ((a.length:Int)<(b.length:Int))=true:=by simp;omega
   have g:a.length-i<b.length-i:=by omega
   simp only[c,go_sem,g,if_true];rfl
  ·have c:decide ((a.length:Int)<(b.length:Int))=false:=by simp;omega
   have g:¬ a.length-i<b.length-i:=by omega
   simp only[c,go_sem,g,if_false,Oj,z,A];by_cases N:b.length<a.length
   ·have c:decide ((b.length:Int)<(a.length:Int))=true:=by simp;omega
    have j:b.length-i<a.length-i:=by omega
    simp only[c,go_sem,j,if_true];rfl
   ·have c:decide ((b.length:Int)<(a.length:Int))=false:=by simp;omega
    have j:¬ b.length-i<a.length-i:=by omega
    simp only[c,go_sem,j,if_false,Ok,ZsW];rfl
 |succ k K =>
  intro i hk hi;rw[RL];have u:i<a.length:=by omega
  have w:i<b.length:=by omega
  have B:decide ((i:Int)<((min a.length b.length:Nat):Int))=true:=by simp;omega
  have hw:xZ.wrap ((i:Int)+1)=((i+1:Nat):Int):=by rw[Zr (by omega) (by omega)];omega
  simp only[go_sem,B,Ol,hx.ints u,hy.ints w,Zz];rw[zH u,zH w,Jh];by_cases C:a[i]<b[i]
  ·simp only[decide_eq_true C,go_sem,if_pos C];rfl
  ·simp only[decide_eq_false C,go_sem,if_neg C,On,hx.ints u,hy.ints w,Zz];by_cases D:b[i]<a[i]
   ·simp only[decide_eq_true D,go_sem,if_pos D];rfl
   ·simp only[decide_eq_false D,go_sem,if_neg D,Om,hw];exact K (i+1) (by omega) (by omega)
end
theorem Ztf (L:Loc):∀ (n:Nat) (s:List UInt8),s.length<=n->(wS L s).length<=s.length:=by
 intro n
 induction n with
 |zero=>intro s h;have:s=[]:=yX.1 (by omega);subst this;simp[wS]
 |succ n g =>
  intro s h
  match s,h with
  |[],_=>simp[wS]
  |[b],_=>simp[wS]
  |b::c::r,h =>
   rw[Zy2];simp only[zL]at h
   cases L.els.find? (Zse (b::c::r)) with
   |none=>have:=g (c::r) (by simp;omega);simp only[zL]at this ⊢;omega
   |some e=>have:=g r (by omega);simp only[zL];omega
theorem ZhS (L:Loc):(Ye L).els.length<=64:=by
 unfold Ye
 cases h:(Wc L != 0) with
 |true=>simp[defL]
 |false =>
  simp only[Wc,bne_eq_false_iff_eq]at h
  have:Ea L.els=0:=by
   split at h
   ·split at h
    ·cases h
    ·split at h
     ·cases h
     ·unfold OT at h;split at h
      ·rename_i g;simp[h]at g
      ·exact h
   ·cases h
  unfold Ea at this;split at this
  ·cases this
  ·simp;omega
def BU (L:Loc)(s t:List UInt8):Int:=if (VU (wS (Ye L) s) (wS (Ye L) t) != 0)=true then VU (wS (Ye L) s) (wS (Ye L) t) else Jt s t
theorem Zjp {v:AV}{L:Loc}(h:LocAV v L)(hok:LocOk L)(s t:List UInt8)(W:s.length<=1048576)(X:t.length<=1048576)(H:Hp):Zf Ua [v,.str s,.str t] H=some (wA J (BU L s t),H):=by
 obtain⟨M,S,N⟩:=h.close [] 0 5;have Y:=fun H=>ZhU N hok H;obtain⟨x,c,e,rfl,hx,hc,he⟩:=N;obtain⟨v',F,j,g,ev,rfl,K,B,C⟩:=Y [zA (L.cells x c e)];have u:LocCells ((Ye L).cells j g ev) (Ye L):=⟨j,g,ev,rfl,K,B,C⟩;obtain⟨w1,Z,O⟩:=Zdu u (Zmw L) (ZhT L) (by have:=ZhS L;omega) s W [xE];obtain⟨w2,q3,Q⟩:=Zdu u (Zmw L) (ZhT L) (by have:=ZhS L;omega) t X [xE];have U:=Ztf (Ye L) s.length s (yS _);have V:=Ztf (Ye L) t.length t (yS _)
 have A:Ua [.agg (L.cells x c e),.str s,.str t] []=some (wA J (BU L s t),[xE]):=by
  rw[ZaA];unfold LF;have T:Z3 true 6 (.ptr 0 0) [zA (L.cells x c e)]=some (.agg (L.cells x c e)):=by simp[Z3,Go.Am.apart,Loc.cells]
  have E:Zb 6 (.ptr 0 0) (.agg ((Ye L).cells j g ev)) [zA (L.cells x c e)]=some (.tuple [],[zA ((Ye L).cells j g ev)]):=by simp[Zb,YU,yF,zV,Loc.cells,splice]
  have D:∀ k:AV->Hp->Z4,UI (.ptr 0 0) [zA ((Ye L).cells j g ev)] k=k (.vp ((Ye L).cells j g ev)) [xE]:=fun k=>rfl;have M:Zk (.slice 3) w1=some (wA J (wS (Ye L) s).length):=by have:=O.len 3;rwa [zP]at this
  have R:Zk (.slice 3) w2=some (wA J (wS (Ye L) t).length):=by have:=Q.len 3;rwa [zP]at this
  have z:UY (wA J ((wS (Ye L) s).length:Int)) (wA J ((wS (Ye L) t).length:Int))=some (wA J ((min (wS (Ye L) s).length (wS (Ye L) t).length:Nat):Int)):=by
   unfold UY;simp only[if_true];congr 2;split <;> omega
  have w:=ZsA O Q (by omega) (by omega) s t [] [xE] _ 0 rfl (xC _);rw[show ((0:Nat):Int)=0 from rfl,zQ,zQ]at w;simp only[go_sem,zJ,zI,T,F,E,D,ZbF,Zc2,zM,Z,q3,M,R,z,w];rfl
 exact Ws (args':=[.agg (L.cells x c e),.str s,.str t]) (by simp[S];rfl) A rfl
def ZyB (s:List UInt8):List Int:=s.map fun c=>(c.toNat:Int)
theorem ZlA {s done r:List UInt8}{b:UInt8}(h:s=done++b::r):Zx (.str s) (wA J (done.length:Int))=some (.int .u8 b.toNat) :=
 ZX (by rw[h,zZ (yS _)];simp)
def isD (b:UInt8):Bool:=decide (48<=(b.toNat:Int))&&decide ((b.toNat:Int)<=57)
def Zq (l:List UInt8):Nat:=(l.takeWhile isD).length
theorem ZsY:Zq []=0:=rfl
theorem ZhJ (b:UInt8)(l:List UInt8):Zq (b::l)=if isD b then Zq l+1 else 0:=by
 unfold Zq;rw[List.takeWhile_cons];split <;> simp_all
theorem Zmg (l:List UInt8):Zq l<=l.length:=by
 induction l with
 |nil=>simp[Zq]
 |cons b l g=>rw[ZhJ];split <;> simp <;> omega
theorem Zn4 {s:List UInt8}(C:s.length<=1048576)(w H:Hp):∀ (k p:Nat),s.length-p=k->p<=s.length ->
 QE (.str s) (wA J (p:Int)) w H=some (wA J ((p+Zq (s.drop p):Nat):Int),H):=by
 intro k
 induction k with
 |zero =>
  intro p hk A;rw[Ry];have g:decide ((p:Int)<(s.length:Int))=false:=by simp;omega
  have z:s.drop p=[]:=zG.2 (by omega);simp only[go_sem,g,z,ZsY,xK,Ju]
 |succ k B =>
  intro p hk A;rw[Ry];have g:decide ((p:Int)<(s.length:Int))=true:=by simp;omega
  have h:p<s.length:=by omega
  have hw:xZ.wrap ((p:Int)+1)=((p+1:Nat):Int):=by rw[Zr (by omega) (by omega)];omega
  simp only[go_sem,g,ZX (zC h)];rw[Q3 h,ZhJ]
  cases j:decide (48<=((s[p].toNat:Int))) with
  |false=>simp only[isD,j,go_sem,yH,zD,if_false,xK,Ju]
  |true =>
   cases u:decide (((s[p].toNat:Int))<=57) with
   |false=>simp only[isD,j,u,go_sem,ZX (zC h),Bool.and_false,zD,if_false,xK,Ju]
   |true =>
    simp only[isD,j,u,go_sem,ZX (zC h),xR,if_true,IQ,hw];rw[B (p+1) (by omega) (by omega),show p+1+Zq (s.drop (p+1))=p+(Zq (s.drop (p+1))+1) by omega]
theorem ZeN (s:List UInt8)(g:s.length<=1048576)(H:Hp):Zf Jk [.str s] H=some (wA J (Zq s:Int),H):=by
 refine XI (a':=.str s) (H1:=[]) rfl ?_ rfl;rw[Zaz];have:=Zn4 g [] [] s.length 0 rfl (by omega);rw[show ((0:Nat):Int)=0 from rfl,zQ,zF]at this;exact this
def dg (b:UInt8):Int:=IntKind.u8.wrap ((b.toNat:Int)-48)
theorem Wr (b:UInt8):0<=dg b/\dg b<=255:=by
 unfold dg;have h:=b.toNat_lt;show 0<=((b.toNat:Int)-48) % 256/\((b.toNat:Int)-48) % 256<=255;omega
theorem ZvN (b:UInt8):Yv .i64 (.int .u8 (IntKind.u8.wrap ((b.toNat:Int)-48)))=some (wA J (dg b)):=by
 have:=Wr b;show some (zN .i64 (xZ.wrap (dg b)))=_;rw[Zr (by omega) (by omega)]
def fr:Nat->List UInt8->Int->Int
 |0,_,d=>d
 |k+1,[],d=>fr k [] (d*10)
 |k+1,b::l,d=>fr k l (d*10+dg b)
theorem Zxy (k:Nat)(d:Int):fr (k+1) [] d=fr k [] (d*10):=(Eq.refl _).trans (Eq.refl _)
theorem Zww (k:Nat)(b:UInt8)(l:List UInt8)(d:Int):fr (k+1) (b::l) d=fr k l (d*10+dg b):=(Eq.refl _).trans (Eq.refl _)
theorem ZrQ (s:List UInt8)(R:s.length<=1048576)(F H:Hp):∀ (k i:Nat) (d p:Int),i+k=4->0<=d->d+1000<=2000000000*p->p*10 ^ k<=10000 ->
 Uw (.str s) (wA J d) (wA J (i:Int)) F H=some (wA J (fr k (s.drop i) d),H):=by
 intro k
 induction k with
 |zero =>
  intro i d p A K M D;rw[Dq];have h:decide ((i:Int)<4)=false:=by simp;omega
  simp only[go_sem,h,HG,fr]
 |succ k E =>
  intro i d p A K M D;rw[Dq];have h:decide ((i:Int)<4)=true:=by simp;omega
  have w:xZ.wrap ((i:Int)+1)=((i+1:Nat):Int):=by rw[Zr (by omega) (by omega)];omega
  have j:p*10*10 ^ k<=10000:=by rw[Int.mul_assoc,show (10:Int)*10 ^ k=10 ^ (k+1) by rw[Int.pow_succ,Int.mul_comm]];exact D
  have B:(1:Int)<=10 ^ k:=Int.add_one_le_iff.2 (Int.pow_pos (by decide))
  have Q:p*10<=10000:=by
   by_cases O:0<=p
   ·have:=Int.mul_le_mul_of_nonneg_left B (show 0<=p*10 by omega);omega
   ·omega
  have C:xZ.wrap (d*10)=d*10:=Zr (by omega) (by omega);simp only[go_sem,h,HH,C,YI];by_cases hi:i<s.length
  ·have hb:=Wr s[i];have g:decide ((i:Int)<(s.length:Int))=true:=by simp;omega
   have u:xZ.wrap (d*10+dg s[i])=d*10+dg s[i]:=Zr (by omega) (by omega);simp only[g,go_sem,ZX (zC hi),ZvN,u,Dp,w];rw[E (i+1) _ (p*10) (by omega) (by omega) (by omega) j,Q3 hi,Zww]
  ·have g:decide ((i:Int)<(s.length:Int))=false:=by simp;omega
   have N:s.drop i=[]:=zG.2 (by omega);have z:s.drop (i+1)=[]:=zG.2 (by omega);simp only[g,go_sem,Dp,w];rw[E (i+1) _ (p*10) (by omega) (by omega) (by omega) j,N,z,Zxy]
theorem ZrP (s:List UInt8)(g:s.length<=1048576)(H:Hp):Zf Ga [.str s] H=some (wA J (fr 4 s 0),H):=by
 refine XI (a':=.str s) (H1:=[]) rfl ?_ rfl;rw[Ab];have:=ZrQ s g [] [] 4 0 0 1 rfl (by omega) (by omega) (by decide);rw[show ((0:Nat):Int)=0 from rfl,zQ]at this;exact this
def Zdt:List UInt8->Int->Option Int
 |[],d=>some d
 |b::l,d=>if 1000000000<d*10+dg b then none else Zdt l (d*10+dg b)
theorem ZjQ (b:UInt8)(l:List UInt8)(d:Int):Zdt (b::l) d=if 1000000000<d*10+dg b then none else Zdt l (d*10+dg b):=(Eq.refl _).trans (Eq.refl _)
theorem Zjh (l:List UInt8):0<=fr 4 l 0/\fr 4 l 0<=1000000:=by
 match l with
 |[]=>simp[fr]
 |[a]=>have:=Wr a;simp[fr];omega
 |[a,b]=>have:=Wr a;have:=Wr b;simp[fr];omega
 |[a,b,c]=>have:=Wr a;have:=Wr b;have:=Wr c;simp[fr];omega
 |a::b::c::d::l=>have:=Wr a;have:=Wr b;have:=Wr c;have:=Wr d;simp[fr];omega
def ZpZ (w f:List UInt8):Option Int:=match Zdt w 0 with
 |none=>none
 |some d=>some (d*10000+fr 4 f 0)
def Pz (w f:List UInt8):Int:=match ZpZ w f with
 |none=>10000000000001
 |some n=>min 10000000000001 n
theorem ZqG (s f:List UInt8)(K:s.length<=1048576)(D:f.length<=1048576)(A H:Hp):∀ (r done:List UInt8) (d:Int),s=done++r->0<=d->d<=1000000000 ->
 Jw (.str s) (.str f) (wA J d) (wA J (s.length:Int)) (wA J (done.length:Int)) A H=some (wA J (match Zdt r d with
  |none=>10000000000001
  |some n=>min 10000000000001 (n*10000+fr 4 f 0)),H):=by
 intro r
 induction r with
 |nil =>
  intro done d u B C;rw[yA]at u;subst u;rw[Tq];have g:decide ((s.length:Int)<(s.length:Int))=false:=by simp
  have E:=Zjh f;have h:xZ.wrap (d*10000)=d*10000:=Zr (by omega) (by omega);have j:xZ.wrap (d*10000+fr 4 f 0)=d*10000+fr 4 f 0:=Zr (by omega) (by omega);simp only[go_sem,g,ZaI,h,ZrP f D,j,Zdt]
 |cons b r F =>
  intro done d u B C;have hlen:s.length=done.length+(r.length+1):=by rw[u];simp
  have g:decide ((done.length:Int)<(s.length:Int))=true:=by simp;omega
  have z:xZ.wrap ((done.length:Int)+1)=((done.length+1:Nat):Int):=by rw[Zr (by omega) (by omega)];omega
  have hb:=Wr b;have h:xZ.wrap (10*d)=d*10:=by rw[Zr (by omega) (by omega)];omega
  have j:xZ.wrap (d*10+dg b)=d*10+dg b:=Zr (by omega) (by omega);rw[Tq,ZjQ];simp only[go_sem,g,ZaJ,h,ZlA u,ZvN,j];by_cases w:1000000000<d*10+dg b
  ·simp only[decide_eq_true w,go_sem,if_pos w]
  ·have:=F (done++[b]) (d*10+dg b) (by rw[u];simp) (by omega) (by omega);rw[zY,zX]at this;simp only[decide_eq_false w,go_sem,if_neg w,ZaK,z,this]
theorem ZqF (s f:List UInt8)(h:s.length<=1048576)(g:f.length<=1048576)(H:Hp):Zf FW [.str s,.str f] H=some (wA J (Pz s f),H):=by
 refine F1 (a':=.str s) (b':=.str f) (H1:=[]) rfl rfl ?_ rfl;rw[Zbp];unfold SG;have:=ZqG s f h g [] [] s [] 0 rfl (by omega) (by omega);rw[zJ,show ((0:Nat):Int)=0 from rfl]at this;simp only[go_sem,this];unfold Pz ZpZ;cases Zdt s 0 <;> rfl
def O9 (neg:Bool)(n:Nat)(w f:List UInt8):Int :=
 if n=0/\f=[] then 0 else if neg then -(min 10000000000000 (Pz w f)) else min 10000000000000 (Pz w f)
def HR (neg:Bool)(r:List UInt8):Int :=
 match r.drop (Zq r) with
 |[]=>O9 neg (Zq r) (r.take (Zq r)) []
 |b::q=>if (((b.toNat:Int)==46)&&(decide (0<Zq r) || decide (0<Zq q)))=true then O9 neg (Zq r) (r.take (Zq r)) (q.take (Zq q)) else O9 neg (Zq r) (r.take (Zq r)) []
theorem Zv9 {neg:Bool}{r:List UInt8}(h:r.drop (Zq r)=[]):HR neg r=O9 neg (Zq r) (r.take (Zq r)) []:=by unfold HR;rw[h]
theorem ZsE {neg:Bool}{r:List UInt8}{b:UInt8}{q:List UInt8}(h:r.drop (Zq r)=b::q):HR neg r=if (((b.toNat:Int)==46)&&(decide (0<Zq r) || decide (0<Zq q)))=true then O9 neg (Zq r) (r.take (Zq r)) (q.take (Zq q)) else O9 neg (Zq r) (r.take (Zq r)) []:=by unfold HR;rw[h]
theorem ZqC:∀ (l:List UInt8) (d n:Int),0<=d->d<=1000000000->Zdt l d=some n->0<=n/\n<=1000000000:=by
 intro l
 induction l with
 |nil=>intro d n g j h;injection h with h;subst h;exact⟨g,j⟩
 |cons b l u =>
  intro d n g j h;rw[ZjQ]at h;have:=Wr b;split at h
  ·cases h
  ·exact u _ n (by omega) (by omega) h
theorem Zq0 {w f:List UInt8}{n:Int}(h:ZpZ w f=some n):0<=n/\n<=10000001000000:=by
 unfold ZpZ at h;split at h
 ·cases h
 ·rename_i d g;injection h with h;have:=ZqC w 0 d (by omega) (by omega) g;have:=Zjh f;omega
theorem ZqB (w f:List UInt8):0<=Pz w f/\Pz w f<=10000000000001:=by
 unfold Pz;split
 ·omega
 ·rename_i n h;have:=Zq0 h;omega
theorem Zy5 (x y:AV):ZO (.tuple [x,y]) 0=some x:=rfl
theorem Zy6 (x y:AV):ZO (.tuple [x,y]) 1=some y:=rfl
theorem ZnW (n:Int):Xv .neg (wA J n)=some (wA J (xZ.wrap (0-n))):=(Eq.refl _).trans (Eq.refl _)
theorem ZhA (neg:Bool)(n:Nat)(w f:List UInt8)(hw:w.length<=1048576)(C:f.length<=1048576)(e:Int)(u H:Hp) :
 ∃ A,WD (.bool neg) (wA J (n:Int)) (.str w) (.str f) (wA J e) u H=some (.tuple [wA J (O9 neg n w f),wA J A],H):=by
 have D:=ZqB w f
 have h:UY (wA J 10000000000000) (wA J (Pz w f))=some (wA J (min 10000000000000 (Pz w f))):=by
  unfold UY;simp only[if_true];congr 2;split <;> omega
 have j:xZ.wrap (0-min 10000000000000 (Pz w f))=-(min 10000000000000 (Pz w f)):=by rw[Zr (by omega) (by omega)];omega
 have g:BW (.bool neg) (.str w) (.str f) (wA J e) u H=some (.tuple [wA J (if neg then -(min 10000000000000 (Pz w f)) else min 10000000000000 (Pz w f)),wA J e],H):=by
  rw[IP];simp only[go_sem,ZqF w f hw C,h]
  cases neg with
  |true=>simp only[go_sem,ZnW,j,Rv,if_true]
  |false=>simp only[go_sem,Rv,zD,if_false]
 have z:Yr .eql (.str f) (.str [])=some (.bool (f==[])):=rfl;rw[IN];unfold O9
 cases n with
 |zero =>
  cases f with
  |nil=>exact⟨0,by simp[go_sem,Yr];rfl⟩
  |cons b f =>
   have z:Yr .eql (.str (b::f)) (.str [])=some (.bool false):=rfl;refine⟨e,?_⟩;simp[go_sem,z,g]
 |succ n =>
  refine⟨e,?_⟩
  have B:(((n+1:Nat):Int)==0)=false:=by
   rw[beq_eq_false_iff_ne];omega
  simp only[go_sem,B,g];simp
theorem Zmh {s:List UInt8}{i:Nat}(h:i<=s.length):ZU (.str s) (some (wA J (i:Int))) none none=some (.str (s.drop i)):=by
 rw[MW .i64 (by omega) (by omega)];simp
theorem Zhz (s:List UInt8)(Y:s.length<=1048576)(neg:Bool){i:Nat}(hi:i<=s.length)(M H:Hp) :
 ∃ e,QB (.str s) (wA J (i:Int)) (.bool neg) M H=some (.tuple [wA J (HR neg (s.drop i)),wA J e],H):=by
 have X:(s.drop i).length=s.length-i:=yL;have hn:=Zmg (s.drop i);have T:xZ.wrap ((i:Int)+(Zq (s.drop i):Int))=((i+Zq (s.drop i):Nat):Int):=by rw[Zr (by omega) (by omega)];omega
 have S:(s.take (i+Zq (s.drop i))).drop i=(s.drop i).take (Zq (s.drop i)):=by rw[xQ];congr 1;omega
 rw[IM];simp only[go_sem,Zmh hi,ZeN _ (show (s.drop i).length<=1048576 by omega),T,Fj (show i<=i+Zq (s.drop i) by omega) (show i+Zq (s.drop i)<=s.length by omega),S,YI];have w:((s.drop i).take (Zq (s.drop i))).length<=1048576:=by rw[yW];omega
 by_cases O:i+Zq (s.drop i)<s.length
 ·have Q:decide (((i+Zq (s.drop i):Nat):Int)<(s.length:Int))=true:=by simp;omega
  have R:(s.drop i).drop (Zq (s.drop i))=s[i+Zq (s.drop i)]::s.drop (i+Zq (s.drop i)+1):=by
   rw[List.drop_drop,Q3 O]
  have j:xZ.wrap (((i+Zq (s.drop i):Nat):Int)+1)=((i+Zq (s.drop i)+1:Nat):Int):=by rw[Zr (by omega) (by omega)];omega
  have W:(s.drop (i+Zq (s.drop i)+1)).length=s.length-(i+Zq (s.drop i)+1):=yL;have hk:=Zmg (s.drop (i+Zq (s.drop i)+1));rw[ZsE R];simp only[Q,go_sem,ZX (zC O)]
  cases U:((s[i+Zq (s.drop i)].toNat:Int)==46) with
  |false =>
   simp only[go_sem,yH,zD,if_false];exact ZhA neg _ _ _ w (by simp) _ M H
  |true =>
   have A:xZ.wrap (((i+Zq (s.drop i)+1:Nat):Int)+(Zq (s.drop (i+Zq (s.drop i)+1)):Int))=((i+Zq (s.drop i)+1+Zq (s.drop (i+Zq (s.drop i)+1)):Nat):Int):=by rw[Zr (by omega) (by omega)];omega
   have B:xZ.wrap ((1:Int)+(Zq (s.drop (i+Zq (s.drop i)+1)):Int))=((1+Zq (s.drop (i+Zq (s.drop i)+1)):Nat):Int):=by rw[Zr (by omega) (by omega)];omega
   have z:(s.take (i+Zq (s.drop i)+1+Zq (s.drop (i+Zq (s.drop i)+1)))).drop (i+Zq (s.drop i)+1)=(s.drop (i+Zq (s.drop i)+1)).take (Zq (s.drop (i+Zq (s.drop i)+1))):=by rw[xQ];congr 1;omega
   have hfl:((s.drop (i+Zq (s.drop i)+1)).take (Zq (s.drop (i+Zq (s.drop i)+1)))).length<=1048576:=by rw[yW];omega
   have h:∀ n:Nat,decide ((0:Int)<(n:Int))=decide (0<n):=fun n=>by simp
   simp only[go_sem,j,Zmh (show i+Zq (s.drop i)+1<=s.length by omega),ZeN _ (show (s.drop (i+Zq (s.drop i)+1)).length<=1048576 by omega),h,zW]
   have g:∃ e,(Z0 (Z5 .add (wA J ((i+Zq (s.drop i):Nat):Int)) (wA J 1)) fun C =>
    Z0 (Z5 .add (wA J ((i+Zq (s.drop i):Nat):Int)) (wA J 1)) fun D =>
    Z0 (Z5 .add D (wA J (Zq (s.drop (i+Zq (s.drop i)+1)):Int))) fun E =>
    Z0 (ZU (.str s) (some C) (some E) none) fun F =>
    Z0 (Z5 .add (wA J 1) (wA J (Zq (s.drop (i+Zq (s.drop i)+1)):Int))) fun K =>
    Z0 (Z5 .add (wA J ((i+Zq (s.drop i):Nat):Int)) K) fun u =>
    WD (.bool neg) (wA J (Zq (s.drop i):Int)) (.str ((s.drop i).take (Zq (s.drop i)))) F u M H)=some (.tuple [wA J (O9 neg (Zq (s.drop i)) ((s.drop i).take (Zq (s.drop i))) ((s.drop (i+Zq (s.drop i)+1)).take (Zq (s.drop (i+Zq (s.drop i)+1))))),wA J e],H):=by
    simp only[go_sem,j,A,B,Fj (show i+Zq (s.drop i)+1<=i+Zq (s.drop i)+1+Zq (s.drop (i+Zq (s.drop i)+1)) by omega) (show i+Zq (s.drop i)+1+Zq (s.drop (i+Zq (s.drop i)+1))<=s.length by omega),z];exact ZhA neg _ _ _ w hfl _ M H
   simp only[go_sem,j,A,B,Fj (show i+Zq (s.drop i)+1<=i+Zq (s.drop i)+1+Zq (s.drop (i+Zq (s.drop i)+1)) by omega) (show i+Zq (s.drop i)+1+Zq (s.drop (i+Zq (s.drop i)+1))<=s.length by omega),z]at g
   cases V:decide (0<Zq (s.drop i)) with
   |true =>
    simp only[go_sem,zO,if_true,j,A,B,Fj (show i+Zq (s.drop i)+1<=i+Zq (s.drop i)+1+Zq (s.drop (i+Zq (s.drop i)+1)) by omega) (show i+Zq (s.drop i)+1+Zq (s.drop (i+Zq (s.drop i)+1))<=s.length by omega),z];exact g
   |false =>
    cases N:decide (0<Zq (s.drop (i+Zq (s.drop i)+1))) with
    |true =>
     simp only[go_sem,h,N,yY,if_true,j,A,B,Fj (show i+Zq (s.drop i)+1<=i+Zq (s.drop i)+1+Zq (s.drop (i+Zq (s.drop i)+1)) by omega) (show i+Zq (s.drop i)+1+Zq (s.drop (i+Zq (s.drop i)+1))<=s.length by omega),z];exact g
    |false =>
     simp only[go_sem,h,N,xI,zD,if_false];exact ZhA neg _ _ _ w (by simp) _ M H
 ·have Q:decide (((i+Zq (s.drop i):Nat):Int)<(s.length:Int))=false:=by simp;omega
  have R:(s.drop i).drop (Zq (s.drop i))=[]:=zG.2 (by omega);rw[Zv9 R];simp only[Q,go_sem];exact ZhA neg _ _ _ w (by simp) _ M H
def Zq9:List UInt8->Int
 |[]=>HR false []
 |b::r=>if (((b.toNat:Int)==45) || ((b.toNat:Int)==43))=true then HR ((b.toNat:Int)==45) r else HR ((b.toNat:Int)==45) (b::r)
theorem ZsD (b:UInt8)(r:List UInt8):Zq9 (b::r)=if (((b.toNat:Int)==45) || ((b.toNat:Int)==43))=true then HR ((b.toNat:Int)==45) r else HR ((b.toNat:Int)==45) (b::r):=(Eq.refl _).trans (Eq.refl _)
def Zqa (s:List UInt8):Int:=Zq9 (s.drop (Yw s))
theorem ZsF (s:List UInt8)(z:s.length<=1048576){i:Nat}(hi:i<=s.length)(u H:Hp) :
 ∃ e,BV (.str s) (wA J (i:Int)) u H=some (.tuple [wA J (Zq9 (s.drop i)),wA J e],H):=by
 rw[IL];by_cases h:i<s.length
 ·have j:decide ((i:Int)<(s.length:Int))=true:=by simp;omega
  have w:xZ.wrap ((i:Int)+1)=((i+1:Nat):Int):=by rw[Zr (by omega) (by omega)];omega
  have g:=ZX (zC h);rw[Q3 h];simp only[YI,go_sem,j,g,ZsD]
  cases C:((s[i].toNat:Int)==45) with
  |true =>
   simp only[go_sem,j,g,w,zO,if_true];exact Zhz s z true (by omega) u H
  |false =>
   simp only[go_sem,YI,j,g]
   cases B:((s[i].toNat:Int)==43) with
   |true =>
    simp only[go_sem,j,g,w,yY,if_true];exact Zhz s z false (by omega) u H
   |false =>
    simp only[go_sem,xI,Bool.or_self,zD,if_false];rw[<-Q3 h];exact Zhz s z false (by omega) u H
 ·have j:decide ((i:Int)<(s.length:Int))=false:=by simp;omega
  have A:s.drop i=[]:=zG.2 (by omega);simp only[YI,go_sem,j,A];have:=Zhz s z false hi u H;rw[A]at this;exact this
theorem ZxP (s:List UInt8)(F:s.length<=1048576)(C H:Hp):∀ (k i:Nat),s.length-i=k->i<=s.length ->
 ∃ e,QC (.str s) (wA J (i:Int)) C H=some (.tuple [wA J (Zq9 ((s.drop i).drop (Yw (s.drop i)))),wA J e],H):=by
 intro k
 induction k with
 |zero =>
  intro i hk hi;have u:decide ((i:Int)<(s.length:Int))=false:=by simp;omega
  have K:s.drop i=[]:=zG.2 (by omega);rw[Rx];simp only[YI,go_sem,u];have:=ZsF s F hi C H;rw[K]at this ⊢;exact this
 |succ k M =>
  intro i hk hi;have D:i<s.length:=by omega
  have u:decide ((i:Int)<(s.length:Int))=true:=by simp;omega
  have A:xZ.wrap ((i:Int)+1)=((i+1:Nat):Int):=by rw[Zr (by omega) (by omega)];omega
  have z:=ZX (zC D);have B:=M (i+1) (by omega) (by omega)
  have g:Xm s[i]=true->(s.drop i).drop (Yw (s.drop i))=(s.drop (i+1)).drop (Yw (s.drop (i+1))):=fun h=>by
   rw[Q3 D,VV,h,if_pos rfl,List.drop_succ_cons]
  have w:Xm s[i]=false->(s.drop i).drop (Yw (s.drop i))=s.drop i:=fun h=>by
   rw[Q3 D,VV,h];simp
  have hb:Xm s[i]=(((s[i].toNat:Int)==32) || ((s[i].toNat:Int)==9)):=by
   rw[Xm,(C2 s[i]).1,(C2 s[i]).2]
  rw[Rx];simp only[YI,go_sem,u,z]
  cases j:((s[i].toNat:Int)==32) with
  |true =>
   simp only[go_sem,Rw,A];rw[g (by rw[hb,j];rfl)];exact B
  |false =>
   simp only[go_sem,z]
   cases E:((s[i].toNat:Int)==9) with
   |true =>
    simp only[go_sem,Rw,A];rw[g (by rw[hb,j,E];rfl)];exact B
   |false =>
    simp only[go_sem];rw[w (by rw[hb,j,E];rfl)];exact ZsF s F hi C H
theorem ZlW (s:List UInt8)(g:s.length<=1048576)(H:Hp):∃ e,Zf Jj [.str s] H=some (.tuple [wA J (Zqa s),wA J e],H):=by
 obtain⟨e,h⟩:=ZxP s g [] [] _ 0 rfl (xC _);rw[show ((0:Nat):Int)=0 from rfl,zQ]at h;refine⟨e,XI (a':=.str s) (H1:=[]) rfl ?_ rfl⟩;rw[Zay];exact h
def HS (a b:Int):Int:=if a<b then -1 else if b<a then 1 else 0
theorem ZsX (a b:Int)(H:Hp):Zf TW [wA J a,wA J b] H=some (wA J (HS a b),H):=by
 refine F1 (a':=wA J a) (b':=wA J b) (H1:=[]) rfl rfl ?_ rfl;rw[ZdV];unfold Aq HS;by_cases h:a<b
 ·simp only[go_sem,decide_eq_true h,if_pos h]
 ·by_cases g:b<a
  ·simp only[go_sem,decide_eq_false h,if_neg h,decide_eq_true g,if_pos g]
  ·simp only[go_sem,decide_eq_false h,if_neg h,decide_eq_false g,if_neg g,Zdo]
def ZdA (b:UInt8):Bool:=Xm b || Zsa b.toNat || PM b.toNat
def F0 (s:List UInt8):List UInt8:=s.filter ZdA
theorem Zru:((yQ 256).all fun n=>(Rq (Zkp (.bool (Xm (yG n))) (.int .u8 (n:Int)))==some (ZdA (yG n)))&&(Rq (ZsL (.bool (Xm (yG n))) (.int .u8 (n:Int)))==some (ZdA (yG n))))=true:=by kernel_rfl
theorem Zu5 (b:UInt8):Zkp (.bool (Xm b)) (.int .u8 b.toNat)=some (.bool (ZdA b))/\ZsL (.bool (Xm b)) (.int .u8 b.toNat)=some (.bool (ZdA b)):=by
 have:=WF Zru (ZdK b);rw[xN,yN,beq_iff_eq,beq_iff_eq]at this;exact⟨Qo this.1,Qo this.2⟩
theorem ZtN (g:List UInt8)(b:UInt8)(h:g.length<=1048576):byteE.run [.ptr 0 0,.int .u8 b.toNat] [yZ 201 5 g]=some (.nili,[yZ 201 5 (g++[b])]):=by
 have hb:=b.toNat_lt;have u:g.length+1<=ZfK:=by unfold ZfK;omega
 have j:ZgJ [.int .u8 b.toNat]=some fun l=>if l.length+1<=ZfK then some (.nili,l++[yG (b.toNat:Int).toNat]) else none:=by
  simp only[ZgJ,if_pos (show (0:Int)<=(b.toNat:Int)/\(b.toNat:Int)<256 by omega)]
 simp only[byteE,ZvI,Ziq,E0,j,zB,Zfr,P3,P4,and_self,if_true,if_pos u,xJ,Int.toNat_natCast,xN]
theorem ZhL (g:List UInt8):stringE.run [.ptr 0 0] [yZ 201 5 g]=some (.str g,[yZ 201 5 g]):=rfl
theorem Zrw (s:List UInt8)(B:s.length<=1048576)(A:Hp):∀ (r done:List UInt8) (g:List UInt8),s=done++r->g.length<=done.length ->
 ∃ H',G3 (.str s) (.ptr 0 0) (wA J (s.length:Int)) (wA J (done.length:Int)) A [yZ 201 5 g]=some (.str (g++F0 r),H'):=by
 intro r
 induction r with
 |nil =>
  intro done g j ha;rw[yA]at j;subst j;have u:decide ((s.length:Int)<(s.length:Int))=false:=by simp
  refine⟨[yZ 201 5 g],?_⟩;rw[Nw];simp only[go_sem,u,Zdm,ZhL];simp[F0]
 |cons b r z =>
  intro done g j ha;have hlen:s.length=done.length+(r.length+1):=by rw[j];simp
  have u:decide ((done.length:Int)<(s.length:Int))=true:=by simp;omega
  have w:xZ.wrap ((done.length:Int)+1)=((done.length+1:Nat):Int):=by rw[Zr (by omega) (by omega)];omega
  rw[Nw];simp only[go_sem,u,OL,ZlA j,IF,(Zu5 b).1]
  cases hb:ZdA b with
  |true =>
   obtain⟨H',h⟩:=z (done++[b]) (g++[b]) (by rw[j];simp) (by simp;omega);rw[zY,zX]at h;refine⟨H',?_⟩;simp only[go_sem,ZtN g b (by omega),Nv,w,h,F0,xP,hb,if_true,List.append_assoc,List.singleton_append]
  |false =>
   obtain⟨H',h⟩:=z (done++[b]) g (by rw[j];simp) (by simp;omega);rw[zY,zX]at h;refine⟨H',?_⟩;simp only[go_sem,Nv,w,h,F0,xP,hb,zD,if_false]
theorem Zrv (s:List UInt8)(g:s.length<=1048576)(H:Hp):Zf TU [.str s] H=some (.str (F0 s),H):=by
 obtain⟨H',h⟩:=Zrw s g [] s [] [] rfl (yS _);rw[zJ,show ((0:Nat):Int)=0 from rfl,zI]at h;refine XI (a':=.str s) (H1:=H') rfl ?_ rfl;rw[ZdU];unfold Ap;simp only[go_sem,zJ,zI,h]
theorem P6 (s:List UInt8):(F0 s).length<=s.length:=List.length_filter_le _ _
def Xi (s:List UInt8):List UInt8:=s.drop (Yw s)
theorem IT (s:List UInt8):(Xi s).length<=s.length:=by unfold Xi;rw[yL];omega
theorem Zn5 (b:UInt8)(s:List UInt8):Xi (b::s)=if Xm b then Xi s else b::s:=by
 unfold Xi;rw[VV];split <;> simp
theorem Zqw (s:List UInt8):Go.Lib.trimLeftS s [32,9]=Xi s:=by
 unfold Go.Lib.trimLeftS
 induction s with
 |nil=>rfl
 |cons b s g =>
  rw[Zn5,List.dropWhile_cons]
  have:([32,9]:List UInt8).contains b=Xm b:=by
   rw[yD,yD,Xm];simp
  rw[this,g]
theorem Ztc (s:List UInt8)(H:Hp):Zf BO [.str s] H=some (.str (Xi s),H):=by
 refine XI (a':=.str s) (H1:=[]) rfl ?_ rfl;rw[Iq];unfold Md
 have:ZdJ [.str s,.str [32,9]]=some (.str (Xi s)):=by
  unfold ZdJ;dsimp only;rw[if_pos ⟨by decide,by decide⟩,Zqw]
 simp only[go_sem,OS,this]
theorem ZxZ (L:Loc)(s:List UInt8):(upS L s).length=s.length:=by simp[upS,Vk]
theorem ZrN {l:List AV}{L:Loc}(h:LocCells l L)(hok:LocOk L)(s:List UInt8)(z:s.length<=1048576)(H:Hp):Zf BP [.str s,.vp l] H=some (.str (upS L s),H):=by
 obtain⟨B,j,x,c,e,rfl,hx,u,w⟩:=h.close [] 0 5;have g:Zd [] 0 9 (.vp l)=some (.vp (L.cells x c e)):=by rw[Q1,j]
 refine F1 (a':=.str s) rfl g (H1:=[]) ?_ rfl;rw[Ir];unfold Me;have A:=Zqy (L:=L) ⟨x,c,e,rfl,hx,u,w⟩ hok s z [];simp only[go_sem,Vh 6 (L.cells x c e) rfl,A.1]
def Qh (L:Loc)(n:Nat)(s:List UInt8):List UInt8 :=
 let s1:=if n.testBit 3 then Xi s else s
 let s2:=if n.testBit 4 then F0 s1 else s1
 if n.testBit 2 then upS L s2 else s2
theorem ZjG (L:Loc)(n:Nat)(s:List UInt8):(Qh L n s).length<=s.length:=by
 have g:=IT s;have h:=P6 s;have j:=P6 (Xi s);simp only[Qh];split <;> split <;> split <;> (try rw[ZxZ]) <;> omega
theorem ZfP:∀ a b:List Int,VU a b=-1\/VU a b=0\/VU a b=1:=by
 intro a
 induction a with
 |nil=>intro b;cases b <;> simp[VU]
 |cons x a g =>
  intro b
  cases b with
  |nil=>simp[VU]
  |cons y b =>
   rw[Jh];split
   ·simp
   ·split
    ·simp
    ·exact g b
theorem ZtX (a b:List UInt8):Jt a b=-1\/Jt a b=0\/Jt a b=1:=by rw[<-ZkY];exact ZfP _ _
theorem ZkZ (L:Loc)(a b:List UInt8):BU L a b=-1\/BU L a b=0\/BU L a b=1:=by
 unfold BU;split
 ·exact ZfP _ _
 ·exact ZtX _ _
theorem Zme (a b:Int):HS a b=-1\/HS a b=0\/HS a b=1:=by
 unfold HS;split
 ·simp
 ·split <;> simp
def No (L:Loc)(n:Nat)(x y:List UInt8):Int:=if n.testBit 0 then HS (Zqa x) (Zqa y) else BU L (Qh L n x) (Qh L n y)
def Qf (L:Loc)(n:Nat)(x y:List UInt8):Int:=if n.testBit 1 then -No L n x y else No L n x y
theorem Zms {c t:Int}(g:c=-1\/c=0\/c=1)(h:t=1\/t=-1):xZ.wrap (t*c)=if t=-1 then -c else c:=by
 rcases h with rfl|rfl <;> rcases g with rfl|rfl|rfl <;> decide
section
variable {n:Nat}(hn:n<32)
include hn
theorem Zxi:Z5 .and (wA J n) (wA J 1)=some (wA J (if n.testBit 0 then 1 else 0)):=Zc8 (j:=0) hn (by decide)
theorem Ztz:Z5 .and (wA J n) (wA J 2)=some (wA J (if n.testBit 1 then 2 else 0)):=Zc8 (j:=1) hn (by decide)
theorem Zyw:Z5 .and (wA J n) (wA J 4)=some (wA J (if n.testBit 2 then 4 else 0)):=Zc8 (j:=2) hn (by decide)
theorem Zyx:Z5 .and (wA J n) (wA J 8)=some (wA J (if n.testBit 3 then 8 else 0)):=Zc8 (j:=3) hn (by decide)
theorem Zy8:Z5 .and (wA J n) (wA J 16)=some (wA J (if n.testBit 4 then 16 else 0)):=Zc8 (j:=4) hn (by decide)
end
theorem Zh6 {f:List AV->Hp->Z4}{a a' b b' c c' d d' v:AV}{H H1:Hp}(ha:Zd [] 0 9 a=some a')(hb:Zd [] 0 9 b=some b')(h:Zd [] 0 9 c=some c')(j:Zd [] 0 9 d=some d')(g:f [a',b',c',d'] []=some (v,H1))(u:F2 3 v=true):Zf f [a,b,c,d] H=some (v,H) :=
 Ws (args':=[a',b',c',d']) (by simp[ha,hb,h,j]) g u
theorem ZlJ (L:Loc)(x c e:AV)(r:List AObj):Z3 true 6 (.ptr 0 0) (zA (L.cells x c e)::r)=some (.agg (L.cells x c e)):=by simp[Z3,Go.Am.apart,Loc.cells]
theorem ZwK {c:Int}(g:c=-1\/c=0\/c=1):xZ.wrap (0-c)=-c:=by rcases g with rfl|rfl|rfl <;> decide
def Gy (z:AObj)(n:Nat)(x y:List UInt8):Hp:=[z,.cells [wA J n],.cells [.str x],.cells [.str y]]
theorem Hx {z:AObj}{n:Nat}{x y:List UInt8}{fnv:AV}{g:List UInt8->List UInt8}{m:Int}{h:Bool}(j:Z5 .and (wA J n) (wA J m)=some (wA J (if h then m else 0)))(hm:(m != 0)=true)
 (u:∀ s:List UInt8,(s=x\/s=y)->∀ H,Xu cfg (Za cfg) fnv [.str s] H=some (.str (g s),H)) :
 BN [wA J m,fnv,.ptr 1 0,.ptr 2 0,.ptr 3 0] (Gy z n x y)=some (.tuple [],Gy z n (if h then g x else x) (if h then g y else y)):=by
 have w:Z3 false 1 (.ptr 1 0) (Gy z n x y)=some (wA J n):=Y2 (l:=[wA J n]) rfl;have A:Z3 false 1 (.ptr 2 0) (Gy z n x y)=some (.str x):=Y2 (l:=[.str x]) rfl;have B:Z3 false 1 (.ptr 3 0) (Gy z n x y)=some (.str y):=Y2 (l:=[.str y]) rfl;have C:Zb 1 (.ptr 2 0) (.str (g x)) (Gy z n x y)=some (.tuple [],Gy z n (g x) y):=by simp[Zb,YU,Gy,yF,zV,splice]
 have D:Zb 1 (.ptr 3 0) (.str (g y)) (Gy z n (g x) y)=some (.tuple [],Gy z n (g x) (g y)):=by simp[Zb,YU,Gy,yF,zV,splice]
 rw[Ip];unfold Mc
 cases h with
 |true=>simp only[go_sem,w,j,if_true,hm,A,u x (.inl rfl),B,u y (.inr rfl),C,D]
 |false=>simp only[go_sem,w,j,zD,if_false,bne_self_eq_false]
theorem Zhx {a:AV}{L:Loc}(h:LocAV a L)(hok:LocOk L){n:Nat}(hn:n<32)(s t:List UInt8)(K:s.length<=1048576)(ht:t.length<=1048576)(H:Hp):Zf UX [a,wA J n,.str s,.str t] H=some (wA J (Qf L n s t),H):=by
 obtain⟨a1,Y,U⟩:=h.close [] 0 5;have C:=U;obtain⟨x,c,e,rfl,hx,Z,he⟩:=U;have E:LocCells (L.cells x c e) L:=⟨x,c,e,rfl,hx,Z,he⟩
 suffices K:∃ H1,UX [.agg (L.cells x c e),wA J n,.str s,.str t] []=some (wA J (Qf L n s t),H1) by
  obtain⟨H1,w⟩:=K;exact Zh6 Y (b':=wA J n) (c':=.str s) (d':=.str t) rfl rfl rfl w rfl
 have B:∀ z x y,Z3 false 1 (.ptr 1 0) (Gy z n x y)=some (wA J n):=fun z x y=>Y2 (l:=[wA J n]) rfl;have V:∀ z x y,Z3 false 1 (.ptr 2 0) (Gy z n x y)=some (.str x):=fun z x y=>Y2 (l:=[.str x]) rfl;have W:∀ z x y,Z3 false 1 (.ptr 3 0) (Gy z n x y)=some (.str y):=fun z x y=>Y2 (l:=[.str y]) rfl
 have D:∀ (z:Int) (j:z=1\/z=-1),∃ H1,Fu (.ptr 0 0) (.ptr 1 0) (.ptr 2 0) (.ptr 3 0) (wA J z) [] (Gy (.cells (L.cells x c e)) n s t)=some (wA J (if z=-1 then -BU L (Qh L n s) (Qh L n t) else BU L (Qh L n s) (Qh L n t)),H1):=fun z j=>by
  have S:=Hx (z:=.cells (L.cells x c e)) (n:=n) (x:=s) (y:=t) (fnv:=.fn (.func 115) [] []) (g:=Xi) (m:=8) (Zyx hn) rfl (fun r _ H=>by rw[ZdW];exact Ztc r H);have d1:=IT s;have d2:=IT t
  have T:=Hx (z:=.cells (L.cells x c e)) (n:=n) (x:=if n.testBit 3 then Xi s else s) (y:=if n.testBit 3 then Xi t else t) (fnv:=.fn (.func 117) [] []) (g:=F0) (m:=16) (Zy8 hn) rfl (fun r w H=>by
   rw[Zil];refine Zrv r ?_ H;rcases w with rfl|rfl <;> split <;> omega)
  have X:=Hx (z:=.dead) (n:=n) (x:=if n.testBit 4 then F0 (if n.testBit 3 then Xi s else s) else (if n.testBit 3 then Xi s else s)) (y:=if n.testBit 4 then F0 (if n.testBit 3 then Xi t else t) else (if n.testBit 3 then Xi t else t)) (fnv:=.fn (.func 118) [] [.vp (L.cells x c e)]) (g:=upS L) (m:=4) (Zyw hn) rfl (fun r w H=>by
   rw[ZdX];refine ZrN E hok r ?_ H;have:=P6 s;have:=P6 t;have:=P6 (Xi s);have:=P6 (Xi t);rcases w with rfl|rfl <;> split <;> split <;> omega)
  have aa:=ZjG L n s;have ab:=ZjG L n t;have F:∀ (N O:List UInt8) (k:AV->Hp->Z4),UI (.ptr 0 0) (Gy (.cells (L.cells x c e)) n N O) k=k (.vp (L.cells x c e)) (Gy .dead n N O):=fun N O k=>rfl;refine⟨Gy .dead n (Qh L n s) (Qh L n t),?_⟩;rw[Zbe];simp only[go_sem,Ze7,zI,zM,S,T,F,X,Vh 6 (L.cells x c e) rfl,V,W];have M:∀ r,(if n.testBit 2=true then upS L (if n.testBit 4=true then F0 (if n.testBit 3=true then Xi r else r) else if n.testBit 3=true then Xi r else r) else if n.testBit 4=true then F0 (if n.testBit 3=true then Xi r else r) else if n.testBit 3=true then Xi r else r)=Qh L n r:=fun r=>rfl;simp only[M,Zjp C hok (Qh L n s) (Qh L n t) (by omega) (by omega),go_sem,Zms (ZkZ _ _ _) j]
 have u:∀ (z:Int) (j:z=1\/z=-1),∃ H1,JX (.ptr 0 0) (.ptr 1 0) (.ptr 2 0) (.ptr 3 0) (wA J z) [] (Gy (.cells (L.cells x c e)) n s t)=some (wA J (if z=-1 then -No L n s t else No L n s t),H1):=fun z j=>by
  rw[Zbd];unfold No
  cases hb:n.testBit 0 with
  |true =>
   obtain⟨S,p1⟩:=ZlW s K (Gy (.cells (L.cells x c e)) n s t);obtain⟨T,p2⟩:=ZlW t ht (Gy (.cells (L.cells x c e)) n s t);refine⟨Gy (.cells (L.cells x c e)) n s t,?_⟩;simp only[go_sem,B,Zxi hn,hb,if_true,show ((1:Int) != 0)=true from rfl,V,W,p1,p2,Zy5,Zy6,ZsX,Zms (Zme _ _) j]
  |false =>
   obtain⟨H1,q⟩:=D z j;refine⟨H1,?_⟩;simp only[go_sem,B,Zxi hn,hb,zD,if_false,bne_self_eq_false];exact q
 have Q:∀ (k:Int) (H:Hp),ZN (wA J k) H=some (.ptr H.length 0,H++[.cells [wA J k]]):=fun k H=>FH rfl;have R:∀ (k:List UInt8) (H:Hp),ZN (.str k) H=some (.ptr H.length 0,H++[.cells [.str k]]):=fun k H=>FH rfl;rw[ZbC];unfold SO;have A:[zA (L.cells x c e),.cells [wA J n],.cells [.str s],.cells [.str t]]=Gy (.cells (L.cells x c e)) n s t:=rfl;unfold Qf
 cases hb:n.testBit 1 with
 |true =>
  obtain⟨H1,q⟩:=u (-1) (.inr rfl);refine⟨H1,?_⟩;simp only[go_sem,Q,R,zJ,zL,zI,zM,zF,yO,A,B,Ztz hn,hb,if_true,show ((2:Int) != 0)=true from rfl];simpa using q
 |false =>
  obtain⟨H1,q⟩:=u 1 (.inl rfl);refine⟨H1,?_⟩;simp only[go_sem,Q,R,zJ,zL,zI,zM,zF,yO,A,B,Ztz hn,hb,zD,if_false,bne_self_eq_false];simpa using q
def plainP:Spec:=⟨[],-1,0,false,false⟩
def Zy (p:Spec):Spec:=if (ZJ p != 0)=true then plainP else p
theorem Sl.known {k:Nat}{x:AV}{l:List AV}(h:Sl k x l):x.known=true:=by
 rcases h with ⟨rfl,_⟩|⟨tok,rfl⟩ <;> rfl
theorem ZhW {a:AV}{p:Spec}(h:SpecAV a p)(H:Hp):∃ a',Zf Vo [a] H=some (a',H)/\SpecAV a' (Zy p):=by
 obtain⟨F,C,D⟩:=h.close [] 0 5;have z:=fun H=>MX D H;obtain⟨x,rfl,hx⟩:=D;have E:Z3 true 5 (.ptr 0 0) [zA (p.cells x),.cells [.nils,wA J 0,wA J 0,.bool false,.bool false]]=some (.agg (p.cells x)):=by simp[Z3,Go.Am.apart,Spec.cells]
 unfold Zy
 cases hb:(ZJ p != 0) with
 |true =>
  have j:(YD [(1,1,(wA J (-1)))] [.nils,(wA J 0),(wA J 0),(.bool false),(.bool false)]).map AV.agg=some (.agg (plainP.cells .nils)):=rfl;have w:Zb 5 (.ptr 1 0) (.agg (plainP.cells .nils)) [zA (p.cells x),.cells [.nils,wA J 0,wA J 0,.bool false,.bool false]]=some (.tuple [],[zA (p.cells x),.cells (plainP.cells .nils)]):=by simp[Zb,YU,yF,zV,Spec.cells,splice]
  have u:Z3 true 5 (.ptr 1 0) [zA (p.cells x),.cells (plainP.cells .nils)]=some (.agg (plainP.cells .nils)):=by simp[Z3,Go.Am.apart,Spec.cells]
  have g:Vo [.agg (p.cells x)] []=some (.agg (plainP.cells .nils),[zA (p.cells x),.cells (plainP.cells .nils)]):=by
   rw[PW];unfold R0;simp only[go_sem,zI,zJ,zL,zM,zF,E,z,hb,j,w,u]
  obtain⟨a',A,B⟩:=SpecAV.close (a:=.agg (plainP.cells .nils)) (p:=plainP) ⟨.nils,rfl,.inl ⟨rfl,rfl⟩⟩ [zA (p.cells x),.cells (plainP.cells .nils)] 0 5;exact⟨a',Pc C g A,by simpa using B⟩
 |false =>
  have w:Zb 5 (.ptr 1 0) (.agg (p.cells x)) [zA (p.cells x),.cells [.nils,wA J 0,wA J 0,.bool false,.bool false]]=some (.tuple [],[zA (p.cells x),.cells (p.cells x)]):=by simp[Zb,YU,yF,zV,Spec.cells,splice]
  have u:Z3 true 5 (.ptr 1 0) [zA (p.cells x),.cells (p.cells x)]=some (.agg (p.cells x)):=by simp[Z3,Go.Am.apart,Spec.cells]
  have g:Vo [.agg (p.cells x)] []=some (.agg (p.cells x),[zA (p.cells x),.cells (p.cells x)]):=by
   rw[PW];unfold R0;simp only[go_sem,zI,zJ,zL,zM,zF,E,z,hb,Zbf,w,u]
  obtain⟨a',A,B⟩:=SpecAV.close (a:=.agg (p.cells x)) (p:=p) ⟨x,rfl,hx⟩ [zA (p.cells x),.cells (p.cells x)] 0 5;exact⟨a',Pc C g A,by simpa using B⟩
theorem ZjS (p:Spec):(0<=(Zy p).flags/\(Zy p).flags<=31)/\(Zy p).keys.length<=8/\∀ k∈(Zy p).keys,0<=k.fl/\k.fl<=31:=by
 unfold Zy
 cases hb:(ZJ p != 0) with
 |true=>simp[plainP]
 |false =>
  rw[bne_eq_false_iff_eq]at hb;unfold ZJ at hb;split at hb
  ·cases hb
  ·split at hb
   ·cases hb
   ·split at hb
    ·cases hb
    ·rename_i w g j;simp only[yP,decide_eq_true_eq,not_or]at g;simp only[zD,if_false];refine⟨by omega,by omega,fun k hk=>?_⟩;have u:¬ Kc k=true:=fun h=>j (List.any_eq_true.2 ⟨k,hk,h⟩);simp only[Kc,yP,decide_eq_true_eq,not_or]at u;omega
theorem Zf0 (p:Spec)(h:∀ k∈p.keys,KeOk k):∀ k∈(Zy p).keys,KeOk k:=by
 unfold Zy;split
 ·intro k hk;cases hk
 ·exact h
theorem ZrB (g:List UInt8)(fs:List (Nat×Nat))(k:Ke):(ex g fs k).length<=g.length:=by
 unfold ex;split
 ·dsimp only;split
  ·simp
  ·rw[yL,yW];omega
 ·simp
def El (p:Spec)(k:Ke):Nat:=if (k.fl==0)=true then p.flags.toNat else k.fl.toNat
def II (L:Loc)(p:Spec)(a b:List UInt8):List Ke->Int
 |[]=>0
 |k::l=>if (Qf L (El p k) (ex a (fields a p.sep) k) (ex b (fields b p.sep) k) != 0)=true then Qf L (El p k) (ex a (fields a p.sep) k) (ex b (fields b p.sep) k) else II L p a b l
theorem Zj6 (L:Loc)(p:Spec)(a b:List UInt8)(k:Ke)(l:List Ke):II L p a b (k::l)=if (Qf L (El p k) (ex a (fields a p.sep) k) (ex b (fields b p.sep) k) != 0)=true then Qf L (El p k) (ex a (fields a p.sep) k) (ex b (fields b p.sep) k) else II L p a b l:=(Eq.refl _).trans (Eq.refl _)
def Zhn (L:Loc)(p:Spec)(a b:List UInt8):Int:=if (p.keys.length==0)=true then Qf L p.flags.toNat a b else II L p a b p.keys
def Wg (L:Loc)(p:Spec)(a b:List UInt8):Int:=Zhn L (Zy p) a b
def CSt (lc sc:List AV)(g h:AV)(H:Hp):Prop:=(g=.vp lc/\h=.vp sc)\/(g=.ptr 0 0/\h=.ptr 1 0/\H=[.cells lc,.cells sc])
theorem CSt.frz {lc sc:List AV}{z A:AV}{H:Hp}(h:CSt lc sc z A H)(w:List AV):∃ B,∀ K:AV->AV->AV->Hp->Z4,
 (UI z (H++[.cells w]) fun z4 C=>UI A C fun z5 D=>UI (.ptr H.length 0) D fun j g=>K z4 z5 j g)=K (.vp lc) (.vp sc) (.vp w) B:=by
 rcases h with ⟨rfl,rfl⟩|⟨rfl,rfl,rfl⟩
 ·refine⟨H++[.dead],fun K=>?_⟩;have u:∀ (l:List AV) (H:Hp) (k:AV->Hp->Z4),UI (.vp l) H k=k (.vp l) H:=fun l H k=>rfl;rw[u,u,Zut]
 ·exact⟨[.dead,.dead,.dead],fun K=>rfl⟩
theorem CSt.fld {lc:List AV}{x:AV}{p:Spec}{j g:AV}{H:Hp}(h:CSt lc (p.cells x) j g H) :
 (∃ y,Z7 0 g=some y/\∀ r,Z3 false 1 y (H++r)=some x)/\(∃ y,Z7 2 g=some y/\∀ r,Z3 false 1 y (H++r)=some (wA J p.flags)):=by
 rcases h with ⟨rfl,rfl⟩|⟨rfl,rfl,rfl⟩
 ·exact⟨⟨.vp (p.cells x),rfl,fun r=>by simp only[Spec.cells,Zz]⟩,⟨.vp [wA J p.flags,.bool p.uniq,.bool p.stab],rfl,fun r=>by simp only[Zz]⟩⟩
 ·exact⟨⟨.ptr 1 0,rfl,fun r=>Y2 (l:=p.cells x) rfl⟩,⟨.ptr 1 2,rfl,fun r=>Y2 (l:=p.cells x) rfl⟩⟩
theorem vpf (x:AV)(p:Spec):Z7 1 (.vp (p.cells x))=some (.vp [wA J p.sep,wA J p.flags,.bool p.uniq,.bool p.stab]):=rfl
theorem ZoJ (L:Loc)(x c e:AV):QZ true 6 (.vp (L.cells x c e))=some (.agg (L.cells x c e)):=rfl
theorem ZqU (k:Ke):QZ true 5 (.vp k.cells)=some (.agg k.cells):=rfl
section
variable {L:Loc}{x c e:AV}(hav:LocAV (.agg (L.cells x c e)) L)(hok:LocOk L){p:Spec}{xk:AV}(hk:Sl 5 xk (p.keys.map Ke.av))(hlen:p.keys.length<=8)
 (hks:∀ k∈p.keys,KeOk k) (hkf:∀ k∈p.keys,0<=k.fl/\k.fl<=31) (hfl:0<=p.flags/\p.flags<=31) (a b:List UInt8) (ha:a.length<=1048576) (hb:b.length<=1048576)
include hav hok hk hlen hks hkf hfl ha hb
theorem ZtY:∀ (m i:Nat) (D E:AV) (H:Hp),p.keys.length-i=m->i<=p.keys.length->CSt (L.cells x c e) (p.cells xk) D E H ->
 ∃ H',Qk (.str a) (.str b) D E xk (wA J (p.keys.length:Int)) (wA J (i:Int)) [] H=some (wA J (II L p a b (p.keys.drop i)),H'):=by
 intro m
 induction m with
 |zero =>
  intro i D E H hm hi A;have z:decide ((i:Int)<(p.keys.length:Int))=false:=by simp;omega
  have X:p.keys.drop i=[]:=zG.2 (by omega);refine⟨H,?_⟩;rw[FM];simp only[go_sem,z,I7,X,II]
 |succ m Z =>
  intro i D E H hm hi A;have u:i<p.keys.length:=by omega
  have z:decide ((i:Int)<(p.keys.length:Int))=true:=by simp;omega
  have hw:xZ.wrap ((i:Int)+1)=((i+1:Nat):Int):=by rw[Zr (by omega) (by omega)];omega
  have j:p.keys[i]∈p.keys:=yK u;have w:=hks _ j;have B:=hkf _ j;rw[zH u,Zj6];have h:p.keys[i]?=some p.keys[i]:=zC u;generalize p.keys[i]=k at w B h;obtain⟨_,y,O,Q⟩:=A.fld;obtain⟨S,M⟩:=A.frz k.cells;obtain⟨T,V,_⟩:=Zcq ha w p.sep S;obtain⟨F,W,_⟩:=Zcq hb w p.sep T;have l1:=ZrB a (fields a p.sep) k;have l2:=ZrB b (fields b p.sep) k;have hn:El p k<32:=by unfold El;split <;> omega
  have Y:=Zhx hav hok hn (ex a (fields a p.sep) k) (ex b (fields b p.sep) k) (by omega) (by omega) F
  have g:∃ H',Qj (.str a) (.str b) D E (.ptr H.length 0) (wA J (El p k:Int)) xk (wA J (p.keys.length:Int)) (wA J (i:Int)) [] (H++[.cells k.cells])=some (wA J (if (Qf L (El p k) (ex a (fields a p.sep) k) (ex b (fields b p.sep) k) != 0)=true then Qf L (El p k) (ex a (fields a p.sep) k) (ex b (fields b p.sep) k) else II L p a b (p.keys.drop (i+1))),H'):=by
   rw[Ia,M];simp only[ZoJ,C1,vpf,Zz,ZoK,ZqU,go_sem,V,W,Y]
   cases hc:(Qf L (El p k) (ex a (fields a p.sep) k) (ex b (fields b p.sep) k) != 0) with
   |true=>exact⟨F,by simp only[go_sem,if_true]⟩
   |false =>
    obtain⟨U,q⟩:=Z (i+1) (.vp (L.cells x c e)) (.vp (p.cells xk)) F (by omega) (by omega) (.inl ⟨rfl,rfl⟩);exact⟨U,by simp only[go_sem,zD,if_false,I9,hw,q]⟩
  obtain⟨H',g⟩:=g;refine⟨H',?_⟩;have C:=Zca H k [wA J 0,wA J 0,wA J 0,wA J 0,wA J 0] rfl;have N:Z3 false 1 (.ptr H.length (0+4)) (H++[.cells k.cells])=some (wA J k.fl):=ZH H k.cells 4;rw[FM];simp only[go_sem,z,I8,hk.key h,C1,C,N]
  cases R:(k.fl==0) with
  |true =>
   have K:(p.flags:Int)=((El p k:Nat):Int):=by unfold El;rw[R,if_pos rfl];omega
   simp only[go_sem,O,Q,K];exact g
  |false =>
   have K:(k.fl:Int)=((El p k:Nat):Int):=by unfold El;rw[R,if_neg (by decide)];omega
   simp only[go_sem];rw[K];exact g
end
theorem Zd2 {a:AV}{L:Loc}(h:LocAV a L)(hok:LocOk L){q:AV}{p:Spec}(V:SpecAV q p)(hks:∀ k∈p.keys,KeOk k)(s t:List UInt8)(E:s.length<=1048576)(S:t.length<=1048576)(H:Hp) :
 Zf WB [a,q,.str s,.str t] H=some (wA J (Wg L p s t),H):=by
 obtain⟨Z,U,O⟩:=h.close [] 0 5;obtain⟨q1,T,M⟩:=V.close [] 0 5;have hav:=O;have X:=fun H=>ZhW M H;obtain⟨x,c,e,rfl,hx,hc,he⟩:=O;obtain⟨xp,rfl,Y⟩:=M;obtain⟨v',C,j,rfl,D⟩:=X [zA (L.cells x c e),.cells (p.cells xp)];obtain⟨hfl,hlen,hkf⟩:=ZjS p;have z:=Zf0 p hks
 suffices E:∃ H1,WB [.agg (L.cells x c e),.agg (p.cells xp),.str s,.str t] []=some (wA J (Wg L p s t),H1) by
  obtain⟨H1,W⟩:=E;exact Zh6 U T (c':=.str s) (d':=.str t) rfl rfl W rfl
 have Q:Z3 true 5 (.ptr 1 0) [zA (L.cells x c e),.cells (p.cells xp)]=some (.agg (p.cells xp)):=by simp[Z3,Go.Am.apart,Spec.cells]
 have B:Zb 5 (.ptr 1 0) (.agg ((Zy p).cells j)) [zA (L.cells x c e),.cells (p.cells xp)]=some (.tuple [],[zA (L.cells x c e),.cells ((Zy p).cells j)]):=by simp[Zb,YU,yF,zV,Spec.cells,splice]
 have w:Z3 false 1 (.ptr 1 (0+0)) [zA (L.cells x c e),.cells ((Zy p).cells j)]=some j:=Y2 (l:=(Zy p).cells j) rfl;have F:Z3 false 1 (.ptr 1 (0+2)) [zA (L.cells x c e),.cells ((Zy p).cells j)]=some (wA J (Zy p).flags):=Y2 (l:=(Zy p).cells j) rfl;have u:=D.len 119;rw[zP]at u;have A:=ZlJ L x c e [.cells ((Zy p).cells j)];have hn:(Zy p).flags.toNat<32:=by omega
 have K:((Zy p).flags:Int)=(((Zy p).flags.toNat:Nat):Int):=by omega
 have R:=Zhx hav hok hn s t E S [zA (L.cells x c e),.cells ((Zy p).cells j)];rw[<-K]at R
 have g:(((Zy p).keys.length:Int)==0)=((Zy p).keys.length==0):=by
  rw[zS,beq_iff_eq,beq_iff_eq];omega
 rw[Im];unfold Ma Wg Zhn
 cases N:((Zy p).keys.length==0) with
 |true =>
  exact⟨[zA (L.cells x c e),.cells ((Zy p).cells j)],by simp only[go_sem,Yu,zI,zJ,zL,zM,Q,C,B,w,u,g,N,A,F,R,if_true,zF,yO]⟩
 |false =>
  obtain⟨H',r⟩:=ZtY hav hok D hlen z hkf hfl s t E S _ 0 (.ptr 0 0) (.ptr 1 0) _ rfl (xC _) (.inr ⟨rfl,rfl,rfl⟩);rw[zQ,show ((0:Nat):Int)=0 from rfl]at r;refine⟨H',?_⟩;simp only[go_sem,Yu,zI,zJ,zL,zM,Q,C,B,w,u,g,N,I6,r,zD,if_false,zF,yO]
def Y0 (L:Loc)(p:Spec)(s t:List UInt8):Int :=
 if (Wg L (Zy p) s t != 0 || (Zy p).stab || (Zy p).uniq)=true then Wg L (Zy p) s t else if (Zy p).flags.toNat.testBit 1 then -BU L s t else BU L s t
theorem ZlS {a:AV}{L:Loc}(h:LocAV a L)(hok:LocOk L){q:AV}{p:Spec}(Y:SpecAV q p)(hks:∀ k∈p.keys,KeOk k)(s t:List UInt8)(E:s.length<=1048576)(U:t.length<=1048576)(H:Hp) :
 Zf UW [a,q,.str s,.str t] H=some (wA J (Y0 L p s t),H):=by
 obtain⟨a1,W,T⟩:=h.close [] 0 5;obtain⟨q1,V,S⟩:=Y.close [] 0 5;have hav:=T;have hv:=fun H=>ZhW S H;obtain⟨x,c,e,rfl,hx,hc,he⟩:=T;obtain⟨xp,rfl,aa⟩:=S;obtain⟨v',Q,g,rfl,R⟩:=hv [zA (L.cells x c e),.cells (p.cells xp)];obtain⟨hfl,hlen,hkf⟩:=ZjS p;have C:=Zf0 p hks
 suffices E:∃ H1,UW [.agg (L.cells x c e),.agg (p.cells xp),.str s,.str t] []=some (wA J (Y0 L p s t),H1) by
  obtain⟨H1,Z⟩:=E;exact Zh6 W V (c':=.str s) (d':=.str t) rfl rfl Z rfl
 have X:Z3 true 5 (.ptr 1 0) [zA (L.cells x c e),.cells (p.cells xp)]=some (.agg (p.cells xp)):=by simp[Z3,Go.Am.apart,Spec.cells]
 have O:Zb 5 (.ptr 1 0) (.agg ((Zy p).cells g)) [zA (L.cells x c e),.cells (p.cells xp)]=some (.tuple [],[zA (L.cells x c e),.cells ((Zy p).cells g)]):=by simp[Zb,YU,yF,zV,Spec.cells,splice]
 have N:Z3 true 5 (.ptr 1 0) [zA (L.cells x c e),.cells ((Zy p).cells g)]=some (.agg ((Zy p).cells g)):=by simp[Z3,Go.Am.apart,Spec.cells]
 have z:Z3 false 1 (.ptr 1 (0+2)) [zA (L.cells x c e),.cells ((Zy p).cells g)]=some (wA J (Zy p).flags):=Y2 (l:=(Zy p).cells g) rfl;have B:Z3 false 1 (.ptr 1 (0+3)) [zA (L.cells x c e),.cells ((Zy p).cells g)]=some (.bool (Zy p).uniq):=Y2 (l:=(Zy p).cells g) rfl;have K:Z3 false 1 (.ptr 1 (0+4)) [zA (L.cells x c e),.cells ((Zy p).cells g)]=some (.bool (Zy p).stab):=Y2 (l:=(Zy p).cells g) rfl;have u:=ZlJ L x c e [.cells ((Zy p).cells g)];have hn:(Zy p).flags.toNat<32:=by omega
 have M:((Zy p).flags:Int)=(((Zy p).flags.toNat:Nat):Int):=by omega
 have A:=Zd2 hav hok (q:=.agg ((Zy p).cells g)) ⟨g,rfl,R⟩ C s t E U [zA (L.cells x c e),.cells ((Zy p).cells g)];have w:=Zjp hav hok s t E U [zA (L.cells x c e),.cells ((Zy p).cells g)];have D:=ZwK (ZkZ L s t);have j:=Ztz hn
 have F:Fm (.str s) (.str t) (.ptr 0 0) (.ptr 1 0) [] [zA (L.cells x c e),.cells ((Zy p).cells g)]=some (wA J (if (Zy p).flags.toNat.testBit 1 then -BU L s t else BU L s t),[zA (L.cells x c e),.cells ((Zy p).cells g)]):=by
  rw[Zb0];rw[M]at z
  cases hb:(Zy p).flags.toNat.testBit 1 with
  |true =>
   rw[hb]at j;simp only[go_sem,u,w,z,j,ZnW,D,if_true,show ((2:Int) != 0)=true from rfl]
  |false =>
   rw[hb]at j;simp only[go_sem,u,w,z,j,Zb1,zD,if_false,bne_self_eq_false]
 refine⟨[zA (L.cells x c e),.cells ((Zy p).cells g)],?_⟩;rw[Zbz];unfold SL Y0;simp only[go_sem,Yu,zI,zJ,zL,zM,X,Q,O,u,N,A,zF,yO]
 cases h0:(Wg L (Zy p) s t != 0) with
 |true=>simp only[go_sem,zO,if_true]
 |false =>
  simp only[go_sem,K,B]
  cases h4:(Zy p).stab with
  |true=>simp only[go_sem,zO,yY,if_true]
  |false =>
   simp only[go_sem,B]
   cases h3:(Zy p).uniq with
   |true=>simp only[go_sem,zO,yY,if_true]
   |false=>simp only[go_sem,F,xI,zD,if_false]
end Go.Am
