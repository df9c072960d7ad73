/- Bytes told apart -/
import Derived.Test.YtnaneekpogohaaaGreatDoorXeSx
import Derived.Test.YtnaneekpogohaaaGreatDoorXeGCx
open Go.Am.AV renaming int->J
open Go.IntKind renaming i64->wA
open Go.IntKind renaming i64->xZ
open List renaming getElem?_cons_zero->zB,getElem?_eq_getElem->zC,getElem?_cons_succ->zE,drop_eq_nil_iff->zG,drop_eq_getElem_cons->zH,nil_append->zI,length_nil->zJ,length_cons->zL,cons_append->zM,length_map->zP,drop_zero->zQ,mem_map->zR,length_singleton->zX,length_append->zY,getElem?_append_right->zZ,append_nil->yA,take_add_one->yC,contains_cons->yD,map_append->yE,getElem?_set_ne->yJ,getElem_mem->yK,length_drop->yL,take_zero->yM,range->yQ,getD_eq_getElem?_getD->yR,map_cons->yT,mapM_nil->yU,getElem?_append_left->yV,length_take->yW,length_eq_zero_iff->yX,getElem?_eq_none->xB,mapM_cons->xF,replicate->xG,all_cons->xH,set_cons_zero->xJ,isEmpty_cons->xL,contains_nil->xM,take_append->xO,filter_cons->xP,drop_take->xQ,any_cons->xT,all_nil->xU,any_nil->xX,map_nil->xY
open Nat renaming zero_add->zF,reduceAdd->yO,le_refl->yS,zero_le->xC,add_zero->xK,lt_or_ge->xV
open Bool renaming false_eq_true->zD,true_or->zO,eq_iff_iff->zS,false_or->zT,not_false->zU,true_and->zW,not_true->yB,false_and->yH,and_eq_true->yN,or_eq_true->yP,or_true->yY,or_false->xI,and_true->xR,not_not->xW
open Prod renaming fst->zK
open UInt8 renaming ofNat->yG,lt_iff_toNat_lt->xD,ofNat_toNat->xN
open Prod.mk renaming injEq->xS
open Go.Am.AObj renaming cells->zA,row->yI,bld->yZ,dead->xE
open Go.Am.AV renaming int->zN,cells->zV,known->yF,str->xA
namespace Go.Am
set_option maxRecDepth 100000
theorem M0 {α β γ:Type}(x:Option α)(f:α->Option β)(g:β->Option γ):Z0 (Z0 x f) g=Z0 x fun a=>Z0 (f a) g:=by cases x <;> rfl
def Ex (h x8:AV):Option AV :=
 Z0 (Z5 .eql h (.int .u8 95)) fun j =>
 Z0 (Z8 j false ap (some h)) fun C =>
 Z0 (Z8 j false ap (Z5 .geq C (.int .u8 97))) fun D =>
 Z0 (Z8 j false ap (some D)) fun w =>
 Z0 (Z8 w true ap (some h)) fun E =>
 Z0 (Z8 w true ap (Z5 .leq E (.int .u8 122))) fun F =>
 Z0 (Z8 j false ap (Zi w F (.bool false))) fun H =>
 Z0 (Zi j (.bool true) H) fun u =>
 Z0 (Z8 u false ap (some h)) fun I =>
 Z0 (Z8 u false ap (Z5 .geq I (.int .u8 65))) fun K =>
 Z0 (Z8 u false ap (some K)) fun z =>
 Z0 (Z8 z true ap (some h)) fun M =>
 Z0 (Z8 z true ap (Z5 .leq M (.int .u8 90))) fun N =>
 Z0 (Z8 u false ap (Zi z N (.bool false))) fun O =>
 Z0 (Zi u (.bool true) O) fun Q =>
 Z0 (XL .not Q) fun g =>
 Z0 (Z8 g true ap (some x8)) fun R =>
 Z0 (Z8 g true ap (Z5 .eql R (J wA 0))) fun S =>
 Z0 (Z8 g true ap (some S)) fun A =>
 Z0 (Z8 A false ap (some h)) fun T =>
 Z0 (Z8 A false ap (Z5 .lss T (.int .u8 48))) fun U =>
 Z0 (Z8 g true ap (Zi A (.bool true) U)) fun V =>
 Z0 (Z8 g true ap (some V)) fun B =>
 Z0 (Z8 B false ap (some h)) fun W =>
 Z0 (Z8 B false ap (Z5 .gtr W (.int .u8 57))) fun X =>
 Z0 (Z8 g true ap (Zi B (.bool true) X)) fun Y =>
 Z0 (Zi g Y (.bool false)) fun Z =>
 some Z
theorem Pu (u z j A:AV)(w H:Hp):Nj u z j A w H =
 Z0 (Zx u j) fun h =>
 Z0 (Ex h j) fun g =>
 Zj g (some ((.bool false),H)) (Nk u z j w H):=by
 rw[Zfu];simp only[Ex,M0,Vc]
def ZiN (g:AV):Option AV :=
 Z0 (Z5 .geq g (.int .u8 97)) fun z =>
 Z0 (Z8 z true ap (some g)) fun R =>
 Z0 (Z8 z true ap (Z5 .leq R (.int .u8 122))) fun S =>
 Z0 (Zi z S (.bool false)) fun j =>
 Z0 (Z8 j false ap (some g)) fun T =>
 Z0 (Z8 j false ap (Z5 .geq T (.int .u8 65))) fun U =>
 Z0 (Z8 j false ap (some U)) fun A =>
 Z0 (Z8 A true ap (some g)) fun B =>
 Z0 (Z8 A true ap (Z5 .leq B (.int .u8 90))) fun C =>
 Z0 (Z8 j false ap (Zi A C (.bool false))) fun D =>
 Z0 (Zi j (.bool true) D) fun h =>
 Z0 (Z8 h false ap (some g)) fun E =>
 Z0 (Z8 h false ap (Z5 .geq E (.int .u8 48))) fun F =>
 Z0 (Z8 h false ap (some F)) fun u =>
 Z0 (Z8 u true ap (some g)) fun H =>
 Z0 (Z8 u true ap (Z5 .leq H (.int .u8 57))) fun I =>
 Z0 (Z8 h false ap (Zi u I (.bool false))) fun K =>
 Z0 (Zi h (.bool true) K) fun w =>
 Z0 (Z8 w false ap (some g)) fun M =>
 Z0 (Z8 w false ap (Z5 .eql M (.int .u8 95))) fun N =>
 Z0 (Zi w (.bool true) N) fun O =>
 Z0 (XL .not O) fun Q =>
 some Q
theorem Zdc (j u:AV)(w H:Hp):MC j u w H =
 Z0 (Zx j u) fun h =>
 Z0 (ZiN h) fun g =>
 Zj g (some ((.bool false),H)) (MD j u w H):=by
 rw[Zgq];simp only[ZiN,M0,Vc]
def ZtO (g u:AV):Option AV :=
 Z0 (Z8 g false ap (some u)) fun R =>
 Z0 (Z8 g false ap (Z5 .geq R (.int .u8 48))) fun S =>
 Z0 (Z8 g false ap (some S)) fun A =>
 Z0 (Z8 A true ap (some u)) fun T =>
 Z0 (Z8 A true ap (Z5 .leq T (.int .u8 57))) fun U =>
 Z0 (Z8 g false ap (Zi A U (.bool false))) fun B =>
 Z0 (Zi g (.bool true) B) fun h =>
 Z0 (Z8 h false ap (some u)) fun C =>
 Z0 (Z8 h false ap (Z5 .geq C (.int .u8 97))) fun D =>
 Z0 (Z8 h false ap (some D)) fun w =>
 Z0 (Z8 w true ap (some u)) fun E =>
 Z0 (Z8 w true ap (Z5 .leq E (.int .u8 122))) fun F =>
 Z0 (Z8 h false ap (Zi w F (.bool false))) fun H =>
 Z0 (Zi h (.bool true) H) fun j =>
 Z0 (Z8 j false ap (some u)) fun I =>
 Z0 (Z8 j false ap (Z5 .geq I (.int .u8 65))) fun K =>
 Z0 (Z8 j false ap (some K)) fun z =>
 Z0 (Z8 z true ap (some u)) fun M =>
 Z0 (Z8 z true ap (Z5 .leq M (.int .u8 90))) fun N =>
 Z0 (Z8 j false ap (Zi z N (.bool false))) fun O =>
 Z0 (Zi j (.bool true) O) fun Q =>
 some Q
def Zlu (g u:AV):Option AV :=
 Z0 (Z8 g false ap (some u)) fun T =>
 Z0 (Z8 g false ap (Z5 .geq T (.int .u8 97))) fun U =>
 Z0 (Z8 g false ap (some U)) fun w =>
 Z0 (Z8 w true ap (some u)) fun B =>
 Z0 (Z8 w true ap (Z5 .leq B (.int .u8 122))) fun C =>
 Z0 (Z8 g false ap (Zi w C (.bool false))) fun D =>
 Z0 (Zi g (.bool true) D) fun h =>
 Z0 (Z8 h false ap (some u)) fun E =>
 Z0 (Z8 h false ap (Z5 .geq E (.int .u8 65))) fun F =>
 Z0 (Z8 h false ap (some F)) fun z =>
 Z0 (Z8 z true ap (some u)) fun H =>
 Z0 (Z8 z true ap (Z5 .leq H (.int .u8 90))) fun I =>
 Z0 (Z8 h false ap (Zi z I (.bool false))) fun K =>
 Z0 (Zi h (.bool true) K) fun j =>
 Z0 (Z8 j false ap (some u)) fun M =>
 Z0 (Z8 j false ap (Z5 .geq M (.int .u8 48))) fun N =>
 Z0 (Z8 j false ap (some N)) fun A =>
 Z0 (Z8 A true ap (some u)) fun O =>
 Z0 (Z8 A true ap (Z5 .leq O (.int .u8 57))) fun Q =>
 Z0 (Z8 j false ap (Zi A Q (.bool false))) fun R =>
 Z0 (Zi j (.bool true) R) fun S =>
 some S
theorem Zbd (w z C A D:AV)(B H:Hp):TU w z C A D B H =
 Z0 (Zx w A) fun h =>
 Z0 (VH [h] H) fun g =>
 Z0 (Zlu g.1 h) fun u =>
 Zj u (Z0 (byteE.run [z,h] g.2) fun j=>QQ w z C A B j.2) (QQ w z C A B g.2):=by
 rw[ZeD];simp only[Zlu,M0,Vc]
def To:Option AV->Option Bool
 |some (.bool b)=>some b
 |_=>none
theorem QT {x:Option AV}{b:Bool}(h:To x=some b):x=some (.bool b):=by
 unfold To at h;split at h
 ·injection h with h;subst h;rfl
 ·cases h
def Ztc (n:Nat):Bool:=(decide (97<=n)&&decide (n<=122)) || (decide (65<=n)&&decide (n<=90))
def NH (n:Nat):Bool:=decide (48<=n)&&decide (n<=57)
def WD (n:Nat):Bool:=n==95 || Ztc n || NH n
theorem Zkx:((yQ 256).all fun n=>(To (Ex (.int .u8 (n:Int)) (J wA 1))==some (!WD n))&&(To (Ex (.int .u8 (n:Int)) (J wA 0))==some (!WD n || NH n)))=true:=by kernel_rfl
theorem Zri:((yQ 256).all fun n=>(To (ZiN (.int .u8 (n:Int)))==some (!WD n)))=true:=by kernel_rfl
theorem Zf0 (b:UInt8):b.toNat<256:=b.toNat_lt
theorem Zg5 (b:UInt8):Ex (.int .u8 b.toNat) (J wA 0)=some (.bool (!WD b.toNat || NH b.toNat)):=by
 have h:=WS Zkx (Zf0 b);simp only[yN,beq_iff_eq]at h;exact QT h.2
theorem Ziy (b:UInt8){i:Int}(hi:(i==0)=false):Ex (.int .u8 b.toNat) (J wA i)=some (.bool (!WD b.toNat)):=by
 have h:=WS Zkx (Zf0 b);simp only[yN,beq_iff_eq]at h;rw[<-QT h.1];have e:Z5 .eql (J wA i) (J wA 0)=Z5 .eql (J wA 1) (J wA 0):=by simp only[Z5,XB,XF,hi];rfl
 unfold Ex
 iterate 16 refine congrArg (Z0 _) (funext fun t=>?_)
 cases t with
 |bool b =>
  cases b
  ·rfl
  ·simp only[ZmD,Vc,e]
 |_=>rfl
theorem ZtW (b:UInt8):ZiN (.int .u8 b.toNat)=some (.bool (!WD b.toNat)):=by
 have h:=WS Zri (Zf0 b);simp only[beq_iff_eq]at h;exact QT h
def VP (s:List UInt8):Bool :=
 match s with
 |[]=>false
 |b::_=>decide (s.length<=32)&&!NH b.toNat&&s.all fun c=>WD c.toNat
theorem Zpd (s:List UInt8)(h:s.length<=4611686018427387904)(g H:Hp):Ni (.str s) g H=some (.bool (!s.isEmpty&&decide (s.length<=32)),H):=by
 rw[Zft]
 cases s with
 |nil=>simp[go_sem,YR,KX]
 |cons b l =>
  simp only[YR,KX,go_sem,Zk];have:(!((b::l)==([]:List UInt8)))=true:=rfl;have c:decide (((b::l).length:Int)<=32)=decide ((b::l).length<=32):=by rw[zS];simp;omega
  simp only[this,go_sem,c,xL,zU,zW]
theorem Ztp (s:List UInt8)(A:s.length<=4611686018427387904)(u H:Hp):∀ (k i:Nat),s.length-i=k->0<i->i<=s.length ->
 Br (.str s) (J wA s.length) (J wA i) u H=some (.bool (((s.drop i).all fun c=>WD c.toNat)&&(!s.isEmpty&&decide (s.length<=32))),H):=by
 intro k
 induction k with
 |zero =>
  intro i hk w hi;rw[Jj];have g:decide ((i:Int)<(s.length:Int))=false:=by simp;omega
  have z:s.drop i=[]:=zG.2 (by omega);simp only[go_sem,g,Zpd s A,z,xU,zW]
 |succ k B =>
  intro i hk w hi;rw[Jj];have j:i<s.length:=by omega
  have g:decide ((i:Int)<(s.length:Int))=true:=by simp;omega
  have hw:xZ.wrap ((i:Int)+1)=((i+1:Nat):Int):=by rw[Zp (by omega) (by omega)];omega
  have h:((i:Int)==0)=false:=by simp;omega
  simp only[go_sem,g,Pu,ZW (zC j),Ziy _ h];rw[zH j,xH]
  cases hb:WD s[i].toNat with
  |false=>simp only[go_sem,zU,yH]
  |true =>
   simp only[go_sem,yB,zW,LF,hw];exact B (i+1) (by omega) (by omega) (by omega)
theorem Ztq (s:List UInt8)(j:s.length<=4611686018427387904)(H:Hp):KK [.str s] H=some (.bool (VP s),H):=by
 rw[Zgm];unfold Zbu;simp only[go_sem,Zk]
 cases s with
 |nil=>rw[Jj];simp[go_sem,Zpd [] (by simp),VP]
 |cons b l =>
  rw[Jj];have h:decide ((0:Int)<((b::l).length:Int))=true:=by simp
  have hw:xZ.wrap ((0:Int)+1)=((0+1:Nat):Int):=by decide
  have g:Zx (.str (b::l)) (J wA 0)=some (.int .u8 b.toNat):=by simp[Zx]
  simp only[go_sem,h,Pu,g,Zg5]
  cases hb:(!WD b.toNat || NH b.toNat) with
  |true =>
   have:VP (b::l)=false:=by
    unfold VP;simp only[yP,Bool.not_eq_true']at hb;rcases hb with hb|hb <;> simp[hb]
   simp only[go_sem,this]
  |false =>
   simp only[Bool.or_eq_false_iff,Bool.not_eq_false']at hb;simp only[go_sem,LF,hw];rw[Ztp (b::l) j H H l.length 1 (by simp) (by omega) (by simp)]
   have:VP (b::l)=(((b::l).drop 1).all (fun c=>WD c.toNat)&&(!(b::l).isEmpty&&decide ((b::l).length<=32))):=by
    unfold VP;simp only[hb.1,hb.2,xH,List.drop_one,List.tail_cons,xL,zU,zW,xR];rw[Bool.and_comm]
   rw[this]
theorem Zrj (s:List UInt8)(z:s.length<=4611686018427387904)(j H:Hp):∀ (k i:Nat),s.length-i=k->i<=s.length ->
 FJ (.str s) (J wA i) j H=some (.bool ((s.drop i).all fun c=>WD c.toNat),H):=by
 intro k
 induction k with
 |zero =>
  intro i hk hi;rw[Sr];have g:decide ((i:Int)<(s.length:Int))=false:=by simp;omega
  have u:s.drop i=[]:=zG.2 (by omega);simp only[go_sem,Zk,g,Zgp,u,xU]
 |succ k w =>
  intro i hk hi;rw[Sr];have h:i<s.length:=by omega
  have g:decide ((i:Int)<(s.length:Int))=true:=by simp;omega
  have hw:xZ.wrap ((i:Int)+1)=((i+1:Nat):Int):=by rw[Zp (by omega) (by omega)];omega
  simp only[go_sem,Zk,g,Zdc,ZW (zC h),ZtW];rw[zH h,xH]
  cases hb:WD s[i].toNat with
  |false=>simp only[go_sem,zU,yH]
  |true =>
   simp only[go_sem,yB,zW,Zgr,hw];exact w (i+1) (by omega) (by omega)
theorem Zrk (s:List UInt8)(hs:s.length<=4611686018427387904)(H:Hp):GN [.str s] H=some (.bool (VP s),H):=by
 rw[Zhi];unfold ZcM;simp only[go_sem,Zk]
 cases s with
 |nil=>simp[go_sem,VP]
 |cons b l =>
  have h0:((((b::l).length:Nat):Int)==0)=false:=by simp;omega
  have hidx:Zx (.str (b::l)) (J wA 0)=some (.int .u8 b.toNat):=by simp[Zx]
  simp only[go_sem,h0];by_cases h32:32<(b::l).length
  ·have c1:decide ((32:Int)<((b::l).length:Int))=true:=by simp at h32 ⊢;omega
   have    : VP (b :: l) = false := by unfold VP; have : decide ((b :: l).length <= 32) = false := by simp at h32 ⊢; omega
                                       rw[this];rfl
   simp only[go_sem,c1,this]
  ·have c1:decide ((32:Int)<((b::l).length:Int))=false:=by simp at h32 ⊢;omega
   have c2:decide ((b::l).length<=32)=true:=by simp at h32 ⊢;omega
   have hl:=Zrj (b::l) hs H H (b::l).length 0 (by simp) (by omega);rw[show ((0:Nat):Int)=0 from rfl,zQ]at hl;have hn:VP (b::l)=(!NH b.toNat&&(b::l).all fun c=>WD c.toNat):=by unfold VP;simp only[c2,zW]
   simp only[go_sem,c1,hidx,Zgo,hl,hn];have e1:decide ((48:Int)<=(b.toNat:Int))=decide (48<=b.toNat):=by rw[zS];simp;omega
   have e2:decide ((b.toNat:Int)<=(57:Int))=decide (b.toNat<=57):=by rw[zS];simp;omega
   unfold NH;simp only[e1,e2]
   cases h48:decide (48<=b.toNat) with
   |false=>simp only[go_sem,yH,zU,zW]
   |true =>
    cases h57:decide (b.toNat<=57) with
    |false=>simp only[go_sem,hidx,e2,h57,zW,zU]
    |true=>simp only[go_sem,hidx,e2,h57,zW,yB,yH]
theorem Zky (s:List UInt8)(g:s.length<=4611686018427387904)(H:Hp):Zh KK [.str s] H=some (.bool (VP s),H):=XP rfl (Ztq s g []) rfl
theorem ZiO (s:List UInt8)(g:s.length<=4611686018427387904)(H:Hp):Zh GN [.str s] H=some (.bool (VP s),H):=XP rfl (Zrk s g []) rfl
theorem Zz (a:AV)(l:List AV)(H:Hp):Z3 false 1 (.vp (a::l)) H=some a:=(Eq.refl _).trans (Eq.refl _)
theorem ZpM (a:AV)(l:List AV):Jy false 1 (.vp (a::l))=some a:=(Eq.refl _).trans (Eq.refl _)
theorem ZvA (H:Hp)(l:List AV)(k:AV->Hp->Z4):Qd (.ptr H.length 0) (H++[.cells l]) k=k (.vp l) (H++[.dead]):=by
 rw[ZsV (U3 _ _),Zww]
def MF {α:Type}(bad:α->Option Int)(key:α->List UInt8):List α->List (List UInt8)->Int
 |[],_=>0
 |c::r,seen=>match bad c with
  |some e=>e
  |none=>if seen.contains (key c) then 6 else MF bad key r (seen++[key c])
theorem Rv {α:Type}(bad:α->Option Int)(key:α->List UInt8)(c:α)(r:List α)(g:List (List UInt8)):MF bad key (c::r) g=match bad c with
 |some e=>e
 |none=>if g.contains (key c) then 6 else MF bad key r (g++[key c]):=(Eq.refl _).trans (Eq.refl _)
def I1 (h:List (AV×AV×Nat))(g:List (List UInt8)):Prop:=h.map (fun e=>(e.1,e.2.1))=g.map fun s=>(xA s,AV.bool true)
theorem Zic (k:List UInt8):∀ (u:List (AV×AV×Nat)) (g:List (List UInt8)) (i:Nat),I1 u g ->
 if g.contains k then ∃ j,YT (.str k) u i=some (some (j,.bool true)) else YT (.str k) u i=some none:=by
 intro u
 induction u with
 |nil =>
  intro g i h
  cases g with
  |nil=>simp[YT]
  |cons s r=>simp[I1]at h
 |cons e u z =>
  intro g i h
  cases g with
  |nil=>simp[I1]at h
  |cons s r =>
   obtain⟨a,b,c⟩:=e;simp only[I1,yT,List.cons.injEq,xS]at h;obtain⟨⟨rfl,rfl⟩,w⟩:=h;have:=z r (i+1) w;simp only[YT,JC,yD]
   cases hk:(k==s) with
   |true=>simp
   |false=>simpa using this
theorem ZkJ {H:Hp}{m:Nat}{u:List (AV×AV×Nat)}{c:Nat}{g:List (List UInt8)}(hm:H[m]?=some (.map u c))(z:I1 u g)(k:List UInt8) :
 Y7 .string (.bool false) false (.map m) (.str k) H=some (.bool (g.contains k)):=by
 have h:=Zic k u g 0 z;unfold Y7;simp only[Wn,if_true,Xk,hm]
 cases hk:g.contains k with
 |true =>
  rw[hk]at h;obtain⟨j,w⟩:=h;simp[w]
 |false =>
  rw[hk]at h;simp at h;simp[h]
theorem Znk {H:Hp}{m:Nat}{j:List (AV×AV×Nat)}{c:Nat}{g:List (List UInt8)}(hm:H[m]?=some (.map j c))(u:I1 j g){k:List UInt8}(hk:g.contains k=false) :
 Xw .string (.map m) (.str k) (.bool true) H=some (.tuple [],H.set m (.map (j++[(.str k,.bool true,c)]) (c+1)))/\I1 (j++[(.str k,.bool true,c)]) (g++[k]):=by
 have h:=Zic k j g 0 u;rw[hk]at h;simp at h;constructor
 ·unfold Xw;simp only[hm,Wn,if_true,h]
 ·unfold I1 at u ⊢;simp[u]
theorem E9 (l:List AV):Z6 0 (.vp l)=some (.vp l):=by simp[Z6]
def Jb (c:List UInt8×List Int):AV:=.agg (.str c.1::c.2.map (.int .u64))
def SD (c:List UInt8×List Int):Option Int:=if VP c.1 then none else some 4
def Ic (l:List (List UInt8×List Int)):Int:=if 24<l.length then 3 else MF SD zK l []
def ZeL (l:List (List UInt8×List Int)):Prop:=∀ c∈l,c.2.length=4/\c.1.length<=4611686018427387904
theorem Sl.cls {x:AV}{l:List (List UInt8×List Int)}(h:Sl 5 x (l.map Jb)){i:Nat}{c:List UInt8×List Int}(hi:l[i]?=some c):Zo 5 x (J wA (i:Int))=some (.vp (.str c.1::c.2.map (.int .u64))):=h.idx (c:=Jb c) (by simp[hi])
theorem Vz (n:Nat)(l:List AV)(g:l.length=n)(H:Hp):Z3 true n (.vp l) H=some (.agg l):=by
 subst g;simp[Z3,Go.Am.apart]
theorem Sy (H:Hp)(n:Nat)(l z:List AV)(g:l.length=n)(h:z.length=n):Za n (.ptr H.length 0) (.agg l) (H++[.cells z])=some (.tuple [],H++[.cells l]):=by
 rw[WT (sz:=n) (v:=.agg l) (U3 _ _) rfl g (by omega)];simp[zV,splice,h,g]
theorem ZuZ {x:AV}{l:List (List UInt8×List Int)}(h:Sl 5 x (l.map Jb))(Q:l.length<=24)(hok:ZeL l)(E:Hp)(m:Nat):∀ (k i:Nat) (H:Hp) (z:List (AV×AV×Nat)) (c:Nat),l.length-i=k->i<=l.length ->
 H[m]?=some (.map z c)->I1 z ((l.take i).map zK) ->
 ∃ H',Vr (.map m) x (J wA (l.length:Int)) (J wA (i:Int)) E H=some (J wA (MF SD zK (l.drop i) ((l.take i).map zK)),H'):=by
 intro k
 induction k with
 |zero =>
  intro i H z c hk hi hm B;rw[GD];have u:decide ((i:Int)<(l.length:Int))=false:=by simp;omega
  have K:l.drop i=[]:=zG.2 (by omega);simp only[go_sem,u,Er,K];exact⟨_,rfl⟩
 |succ k M =>
  intro i H z c hk hi hm B;rw[GD];have j:i<l.length:=by omega
  have u:decide ((i:Int)<(l.length:Int))=true:=by simp;omega
  have hw:xZ.wrap ((i:Int)+1)=((i+1:Nat):Int):=by rw[Zp (by omega) (by omega)];omega
  obtain⟨F,A⟩:=hok l[i] (yK j);have g:(xA l[i].1::l[i].2.map (zN .u64)).length=5:=by simp[F]
  have C:=Sy H 5 _ [.str [],.int .u64 0,.int .u64 0,.int .u64 0,.int .u64 0] g rfl;simp only[go_sem,u,Es,h.cls (zC j),Vz 5 _ g,C,zF,ZH,zB,Zky _ A];rw[zH j,Rv];have w:(H++[zA (xA l[i].1::l[i].2.map (zN .u64))])[m]?=some (.map z c):=ZY hm _
  cases hb:VP l[i].1 with
  |false =>
   simp only[go_sem,zU,SD,hb,zD,if_false];exact⟨_,rfl⟩
  |true =>
   simp only[go_sem,yB,SD,hb,if_true,Eu,zF,ZH,zB,ZkJ w B]
   cases I:((l.take i).map zK).contains l[i].1 with
   |true =>
    simp only[go_sem,if_true];exact⟨_,rfl⟩
   |false =>
    obtain⟨N,O⟩:=Znk w B I;simp only[go_sem,zD,if_false,Ev,zF,ZH,zB,N,Et,hw]
    have D:(l.take (i+1)).map zK=(l.take i).map zK++[l[i].1]:=by
     rw[yC,zC j,yE];rfl
    rw[<-D];refine M (i+1) _ _ _ (by omega) (by omega) (Zq _ w) ?_;rw[D];exact O
theorem Zv0 {x:AV}{l:List (List UInt8×List Int)}(h:Sl 5 x (l.map Jb))(hok:ZeL l)(u:l.length<=4611686018427387904)(H:Hp):∃ H',VG [x] H=some (J wA (Ic l),H'):=by
 rw[S9];unfold Rl Ic;have hlen:=h.len 246;rw[zP]at hlen;simp only[go_sem,hlen];by_cases g:24<l.length
 ·have j:decide ((24:Int)<(l.length:Int))=true:=by simp;omega
  simp only[j,go_sem,g,if_true];exact⟨_,rfl⟩
 ·have j:decide ((24:Int)<(l.length:Int))=false:=by simp;omega
  simp only[j,go_sem,g,if_false,Ep,hlen];have:=ZuZ h (by omega) hok H H.length l.length 0 (H++[.map [] 0]) [] 0 (by omega) (by omega) (U3 H _) rfl;rw[show ((0:Nat):Int)=0 from rfl,zQ,yM]at this;exact this
theorem Zy3 {x:AV}{l:List (List UInt8×List Int)}(h:Sl 5 x (l.map Jb))(K:l.length<=24)(B H:Hp){i:Nat}{n:List UInt8}{q:List Int}(hi:l[i]?=some (n,q)):∀ (k j:Nat),i-j=k->j<=i ->
 UW x (J wA (i:Int)) (J wA (j:Int)) B H=if (((l.take i).map zK).drop j).contains n then some (J wA 6,H) else Gi x (J wA (i:Int)) B H:=by
 intro k
 have D:i<l.length:=by
  rcases xV i l.length with u|u
  ·exact u
  ·rw[xB u]at hi;cases hi
 induction k with
 |zero =>
  intro j hk E;rw[F1];have g:decide ((j:Int)<(i:Int))=false:=by simp;omega
  have C:((l.take i).map zK).drop j=[]:=zG.2 (by simp;omega);simp only[go_sem,g,C,xM,zD,if_false]
 |succ k I =>
  intro j hk E;rw[F1];have z:j<l.length:=by omega
  have g:decide ((j:Int)<(i:Int))=true:=by simp;omega
  have hw:xZ.wrap ((j:Int)+1)=((j+1:Nat):Int):=by rw[Zp (by omega) (by omega)];omega
  have w:((l.take i).map zK).drop j=l[j].1::((l.take i).map zK).drop (j+1):=by
   rw[zH (by simp;omega)];simp
  rw[w,yD];simp only[go_sem,g,I7,h.cls (zC z),h.cls hi,Zz];have F:YR .eql (.str l[j].1) (.str n)=some (.bool (l[j].1==n)):=rfl;have A:(n==l[j].1)=(l[j].1==n):=by rw[zS,beq_iff_eq,beq_iff_eq];exact eq_comm
  simp only[E9,Zz,F,go_sem,A]
  cases hb:(l[j].1==n) with
  |true=>simp only[go_sem,zO,if_true]
  |false =>
   simp only[go_sem,zT,I8,hw];exact I (j+1) (by omega) (by omega)
theorem ZtL {x:AV}{l:List (List UInt8×List Int)}(h:Sl 5 x (l.map Jb))(B:l.length<=24)(hok:ZeL l)(z H:Hp):∀ (k i:Nat),l.length-i=k->i<=l.length ->
 UV x (J wA (i:Int)) z H=some (J wA (MF SD zK (l.drop i) ((l.take i).map zK)),H):=by
 have hlen:=h.len 246;rw[zP]at hlen;intro k
 induction k with
 |zero =>
  intro i hk hi;rw[F0];have j:decide ((i:Int)<(l.length:Int))=false:=by simp;omega
  have A:l.drop i=[]:=zG.2 (by omega);simp only[go_sem,hlen,j,I3,A];rfl
 |succ k D =>
  intro i hk hi;rw[F0];have g:i<l.length:=by omega
  have j:decide ((i:Int)<(l.length:Int))=true:=by simp;omega
  have hw:xZ.wrap ((i:Int)+1)=((i+1:Nat):Int):=by rw[Zp (by omega) (by omega)];omega
  obtain⟨E,w⟩:=hok l[i] (yK g);simp only[go_sem,hlen,j,I4,h.cls (zC g),E9,Zz,ZiO _ w];rw[zH g,Rv]
  cases hb:VP l[i].1 with
  |false=>simp only[go_sem,zU,SD,hb,zD,if_false]
  |true =>
   have u:=Zy3 h B z H (zC g) i 0 (by omega) (by omega);rw[zQ,show ((0:Nat):Int)=0 from rfl]at u;simp only[go_sem,yB,SD,hb,if_true,I6,u]
   have C:(l.take (i+1)).map zK=(l.take i).map zK++[l[i].1]:=by
    rw[yC,zC g,yE];rfl
   cases F:((l.take i).map zK).contains l[i].1 with
   |true=>simp only[if_true]
   |false =>
    simp only[zD,if_false,I5,go_sem,hw];rw[D (i+1) (by omega) (by omega),C]
theorem ZtM {x:AV}{l:List (List UInt8×List Int)}(h:Sl 5 x (l.map Jb))(hok:ZeL l)(H:Hp):Qm [x] H=some (J wA (Ic l),H):=by
 rw[IH];unfold NM Ic;have hlen:=h.len 246;rw[zP]at hlen;simp only[go_sem,hlen];by_cases g:24<l.length
 ·have j:decide ((24:Int)<(l.length:Int))=true:=by simp;omega
  simp only[j,go_sem,g,if_true]
 ·have j:decide ((24:Int)<(l.length:Int))=false:=by simp;omega
  simp only[j,go_sem,g,if_false,I2];have:=ZtL h (by omega) hok H H l.length 0 (by omega) (by omega);rw[show ((0:Nat):Int)=0 from rfl,zQ,yM]at this;exact this
def DF (c:List UInt8×Int):AV:=.agg [.str c.1,J wA c.2]
def Zau (c:List UInt8×Int):Option Int:=if (c.1.length != 2 || (decide (c.2<0) || decide (65535<c.2)))=true then some 2 else none
def SJ (l:List (List UInt8×Int)):Int:=if 64<l.length then 3 else MF Zau zK l []
def ZeM (l:List (List UInt8×Int)):Prop:=∀ c∈l,c.1.length<=4611686018427387904
theorem Sl.els {x:AV}{l:List (List UInt8×Int)}(h:Sl 2 x (l.map DF)){i:Nat}{c:List UInt8×Int}(hi:l[i]?=some c):Zo 2 x (J wA (i:Int))=some (.vp [.str c.1,J wA c.2]):=h.idx (c:=DF c) (by simp[hi])
theorem ZpD (a:AV)(l:List AV):Z6 1 (.vp (a::l))=some (.vp l):=by simp[Z6]
theorem ZqJ (n:Int)(H:Hp):DR [J wA n] H=some (.bool (!(decide (n<0) || decide (65535<n))),H):=by
 rw[Zj8];unfold ZfD;have g:decide ((0:Int)<=n)=!decide (n<0):=by rw[zS];simp
 have h:decide (n<=(65535:Int))=!decide (65535<n):=by rw[zS];simp
 simp only[go_sem,g]
 cases j:decide (n<0) with
 |true=>simp only[go_sem,yB,zO]
 |false=>simp only[go_sem,zU,zT,h]
theorem Zit (n:Int)(H:Hp):Zh DR [J wA n] H=some (.bool (!(decide (n<0) || decide (65535<n))),H):=XP rfl (ZqJ n []) rfl
theorem Zvk {x:AV}{l:List (List UInt8×Int)}(h:Sl 2 x (l.map DF))(R:l.length<=64)(hok:ZeM l)(C:Hp)(m:Nat):∀ (k i:Nat) (H:Hp) (w:List (AV×AV×Nat)) (c:Nat),l.length-i=k->i<=l.length ->
 H[m]?=some (.map w c)->I1 w ((l.take i).map zK) ->
 ∃ H',WZ (.map m) x (J wA (l.length:Int)) (J wA (i:Int)) C H=some (J wA (MF Zau zK (l.drop i) ((l.take i).map zK)),H'):=by
 intro k
 induction k with
 |zero =>
  intro i H w c hk hi hm z;rw[KT];have j:decide ((i:Int)<(l.length:Int))=false:=by simp;omega
  have K:l.drop i=[]:=zG.2 (by omega);simp only[go_sem,j,MW,K];exact⟨_,rfl⟩
 |succ k N =>
  intro i H w c hk hi hm z;rw[KT];have g:i<l.length:=by omega
  have j:decide ((i:Int)<(l.length:Int))=true:=by simp;omega
  have hw:xZ.wrap ((i:Int)+1)=((i+1:Nat):Int):=by rw[Zp (by omega) (by omega)];omega
  have M:=hok l[i] (yK g);have A:=Sy H 2 [.str l[i].1,J wA l[i].2] [.str [],J wA 0] rfl rfl;simp only[go_sem,j,MX,h.els (zC g),Vz 2 [.str l[i].1,J wA l[i].2] rfl,A,zF,ZH,zB,zE,YK];rw[zH g,Rv];have u:(H++[zA [xA l[i].1,zN .i64 l[i].2]])[m]?=some (.map w c):=ZY hm _;have D:((l[i].1.length:Int) != 2)=(l[i].1.length != 2):=by rw[zS];simp;omega
  rw[D];unfold Zau
  cases hb:(l[i].1.length != 2) with
  |true=>simp only[go_sem,zO,if_true];exact⟨_,rfl⟩
  |false =>
  simp only[go_sem,zT,zF,ZH,zB,zE]
  cases E:decide (l[i].2<0) with
  |true=>simp only[go_sem,zO,if_true];exact⟨_,rfl⟩
  |false =>
  simp only[go_sem,zT,zF,ZH,zB,zE]
  cases F:decide (65535<l[i].2) with
  |true=>simp only[go_sem,if_true];exact⟨_,rfl⟩
  |false =>
   simp only[go_sem,zD,if_false,MZ,zF,ZH,zB,ZkJ u z]
   cases I:((l.take i).map zK).contains l[i].1 with
   |true =>
    simp only[go_sem,if_true];exact⟨_,rfl⟩
   |false =>
    obtain⟨O,Q⟩:=Znk u z I;simp only[go_sem,zD,if_false,L0,zF,ZH,zB,O,MY,hw]
    have B:(l.take (i+1)).map zK=(l.take i).map zK++[l[i].1]:=by
     rw[yC,zC g,yE];rfl
    rw[<-B];refine N (i+1) _ _ _ (by omega) (by omega) (Zq _ u) ?_;rw[B];exact Q
theorem Zvl {x:AV}{l:List (List UInt8×Int)}(h:Sl 2 x (l.map DF))(hok:ZeM l)(u:l.length<=4611686018427387904)(H:Hp):∃ H',Vj [x] H=some (J wA (SJ l),H'):=by
 rw[LU];unfold DV SJ;have hlen:=h.len 189;rw[zP]at hlen;simp only[go_sem,hlen];by_cases g:64<l.length
 ·have j:decide ((64:Int)<(l.length:Int))=true:=by simp;omega
  simp only[j,go_sem,g,if_true];exact⟨_,rfl⟩
 ·have j:decide ((64:Int)<(l.length:Int))=false:=by simp;omega
  simp only[j,go_sem,g,if_false,MV,hlen];have:=Zvk h (by omega) hok H H.length l.length 0 (H++[.map [] 0]) [] 0 (by omega) (by omega) (U3 H _) rfl;rw[show ((0:Nat):Int)=0 from rfl,zQ,yM]at this;exact this
theorem Zy5 {x:AV}{l:List (List UInt8×Int)}(h:Sl 2 x (l.map DF))(K:l.length<=64)(B H:Hp){i:Nat}{n:List UInt8}{q:Int}(hi:l[i]?=some (n,q)):∀ (k j:Nat),i-j=k->j<=i ->
 Uh x (J wA (i:Int)) (J wA (j:Int)) B H=if (((l.take i).map zK).drop j).contains n then some (J wA 6,H) else JZ x (J wA (i:Int)) B H:=by
 intro k
 have D:i<l.length:=by
  rcases xV i l.length with u|u
  ·exact u
  ·rw[xB u]at hi;cases hi
 induction k with
 |zero =>
  intro j hk E;rw[BN];have g:decide ((j:Int)<(i:Int))=false:=by simp;omega
  have C:((l.take i).map zK).drop j=[]:=zG.2 (by simp;omega);simp only[go_sem,g,C,xM,zD,if_false]
 |succ k I =>
  intro j hk E;rw[BN];have z:j<l.length:=by omega
  have g:decide ((j:Int)<(i:Int))=true:=by simp;omega
  have hw:xZ.wrap ((j:Int)+1)=((j+1:Nat):Int):=by rw[Zp (by omega) (by omega)];omega
  have w:((l.take i).map zK).drop j=l[j].1::((l.take i).map zK).drop (j+1):=by
   rw[zH (by simp;omega)];simp
  rw[w,yD];simp only[go_sem,g,Hm,h.els (zC z),h.els hi,Zz];have F:YR .eql (.str l[j].1) (.str n)=some (.bool (l[j].1==n)):=rfl;have A:(n==l[j].1)=(l[j].1==n):=by rw[zS,beq_iff_eq,beq_iff_eq];exact eq_comm
  simp only[E9,Zz,F,go_sem,A]
  cases hb:(l[j].1==n) with
  |true=>simp only[go_sem,zO,if_true]
  |false =>
   simp only[go_sem,zT,Hn,hw];exact I (j+1) (by omega) (by omega)
theorem ZtQ {x:AV}{l:List (List UInt8×Int)}(h:Sl 2 x (l.map DF))(C:l.length<=64)(hok:ZeM l)(w H:Hp):∀ (k i:Nat),l.length-i=k->i<=l.length ->
 Ug x (J wA (i:Int)) w H=some (J wA (MF Zau zK (l.drop i) ((l.take i).map zK)),H):=by
 have hlen:=h.len 189;rw[zP]at hlen;intro k
 induction k with
 |zero =>
  intro i hk hi;rw[BM];have j:decide ((i:Int)<(l.length:Int))=false:=by simp;omega
  have B:l.drop i=[]:=zG.2 (by omega);simp only[go_sem,hlen,j,H9,B];rfl
 |succ k F =>
  intro i hk hi;rw[BM];have g:i<l.length:=by omega
  have j:decide ((i:Int)<(l.length:Int))=true:=by simp;omega
  have hw:xZ.wrap ((i:Int)+1)=((i+1:Nat):Int):=by rw[Zp (by omega) (by omega)];omega
  have D:=hok l[i] (yK g);simp only[go_sem,hlen,j,Hi,h.els (zC g),E9,Zz,YK];rw[zH g,Rv];have z:((l[i].1.length:Int) != 2)=(l[i].1.length != 2):=by rw[zS];simp;omega
  rw[z];unfold Zau
  cases hb:(l[i].1.length != 2) with
  |true=>simp only[go_sem,zO,if_true]
  |false =>
  simp only[go_sem,zT,h.els (zC g),ZpD,Zz,Zit,xW]
  cases A:(decide (l[i].2<0) || decide (65535<l[i].2)) with
  |true=>simp only[go_sem,if_true]
  |false =>
   have u:=Zy5 h C w H (zC g) i 0 (by omega) (by omega);rw[zQ,show ((0:Nat):Int)=0 from rfl]at u;simp only[go_sem,zD,if_false,Hl,u]
   have E:(l.take (i+1)).map zK=(l.take i).map zK++[l[i].1]:=by
    rw[yC,zC g,yE];rfl
   cases I:((l.take i).map zK).contains l[i].1 with
   |true=>simp only[if_true]
   |false =>
    simp only[zD,if_false,Hk,go_sem,hw];rw[F (i+1) (by omega) (by omega),E];rfl
theorem ZtR {x:AV}{l:List (List UInt8×Int)}(h:Sl 2 x (l.map DF))(hok:ZeM l)(H:Hp):US [x] H=some (J wA (SJ l),H):=by
 rw[AS];unfold P9 SJ;have hlen:=h.len 189;rw[zP]at hlen;simp only[go_sem,hlen];by_cases g:64<l.length
 ·have j:decide ((64:Int)<(l.length:Int))=true:=by simp;omega
  simp only[j,go_sem,g,if_true]
 ·have j:decide ((64:Int)<(l.length:Int))=false:=by simp;omega
  simp only[j,go_sem,g,if_false,CZ];have:=ZtQ h (by omega) hok H H l.length 0 (by omega) (by omega);rw[show ((0:Nat):Int)=0 from rfl,zQ,yM]at this;exact this
structure Loc where
 name:List UInt8
 w:List Int
 lo:List UInt8
 up:List UInt8
 cls:List (List UInt8×List Int)
 els:List (List UInt8×Int)
def Loc.cells (x c e:AV)(L:Loc):List AV:=[.str L.name,x,.str L.lo,.str L.up,c,e]
def LocAV (a:AV)(L:Loc):Prop:=∃ x c e,a=.agg (L.cells x c e)/\Sl 1 x (L.w.map (zN .i64))/\Sl 5 c (L.cls.map Jb)/\Sl 2 e (L.els.map DF)
structure LocOk (L:Loc):Prop where
 name:L.name.length<=4611686018427387904
 w:L.w.length<=4611686018427387904
 lo:L.lo.length<=4611686018427387904
 up:L.up.length<=4611686018427387904
 cls:ZeL L.cls
 els:ZeM L.els
 ncls:L.cls.length<=4611686018427387904
 nels:L.els.length<=4611686018427387904
theorem HY (c:List UInt8×List Int)(H:Hp)(n f:Nat):Ze H n (f+2) (Jb c)=some (Jb c):=by
 have:(xA c.1::c.2.map (zN .u64)).mapM (Ze H n (f+1))=some (xA c.1::c.2.map (zN .u64)):=Ou fun x hx=>by
  rcases List.mem_cons.1 hx with rfl|hx
  ·rfl
  ·obtain⟨m,_,rfl⟩:=zR.1 hx;rfl
 rw[Jb,F3,this]
theorem Zav (c:List UInt8×Int)(H:Hp)(n f:Nat):Ze H n (f+2) (DF c)=some (DF c):=(Eq.refl _).trans (Eq.refl _)
theorem LocAV.close {a:AV}{L:Loc}(h:LocAV a L)(H:Hp)(n f:Nat):∃ a',Ze H n (f+4) a=some a'/\LocAV a' L:=by
 obtain⟨x,c,e,rfl,hx,D,E⟩:=h;obtain⟨C,A,B⟩:=hx.close (H:=H) (n:=n) (f:=f+2) (fun y hy=>by obtain⟨m,_,rfl⟩:=zR.1 hy;rfl);obtain⟨c',j,u⟩:=D.close (H:=H) (n:=n) (f:=f+2) (fun y hy=>by obtain⟨m,_,rfl⟩:=zR.1 hy;exact HY m H n f);obtain⟨g,w,z⟩:=E.close (H:=H) (n:=n) (f:=f+2) (fun y hy=>by obtain⟨m,_,rfl⟩:=zR.1 hy;exact Zav m H n f);refine⟨.agg (L.cells C c' g),?_,C,c',g,rfl,B,u,z⟩
 have:(L.cells x c e).mapM (Ze H n (f+3))=some (L.cells C c' g):=by
  simp only[Loc.cells,xF,A,j,w,yU];rfl
 rw[F3,this]
theorem Zm2 {x:AV}{l:List (List UInt8×List Int)}(h:Sl 5 x (l.map Jb))(hok:ZeL l)(w:l.length<=4611686018427387904)(H:Hp):Zh VG [x] H=some (J wA (Ic l),H)/\Zh Qm [x] H=some (J wA (Ic l),H):=by
 obtain⟨z,g,j⟩:=h.close (H:=[]) (n:=0) (f:=8) (fun y hy=>by obtain⟨m,_,rfl⟩:=zR.1 hy;exact HY m [] 0 6);obtain⟨H',u⟩:=Zv0 j hok w [];exact⟨XP g u rfl,XP g (ZtM j hok []) rfl⟩
theorem Zmn {x:AV}{l:List (List UInt8×Int)}(h:Sl 2 x (l.map DF))(hok:ZeM l)(w:l.length<=4611686018427387904)(H:Hp):Zh Vj [x] H=some (J wA (SJ l),H)/\Zh US [x] H=some (J wA (SJ l),H):=by
 obtain⟨z,g,j⟩:=h.close (H:=[]) (n:=0) (f:=8) (fun y hy=>by obtain⟨m,_,rfl⟩:=zR.1 hy;exact Zav m [] 0 6);obtain⟨H',u⟩:=Zvl j hok w [];exact⟨XP g u rfl,XP g (ZtR j hok []) rfl⟩
def Zhe (n:Int):Bool:=decide (n<0) || decide (65535<n)
def Zbl (L:Loc):Int:=if (Ic L.cls != 0)=true then Ic L.cls else SJ L.els
def Wk (L:Loc):Int :=
 if VP L.name then (if (L.w.length != 256 || (L.lo.length != 256 || L.up.length != 256))=true then 2 else if L.w.any Zhe then 2 else Zbl L) else 4
theorem Sl.ints {x:AV}{l:List Int}(h:Sl 1 x (l.map (zN .i64))){i:Nat}(hi:i<l.length):Zo 1 x (J wA (i:Int))=some (.vp [J wA l[i]]):=h.idx (c:=J wA l[i]) (by simp[hi])
theorem Ob (n:Nat):((n:Int) != 256)=(n != 256):=by rw[zS];simp;omega
theorem Zt6 {x c e:AV}{L:Loc}(hx:Sl 1 x (L.w.map (zN .i64)))(A:Sl 5 c (L.cls.map Jb))(C:Sl 2 e (L.els.map DF))(hok:LocOk L)(D:L.w.length=256)(u H:Hp){o:Nat}(j:H[o]?=some (.cells (L.cells x c e))):∀ (k i:Nat),L.w.length-i=k->i<=L.w.length ->
 GC (.ptr o 0) x (J wA (L.w.length:Int)) (J wA (i:Int)) u H=some (J wA (if (L.w.drop i).any Zhe then 2 else Zbl L),H):=by
 intro k
 induction k with
 |zero =>
  intro i hk hi;rw[Ml];have g:decide ((i:Int)<(L.w.length:Int))=false:=by simp;omega
  have B:L.w.drop i=[]:=zG.2 (by omega);simp only[go_sem,g,B,xX,zD,if_false,Zel,zF,Y2 j,Loc.cells,zB,zE,(Zm2 A hok.cls hok.ncls H).1];unfold Zbl
  cases z:(Ic L.cls != 0) with
  |true=>simp only[go_sem,if_true]
  |false=>simp only[go_sem,zD,if_false,Zem,zF,Y2 j,Loc.cells,zB,zE,(Zmn C hok.els hok.nels H).1]
 |succ k E =>
  intro i hk hi;rw[Ml];have h:i<L.w.length:=by omega
  have g:decide ((i:Int)<(L.w.length:Int))=true:=by simp;omega
  have hw:xZ.wrap ((i:Int)+1)=((i+1:Nat):Int):=by rw[Zp (by omega) (by omega)];omega
  simp only[go_sem,g,Zen,hx.ints h,Zz];rw[zH h,xT];unfold Zhe
  cases z:decide (L.w[i]<0) with
  |true=>simp only[go_sem,zO,if_true]
  |false =>
   simp only[go_sem,zT]
   cases F:decide (65535<L.w[i]) with
   |true=>simp only[go_sem,zO,if_true]
   |false =>
    simp only[go_sem,zT,Zeo,hw];exact E (i+1) (by omega) (by omega)
theorem Zt7 {a:AV}{L:Loc}(h:LocAV a L)(hok:LocOk L)(H:Hp):∃ H',Bi [a] H=some (J wA (Wk L),H'):=by
 obtain⟨x,c,e,rfl,hx,u,z⟩:=h;rw[Zf5];unfold IP Wk;have hlen:=hx.len 3;rw[zP]at hlen;have A:=U3 H (.cells (L.cells x c e));simp only[go_sem,zF,ZH,Loc.cells,zB,zE,Zky L.name hok.name]
 cases hn:VP L.name with
 |false=>simp only[go_sem,zU,zD,if_false];exact⟨_,rfl⟩
 |true =>
 simp only[go_sem,yB,if_true,Zej,zF,ZH,zB,zE,hlen,Ob]
 cases j:(L.w.length != 256) with
 |true=>simp only[go_sem,zO,if_true];exact⟨_,rfl⟩
 |false =>
 simp only[go_sem,zT,zF,ZH,zB,zE,YK,Ob]
 cases B:(L.lo.length != 256) with
 |true=>simp only[go_sem,zO,if_true];exact⟨_,rfl⟩
 |false =>
 simp only[go_sem,zT,zF,ZH,zB,zE,YK,Ob]
 cases C:(L.up.length != 256) with
 |true=>simp only[go_sem,if_true];exact⟨_,rfl⟩
 |false =>
 have g:L.w.length=256:=by simpa using j
 have:=Zt6 hx u z hok g H (H++[.cells (L.cells x c e)]) A L.w.length 0 (by omega) (by omega);rw[show ((0:Nat):Int)=0 from rfl,zQ]at this;simp only[Loc.cells]at this;simp only[go_sem,zD,if_false,Zek,zF,ZH,zB,zE,hlen,this];exact⟨_,rfl⟩
theorem Zrg {x c e:AV}{L:Loc}(hx:Sl 1 x (L.w.map (zN .i64)))(A:Sl 5 c (L.cls.map Jb))(C:Sl 2 e (L.els.map DF))(hok:LocOk L)(D:L.w.length=256)(u H:Hp){o:Nat}(j:H[o]?=some (.cells (L.cells x c e))):∀ (k i:Nat),256-i=k->i<=256 ->
 T8 (.ptr o 0) (J wA (i:Int)) u H=some (J wA (if (L.w.drop i).any Zhe then 2 else if (L.lo.length != 256 || L.up.length != 256)=true then 2 else Zbl L),H):=by
 intro k
 induction k with
 |zero =>
  intro i hk hi;rw[HO];have g:decide ((i:Int)<256)=false:=by simp;omega
  have B:L.w.drop i=[]:=zG.2 (by omega);simp only[go_sem,g,B,xX,zD,if_false,Zhs,zF,Y2 j,Loc.cells,zB,zE,YK,Ob]
  cases F:(L.lo.length != 256) with
  |true=>simp only[go_sem,zO,if_true]
  |false =>
  simp only[go_sem,zT,zF,Y2 j,Loc.cells,zB,zE,YK,Ob]
  cases I:(L.up.length != 256) with
  |true=>simp only[go_sem,if_true]
  |false =>
  simp only[go_sem,zD,if_false,Zht,zF,Y2 j,Loc.cells,zB,zE,(Zm2 A hok.cls hok.ncls H).2];unfold Zbl
  cases z:(Ic L.cls != 0) with
  |true=>simp only[go_sem,if_true]
  |false=>simp only[go_sem,zD,if_false,Zhu,zF,Y2 j,Loc.cells,zB,zE,(Zmn C hok.els hok.nels H).2]
 |succ k E =>
  intro i hk hi;rw[HO];have h:i<L.w.length:=by omega
  have g:decide ((i:Int)<256)=true:=by simp;omega
  have hw:xZ.wrap ((i:Int)+1)=((i+1:Nat):Int):=by rw[Zp (by omega) (by omega)];omega
  simp only[go_sem,g,Zhv,zF,Y2 j,Loc.cells,zB,zE,hx.ints h,Zz,Zit,xW];rw[zH h,xT];have e:(decide (L.w[i]<0) || decide (65535<L.w[i]))=Zhe L.w[i]:=rfl;rw[e]
  cases z:Zhe L.w[i] with
  |true=>simp only[go_sem,zO,if_true]
  |false =>
   simp only[go_sem,zT,Zhw,hw];exact E (i+1) (by omega) (by omega)
theorem Zrh {a:AV}{L:Loc}(h:LocAV a L)(hok:LocOk L)(H:Hp):∃ H',Nx [a] H=some (J wA (Wk L),H'):=by
 obtain⟨x,c,e,rfl,hx,u,z⟩:=h;rw[Zj6];unfold ZfB Wk;have hlen:=hx.len 3;rw[zP]at hlen;have A:=U3 H (.cells (L.cells x c e));simp only[go_sem,zF,ZH,Loc.cells,zB,zE,ZiO L.name hok.name]
 cases hn:VP L.name with
 |false=>simp only[go_sem,zU,zD,if_false];exact⟨_,rfl⟩
 |true =>
 simp only[go_sem,yB,if_true,Zhq,zF,ZH,zB,zE,hlen,Ob]
 cases j:(L.w.length != 256) with
 |true=>simp only[go_sem,zO,if_true];exact⟨_,rfl⟩
 |false =>
 have g:L.w.length=256:=by simpa using j
 have:=Zrg hx u z hok g H (H++[.cells (L.cells x c e)]) A 256 0 (by omega) (by omega);rw[show ((0:Nat):Int)=0 from rfl,zQ]at this;simp only[Loc.cells]at this;simp only[go_sem,zT,Zhr,this];refine⟨_,congrArg some (Prod.ext (congrArg (zN .i64) ?_) rfl)⟩;cases B:(L.lo.length != 256 || L.up.length != 256) <;> cases C:L.w.any Zhe <;> simp
theorem Zkq {a:AV}{L:Loc}(h:LocAV a L)(hok:LocOk L)(H:Hp):Zh Bi [a] H=some (J wA (Wk L),H)/\Zh Nx [a] H=some (J wA (Wk L),H):=by
 obtain⟨a',g,j⟩:=h.close [] 0 5;obtain⟨H',w⟩:=Zt7 j hok [];obtain⟨u,z⟩:=Zrh j hok [];exact⟨XP g w rfl,XP g z rfl⟩
set_option maxRecDepth 1000000
def defL:Loc:={
 name:=[112,111,115,105,120]
 w:=(yQ 256).map Int.ofNat
 lo:=(yQ 256).map fun n=>yG (if 65<=n/\n<=90 then n+32 else n)
 up:=(yQ 256).map fun n=>yG (if 97<=n/\n<=122 then n-32 else n)
 cls:=[]
 els:=[] }
def Zeb:List AV->Option (List Int)
 |[]=>some []
 |J wA n::r=>match Zeb r with
  |some l=>some (n::l)
  |none=>none
 |_=>none
theorem Zot:∀ {l:List AV} {r:List Int},Zeb l=some r->l=r.map (zN .i64):=by
 intro l
 induction l with
 |nil=>intro r h;simp[Zeb]at h;subst h;rfl
 |cons a l w =>
  intro r h;unfold Zeb at h;split at h
  ·rename_i g;cases g
  ·rename_i n z g;injection g with j u;subst j u;split at h
   ·rename_i m hm;injection h with h;subst h;rw[w hm];rfl
   ·cases h
  ·cases h
def Zlv (L:Loc)(r:Z4):Bool :=
 match r with
 |some (v,H1)=>match Ze H1 0 9 v with
  |some (.agg [.str n,.vs 1 .no l,.str lo,.str up,.nils,.nils])=>n==L.name&&(Zeb l==some L.w&&(lo==L.lo&&(up==L.up&&(L.cls.isEmpty&&L.els.isEmpty))))
  |_=>false
 |none=>false
theorem Ziq {f:List AV->Hp->Z4}{L:Loc}{x:Z4}(hx:Zlv L x=true)(C:∀ r,x=some r->f [] []=some r)(H:Hp):∃ a,Zh f [] H=some (a,H)/\LocAV a L:=by
 unfold Zlv at hx;split at hx
 ·rename_i v H1;split at hx
  ·rename_i n l lo up g;simp only[yN,beq_iff_eq,List.isEmpty_iff]at hx;obtain⟨h,j,u,w,z,A⟩:=hx;have B:=C _ rfl;refine⟨.agg [.str n,.vs 1 .no l,.str lo,.str up,.nils,.nils],?_,.vs 1 .no l,.nils,.nils,?_,.inr ⟨.no,?_⟩,.inl ⟨rfl,by rw[z];rfl⟩,.inl ⟨rfl,by rw[A];rfl⟩⟩
   ·unfold Zh;simp only[yU];show (match f [] [] with|some (v,H1)=>_|none=>_)=_;rw[B];simp only[g]
   ·rw[h,u,w];rfl
   ·rw[Zot j]
  ·cases hx
 ·cases hx
theorem YY {α:Type}{x:Option α}{f g:α->Z4}{r:AV×Hp}(h:∀ a,f a=some r->g a=some r):Z0 x f=some r->Z0 x g=some r:=by
 cases x with
 |none=>exact id
 |some a=>exact h a
theorem Od {c:AV}{x y g h:Z4}{r:AV×Hp}(j:x=some r->g=some r)(u:y=some r->h=some r):Zj c x y=some r->Zj c g h=some r:=by
 unfold Zj;split
 ·split
  ·exact j
  ·exact u
 ·exact id
def dfD (k:AV->AV->AV->Hp->Z4)(u z A w B C:AV)(H:Hp):Z4 :=
 Z0 (Z6 1 u) fun a =>
 Z0 (Z3 false 1 a H) fun b =>
 Z0 ((ZB 1 [(0,w)] [(J wA 0)]).map (.vs 1 .clip)) fun c =>
 Z0 (Y9 1 8 b c H) fun d =>
 Z0 (Z6 1 u) fun e =>
 Z0 (Za 1 e d.1 d.2) fun f =>
 Z0 ((ZB 1 [(0,B)] [(.int .u8 0)]).map (.vs 1 .clip)) fun g =>
 Z0 (Y9 1 1 z g f.2) fun h =>
 Z0 ((ZB 1 [(0,C)] [(.int .u8 0)]).map (.vs 1 .clip)) fun i =>
 Z0 (Y9 1 1 A i h.2) fun j =>
 Z0 (Z5 .add w (J wA 1)) fun l =>
 k h.1 j.1 l j.2
def dfC (k:AV->AV->AV->Hp->Z4)(h j u g w z:AV)(H:Hp):Z4 :=
 Z0 (Z5 .geq g (J wA 97)) fun a =>
 Z0 (Z8 a true ap (some g)) fun b =>
 Z0 (Z8 a true ap (Z5 .leq b (J wA 122))) fun c =>
 Z0 (Zi a c (.bool false)) fun d =>
 Zj d (Z0 (Z5 .sub g (J wA 32)) fun e=>Z0 (Yq .u8 e) fun f=>dfD k h j u g w f H) (dfD k h j u g w z H)
def dfB (k:AV->AV->AV->Hp->Z4)(h j u g:AV)(H:Hp):Z4 :=
 Z0 (Yq .u8 g) fun z =>
 Z0 (Yq .u8 g) fun w =>
 Z0 (Z5 .geq g (J wA 65)) fun a =>
 Z0 (Z8 a true ap (some g)) fun b =>
 Z0 (Z8 a true ap (Z5 .leq b (J wA 90))) fun c =>
 Z0 (Zi a c (.bool false)) fun d =>
 Zj d (Z0 (Z5 .add g (J wA 32)) fun e=>Z0 (Yq .u8 e) fun f=>dfC k h j u g f w H) (dfC k h j u g z w H)
def dfA (u j w z:AV)(H:Hp):Z4 :=
 Z0 (Qb w H) fun a =>
 Z0 (Z6 2 j) fun b =>
 Z0 (Za 1 b a H) fun c =>
 Z0 (Qb z c.2) fun d =>
 Z0 (Z6 3 j) fun e =>
 Z0 (Za 1 e d c.2) fun f =>
 Z0 (Z3 true 6 j f.2) fun g =>
 Z0 (Za 6 u g f.2) fun h =>
 Z0 (Z3 true 6 u h.2) fun i =>
 some (i,h.2)
def dfL (h g:AV):Nat->AV->AV->AV->Hp->Z4
 |0,_,_,_,_=>none
 |n+1,x2,x3,x4,H=>Z0 (Z5 .lss x4 (J wA 256)) fun t=>Zj t (dfB (dfL h g n) g x2 x3 x4 H) (dfA h g x2 x3 H)
theorem Zss {k k':AV->AV->AV->Hp->Z4}{r:AV×Hp}(h:∀ a b c H,k a b c H=some r->k' a b c H=some r)(g j u w z A:AV)(H:Hp):dfD k g j u w z A H=some r->dfD k' g j u w z A H=some r:=by
 unfold dfD;repeat refine YY fun _=>?_
 exact h _ _ _ _
theorem Zsq {k k':AV->AV->AV->Hp->Z4}{r:AV×Hp}(h:∀ a b c H,k a b c H=some r->k' a b c H=some r)(g j u w z A:AV)(H:Hp):dfC k g j u w z A H=some r->dfC k' g j u w z A H=some r:=by
 unfold dfC;repeat refine YY fun _=>?_
 exact Od (YY fun _=>YY fun _=>Zss h _ _ _ _ _ _ _) (Zss h _ _ _ _ _ _ _)
theorem ZyD {k k':AV->AV->AV->Hp->Z4}{r:AV×Hp}(h:∀ a b c H,k a b c H=some r->k' a b c H=some r)(g j u w:AV)(H:Hp):dfB k g j u w H=some r->dfB k' g j u w H=some r:=by
 unfold dfB;repeat refine YY fun _=>?_
 exact Od (YY fun _=>YY fun _=>Zsq h _ _ _ _ _ _ _) (Zsq h _ _ _ _ _ _ _)
theorem ZyF (g j:AV)(A:Hp){r:AV×Hp}:∀ (n:Nat) (u w z:AV) (H:Hp),dfL g j n u w z H=some r->Jx g j u w z A H=some r:=by
 intro n
 induction n with
 |zero=>intro _ _ _ _ h;cases h
 |succ n B =>
  intro u w z H h;rw[Zfj];simp only[Zfe,Zff,Zfh,Zfi,Zfg];exact YY (fun _=>Od (ZyD (k':=fun a b c H=>Jx g j a b c A H) B _ _ _ _ _) id) h
def dfR:Z4 :=
 Z0 ((YS [(0,1,(.str [112,111,115,105,120]))] [(.str []),.nils,(.str []),(.str []),.nils,.nils]).map .agg) fun a =>
 Z0 (Za 6 (.ptr 1 0) a [.cells [(.str []),.nils,(.str []),(.str []),.nils,.nils],.cells [(.str []),.nils,(.str []),(.str []),.nils,.nils]]) fun b =>
 dfL (.ptr 0 0) (.ptr 1 0) 300 .nils .nils (J wA 0) b.2
theorem ZxB:Zlv defL dfR=true:=by kernel_rfl
theorem L2 (H:Hp):∃ a,Zh KJ [] H=some (a,H)/\LocAV a defL:=Ziq ZxB (fun r h=>by
 rw[Zgi];unfold Zbs;simp only[Vc];unfold dfR at h;exact YY (fun _=>YY fun _=>ZyF _ _ _ _ _ _ _ _) h) H
def shA (g:AV)(H:Hp):Z4:=Z0 (Qb g H) fun a=>some (a,H)
def shB (k:AV->Hp->Z4)(z A B w u:AV)(H:Hp):Z4 :=
 Z0 (Yq .u8 u) fun a =>
 Z0 (Zo 1 w u) fun b =>
 Z0 (Za 1 b a H) fun c =>
 Z0 (Yq .u8 u) fun d =>
 Z0 (Z5 .geq d z) fun e =>
 Z0 (Z8 e true ap (some u)) fun f =>
 Z0 (Z8 e true ap (Yq .u8 f)) fun g =>
 Z0 (Z8 e true ap (some A)) fun h =>
 Z0 (Z8 e true ap (Z5 .leq g h)) fun i =>
 Z0 (Zi e i (.bool false)) fun j =>
 Zj j (Z0 (Z5 .add u B) fun l=>Z0 (Yq .u8 l) fun m=>Z0 (Zo 1 w u) fun n=>Z0 (Za 1 n m c.2) fun o=>Z0 (Z5 .add u (J wA 1)) fun p=>k p o.2) (Z0 (Z5 .add u (J wA 1)) fun p=>k p c.2)
def shL (j u w h g:AV):Nat->AV->Hp->Z4
 |0,_,_=>none
 |n+1,x12,H=>Z0 (Z5 .lss x12 g) fun t=>Zj t (shB (shL j u w h g n) j u w h x12 H) (shA h H)
theorem Zz5 (w z A B j:AV)(C:Hp){r:AV×Hp}:∀ (n:Nat) (g:AV) (H:Hp),shL w z A B j n g H=some r->Jl w z A B j g C H=some r:=by
 intro n
 induction n with
 |zero=>intro _ _ h;cases h
 |succ n u =>
  intro g H h;rw[ZaZ];simp only[ZaW,ZaX,ZaY];refine YY (fun _=>Od ?_ id) h;unfold shB;repeat refine YY fun _=>?_
  exact Od (YY fun _=>YY fun _=>YY fun _=>YY fun _=>YY fun _=>u _ _) (YY fun _=>u _ _)
def shR (a b c:AV):Z4 :=
 Z0 (K2 1 1 false (.int .u8 0) (J wA 256) (J wA 256) []) fun r=>Z0 (Zk (.slice 5) r.1) fun t=>shL a b c r.1 t 300 (J wA 0) r.2
def Zx1 (s:List UInt8)(r:Z4):Bool:=match r with
 |some (.str t,_)=>t==s
 |_=>false
theorem Znm {a b c:AV}{s:List UInt8}(ha:[a,b,c].mapM (Ze [] 0 9)=some [a,b,c])(h:Zx1 s (shR a b c)=true)(H:Hp):Zh Va [a,b,c] H=some (.str s,H):=by
 unfold Zx1 at h;split at h
 ·rename_i t H1 g;have:=eq_of_beq h;subst this;refine U2 ha (H1:=H1) ?_ rfl;rw[Zc3];unfold Sa;unfold shR at g;exact YY (fun _=>YY fun _=>Zz5 _ _ _ _ _ _ _ _ _) g
 ·cases h
theorem Zzp (H:Hp):Zh Va [(.int .u8 65),(.int .u8 90),(J wA 32)] H=some (.str defL.lo,H):=Znm rfl (by kernel_rfl) H
theorem Zzq (H:Hp):Zh Va [(.int .u8 97),(.int .u8 122),(J wA (-32))] H=some (.str defL.up,H):=Znm rfl (by kernel_rfl) H
def dgA (g h:AV)(H:Hp):Z4 :=
 Z0 ((YS [(0,1,(.str [112,111,115,105,120])),(1,1,h),(2,1,.str defL.lo),(3,1,.str defL.up)] [(.str []),.nils,(.str []),(.str []),.nils,.nils]).map .agg) fun a =>
 Z0 (Za 6 g a H) fun b=>Z0 (Z3 true 6 g b.2) fun c=>some (c,b.2)
def dgL (h g j:AV):Nat->AV->Hp->Z4
 |0,_,_=>none
 |n+1,x6,H=>Z0 (Z5 .lss x6 j) fun t=>Zj t (Z0 (Zo 1 g x6) fun a=>Z0 (Za 1 a x6 H) fun b=>Z0 (Z5 .add x6 (J wA 1)) fun c=>dgL h g j n c b.2) (dgA h g H)
theorem ZyH (j u w:AV)(z:Hp){r:AV×Hp}:∀ (n:Nat) (g:AV) (H:Hp),dgL j u w n g H=some r->Ji j u w g z H=some r:=by
 intro n
 induction n with
 |zero=>intro _ _ h;cases h
 |succ n A =>
  intro g H h;rw[ZaV];simp only[ZaS,ZaT,ZaU,Zzp,Zzq,Vc];exact YY (fun _=>Od (YY fun _=>YY fun _=>YY fun _=>A _ _) id) h
def dgR:Z4 :=
 Z0 (K2 1 8 false (J wA 0) (J wA 256) (J wA 256) [.cells [(.str []),.nils,(.str []),(.str []),.nils,.nils]]) fun r=>Z0 (Zk (.slice 3) r.1) fun t=>dgL (.ptr 0 0) r.1 t 300 (J wA 0) r.2
theorem ZxC:Zlv defL dgR=true:=by kernel_rfl
theorem Zmf (H:Hp):∃ a,Zh FX [] H=some (a,H)/\LocAV a defL:=Ziq ZxC (fun r h=>by
 rw[Zc2];unfold S5;simp only[Vc];unfold dgR at h;exact YY (fun _=>YY fun _=>ZyH _ _ _ _ _ _ _) h) H
theorem ZhS:∀ (n:Nat) (l:List AV),l.length=n->UJ false 1 n l=l:=by
 intro n
 induction n with
 |zero=>intro l h;simp at h;subst h;rfl
 |succ n g =>
  intro l h
  cases l with
  |nil=>simp at h
  |cons a l =>
   have:l.length=n:=by simpa using h
   unfold UJ;simp[g l this]
theorem Zvw (l:List Int):((l.map (zN .i64)).map zV).flatten=l.map (zN .i64):=by
 induction l with
 |nil=>rfl
 |cons a l g=>simp[zV]at g ⊢;exact g
theorem ZuA (bytes:Nat)(hb:256*(bytes+1)<=140737488355328)(z:AV)(j:z.known=true)(g:z.cells.length=1)(H:Hp):K2 1 bytes false z (J wA 256) (J wA 256) H=some (.rs false 1 H.length 0 256 256,H++[.cells ((xG 256 z.cells).flatten)]):=by
 have h:Xg 256 bytes=true:=by simpa[Xg]using hb
 unfold K2;simp only;rw[if_pos ⟨by decide,by decide,j,g,by decide,h⟩,if_neg (by decide)];rfl
theorem Zvi {k:Nat}{x:AV}{l:List AV}(h:Sl k x l)(H:Hp):elems k x H=some l:=by
 rcases h with ⟨rfl,rfl⟩|⟨tok,rfl⟩
 ·rfl
 ·simp[elems]
theorem ZrQ {x:AV}{l:List Int}(h:Sl 1 x (l.map (zN .i64))){H:Hp}{o n:Nat}{z:List AV}(j:H[o]?=some (.cells z))(u:z.length=n)(g:l.length=n)(hn:0<n) :
 HT 1 (.rs false 1 o 0 n n) x H=some (J wA n,H.set o (.cells (l.map (zN .i64)))):=by
 unfold HT;simp only[Zvi h H];rw[if_neg (by intro e;have:=congrArg List.length e;simp at this;simp[this]at g;omega),if_pos (by simp;omega)];simp only[j];rw[if_pos (by simp;omega)];simp only[zP,g,splice,yM,zI,Zvw];rw[zG.2 (by simp;omega)];simp
theorem Zsi (H:Hp)(n f:Nat)(ag:Bool)(k o off len cap:Nat):Ze H n (f+1) (.rs ag k o off len cap)=if o<n then some (.rs ag k o off len cap) else
 match elems k (.rs ag k o off len cap) H with
 |some l=>match l.mapM (Ze H n f) with
  |some l=>some (.vs k .no l)
  |none=>none
 |none=>none:=(Eq.refl _).trans (Eq.refl _)
def Yh (L:Loc):Loc:=if (Wk L != 0)=true then defL else L
theorem Nb {f:List AV->Hp->Z4}{a a' v v':AV}{H H1:Hp}(ha:Ze [] 0 9 a=some a')(g:f [a'] []=some (v,H1))(h:Ze H1 0 9 v=some v'):Zh f [a] H=some (v',H):=by
 unfold Zh;simp[ha,g,h]
theorem checked {L:Loc}(h:(Wk L != 0)=false):L.w.length=256/\L.lo.length=256/\L.up.length=256:=by
 simp only[Wk,bne_eq_false_iff_eq]at h;split at h
 ·split at h
  ·cases h
  ·rename_i g;simp only[yP,bne_iff_ne,ne_eq,not_or,Decidable.not_not]at g;exact g
 ·cases h
theorem Ar {H1:Hp}{x c e g:AV}{L:Loc}(hx:Ze H1 0 8 x=some g)(B:Sl 1 g (L.w.map (zN .i64)))(C:Sl 5 c (L.cls.map Jb))(D:Sl 2 e (L.els.map DF)) :
 ∃ a',Ze H1 0 9 (.agg (L.cells x c e))=some a'/\LocAV a' L:=by
 obtain⟨c',j,u⟩:=C.close (H:=H1) (n:=0) (f:=7) (fun y hy=>by obtain⟨m,_,rfl⟩:=zR.1 hy;exact HY m H1 0 5);obtain⟨h,z,A⟩:=D.close (H:=H1) (n:=0) (f:=7) (fun y hy=>by obtain⟨m,_,rfl⟩:=zR.1 hy;exact Zav m H1 0 5);refine⟨.agg (L.cells g c' h),?_,g,c',h,rfl,B,u,A⟩
 have:(L.cells x c e).mapM (Ze H1 0 8)=some (L.cells g c' h):=by
  simp only[Loc.cells,xF,hx,j,z,yU];rfl
 rw[F3,this]
theorem Zj1 {a:AV}{L:Loc}(h:LocAV a L)(hok:LocOk L)(H:Hp):∃ a',Zh Uz [a] H=some (a',H)/\LocAV a' (Yh L):=by
 obtain⟨a1,h1,h2⟩:=h.close [] 0 5;have C:=fun H=>(Zkq h2 hok H).1;obtain⟨x,c,e,rfl,hx,hc,he⟩:=h2;obtain⟨d,K,M⟩:=Zmf [zA (L.cells x c e),.cells [(.str []),.nils,(.str []),(.str []),.nils,.nils]];unfold Yh
 cases hb:(Wk L != 0) with
 |true =>
  obtain⟨A,j,u,rfl,Q,N,O⟩:=M
  have g:Uz [.agg (L.cells x c e)] []=some (.agg (defL.cells A j u),[zA (L.cells x c e),.cells (defL.cells A j u)]):=by
   rw[Li];unfold PW;have S:Z3 true 6 (.ptr 0 0) [zA (L.cells x c e),.cells [(.str []),.nils,(.str []),(.str []),.nils,.nils]]=some (.agg (L.cells x c e)):=by simp[Z3,Go.Am.apart,Loc.cells]
   have aa:Za 6 (.ptr 1 0) (.agg (defL.cells A j u)) [zA (L.cells x c e),.cells [(.str []),.nils,(.str []),(.str []),.nils,.nils]]=some (.tuple [],[zA (L.cells x c e),.cells (defL.cells A j u)]):=by simp[Za,YX,yF,zV,Loc.cells,splice]
   have U:Z3 true 6 (.ptr 1 0) [zA (L.cells x c e),.cells (defL.cells A j u)]=some (.agg (defL.cells A j u)):=by simp[Z3,Go.Am.apart,Loc.cells]
   simp only[go_sem,zI,zJ,zL,zM,zF,S,C,hb,K,aa,U]
  obtain⟨ab,E,F⟩:=Q.close (H:=[zA (L.cells x c e),.cells (defL.cells A j u)]) (n:=0) (f:=7) (fun y hy=>by obtain⟨m,_,rfl⟩:=zR.1 hy;rfl);obtain⟨a',q1,q2⟩:=Ar E F N O;exact⟨a',Nb h1 g q1,by simpa using q2⟩
 |false =>
  obtain⟨hw,ac,ad⟩:=checked hb
  have g:Uz [.agg (L.cells x c e)] []=some (.agg (L.cells (.rs false 1 2 0 256 256) c e),[zA (L.cells (.rs false 1 2 0 256 256) c e),.cells (L.cells (.rs false 1 2 0 256 256) c e),.cells (L.w.map (zN .i64))]):=by
   rw[Li];unfold PW;have S:Z3 true 6 (.ptr 0 0) [zA (L.cells x c e),.cells [(.str []),.nils,(.str []),(.str []),.nils,.nils]]=some (.agg (L.cells x c e)):=by simp[Z3,Go.Am.apart,Loc.cells]
   have B:=ZuA 8 (by decide) (J wA 0) rfl rfl [zA (L.cells x c e),.cells [(.str []),.nils,(.str []),(.str []),.nils,.nils]];have I:((xG 256 (zN .i64 0).cells).flatten).length=256:=by simp[zV]
   generalize ((xG 256 (zN .i64 0).cells).flatten)=z at B I;simp only[zL,zJ,zM,zI]at B;have T:Z3 false 1 (.ptr 0 1) [zA (L.cells x c e),.cells [(.str []),.nils,(.str []),(.str []),.nils,.nils],.cells z]=some x:=by simp[Z3,Go.Am.apart,Loc.cells]
   have D:=ZrQ hx (H:=[zA (L.cells x c e),.cells [(.str []),.nils,(.str []),(.str []),.nils,.nils],.cells z]) (o:=2) rfl I hw (by omega);simp only[List.set_cons_succ,xJ]at D;have Y:Za 1 (.ptr 0 1) (.rs false 1 2 0 256 256) [zA (L.cells x c e),.cells [(.str []),.nils,(.str []),(.str []),.nils,.nils],.cells (L.w.map (zN .i64))]=some (.tuple [],[zA (L.cells (.rs false 1 2 0 256 256) c e),.cells [(.str []),.nils,(.str []),(.str []),.nils,.nils],.cells (L.w.map (zN .i64))]):=by simp[Za,YX,yF,zV,Loc.cells,splice]
   have V:Z3 true 6 (.ptr 0 0) [zA (L.cells (.rs false 1 2 0 256 256) c e),.cells [(.str []),.nils,(.str []),(.str []),.nils,.nils],.cells (L.w.map (zN .i64))]=some (.agg (L.cells (.rs false 1 2 0 256 256) c e)):=by simp[Z3,Go.Am.apart,Loc.cells]
   have Z:Za 6 (.ptr 1 0) (.agg (L.cells (.rs false 1 2 0 256 256) c e)) [zA (L.cells (.rs false 1 2 0 256 256) c e),.cells [(.str []),.nils,(.str []),(.str []),.nils,.nils],.cells (L.w.map (zN .i64))]=some (.tuple [],[zA (L.cells (.rs false 1 2 0 256 256) c e),.cells (L.cells (.rs false 1 2 0 256 256) c e),.cells (L.w.map (zN .i64))]):=by simp[Za,YX,yF,zV,Loc.cells,splice]
   have W:Z3 true 6 (.ptr 1 0) [zA (L.cells (.rs false 1 2 0 256 256) c e),.cells (L.cells (.rs false 1 2 0 256 256) c e),.cells (L.w.map (zN .i64))]=some (.agg (L.cells (.rs false 1 2 0 256 256) c e)):=by simp[Z3,Go.Am.apart,Loc.cells]
   simp only[go_sem,zI,zJ,zL,zM,zF,S,C,hb,Zep,B,T,D,Y,V,Z,W]
  have X:Ze [zA (L.cells (.rs false 1 2 0 256 256) c e),.cells (L.cells (.rs false 1 2 0 256 256) c e),.cells (L.w.map (zN .i64))] 0 8 (.rs false 1 2 0 256 256)=some (.vs 1 .no (L.w.map (zN .i64))):=by
   have R:elems 1 (.rs false 1 2 0 256 256) [zA (L.cells (.rs false 1 2 0 256 256) c e),.cells (L.cells (.rs false 1 2 0 256 256) c e),.cells (L.w.map (zN .i64))]=some (L.w.map (zN .i64)):=by
    simp[elems,hw];exact ZhS 256 _ (by simp[hw])
   rw[Zsi,if_neg (by omega),R];simp only;rw[Ou (fun y hy=>by obtain⟨m,_,rfl⟩:=zR.1 hy;rfl)]
  obtain⟨a',q1,q2⟩:=Ar X (.inr ⟨.no,rfl⟩) hc he;exact⟨a',Nb h1 g q1,by simpa using q2⟩
theorem ZoN {a:AV}{L:Loc}(h:LocAV a L)(hok:LocOk L)(H:Hp):∃ a',Zh DS [a] H=some (a',H)/\LocAV a' (Yh L):=by
 obtain⟨Y,S,T⟩:=h.close [] 0 5;have B:=fun H=>(Zkq T hok H).2;obtain⟨x,c,e,rfl,hx,W,X⟩:=T;obtain⟨d,E,F⟩:=L2 [zA (L.cells x c e),.cells [(.str []),.nils,(.str []),(.str []),.nils,.nils]];unfold Yh;have U:Z3 true 6 (.ptr 0 0) [zA (L.cells x c e),.cells [(.str []),.nils,(.str []),(.str []),.nils,.nils]]=some (.agg (L.cells x c e)):=by simp[Z3,Go.Am.apart,Loc.cells]
 cases hb:(Wk L != 0) with
 |true =>
  obtain⟨w,j,u,rfl,M,I,K⟩:=F
  have g:DS [.agg (L.cells x c e)] []=some (.agg (defL.cells w j u),[zA (L.cells x c e),.cells (defL.cells w j u)]):=by
   rw[II];unfold AU;have A:Za 6 (.ptr 1 0) (.agg (defL.cells w j u)) [zA (L.cells x c e),.cells [(.str []),.nils,(.str []),(.str []),.nils,.nils]]=some (.tuple [],[zA (L.cells x c e),.cells (defL.cells w j u)]):=by simp[Za,YX,yF,zV,Loc.cells,splice]
   have z:Z3 true 6 (.ptr 1 0) [zA (L.cells x c e),.cells (defL.cells w j u)]=some (.agg (defL.cells w j u)):=by simp[Z3,Go.Am.apart,Loc.cells]
   simp only[go_sem,zI,zJ,zL,zM,zF,U,B,hb,E,A,z]
  obtain⟨V,C,D⟩:=M.close (H:=[zA (L.cells x c e),.cells (defL.cells w j u)]) (n:=0) (f:=7) (fun y hy=>by obtain⟨m,_,rfl⟩:=zR.1 hy;rfl);obtain⟨a',Q,R⟩:=Ar C D I K;exact⟨a',Nb S g Q,by simpa using R⟩
 |false =>
  have g:DS [.agg (L.cells x c e)] []=some (.agg (L.cells x c e),[zA (L.cells x c e),.cells (L.cells x c e)]):=by
   rw[II];unfold AU;have A:Za 6 (.ptr 1 0) (.agg (L.cells x c e)) [zA (L.cells x c e),.cells [(.str []),.nils,(.str []),(.str []),.nils,.nils]]=some (.tuple [],[zA (L.cells x c e),.cells (L.cells x c e)]):=by simp[Za,YX,yF,zV,Loc.cells,splice]
   have z:Z3 true 6 (.ptr 1 0) [zA (L.cells x c e),.cells (L.cells x c e)]=some (.agg (L.cells x c e)):=by simp[Z3,Go.Am.apart,Loc.cells]
   simp only[go_sem,zI,zJ,zL,zM,zF,U,B,hb,Zhx,A,z]
  obtain⟨Z,N,O⟩:=hx.close (H:=[zA (L.cells x c e),.cells (L.cells x c e)]) (n:=0) (f:=7) (fun y hy=>by obtain⟨m,_,rfl⟩:=zR.1 hy;rfl);obtain⟨a',Q,R⟩:=Ar N O W X;exact⟨a',Nb S g Q,by simpa using R⟩
def JA (b:UInt8):AV:=.int .u8 b.toNat
def VE (t s:List UInt8):List UInt8:=s.map fun b=>t.getD b.toNat 0
theorem ZfT:∀ s:List UInt8,Vd (s.map JA)=some s:=by
 intro s
 induction s with
 |nil=>rfl
 |cons b l g =>
  show (match Vd (l.map JA) with|some l=>some (yG (b.toNat:Int).toNat::l)|none=>none)=_;rw[g];simp
theorem Zpk {t:List UInt8}(g:t.length=256)(b:UInt8):Zx (.str t) (.int .u8 b.toNat)=some (.int .u8 (t.getD b.toNat 0).toNat):=by
 have hb:b.toNat<t.length:=by rw[g];exact b.toNat_lt
 simp[Zx,zC hb,yR]
theorem Zzc (o e n:Nat){i:Nat}(hi:i<n):Zo 1 (.ws false 1 o e n) (J wA (i:Int))=some (.wp o e i):=by
 simp[Zo,hi]
theorem ZtY (e:Nat)(l:List AV)(i:Nat):Z3 false 1 (.wp 0 e i) [yI e l]=l[i]?:=by simp[Z3,Go.Am.apart]
theorem Zrl (e:Nat)(l:List AV){i:Nat}(hi:i<l.length)(v:AV)(hk:v.known=true)(g:v.cells.length=1):Za 1 (.wp 0 e i) v [yI e l]=some (.tuple [],[yI e (splice l i v.cells)]):=by
 unfold Za YX;simp only[zB];rw[if_pos ⟨trivial,hk,g,by omega⟩];rfl
theorem ZqT (a:List AV)(x y:AV)(b:List AV):splice (a++x::b) a.length [y]=a++y::b:=by
 unfold splice;simp
theorem ZoC {t:List UInt8}(D:t.length=256)(s:List UInt8)(F:s.length<=4611686018427387904)(A:Hp):∀ (r done:List UInt8),s=done++r ->
 Ki (.str t) (.ws false 1 0 0 s.length) (J wA (s.length:Int)) (J wA (done.length:Int)) A [yI 0 ((VE t done).map JA++r.map JA)]=some (.str (VE t s),[yI 0 ((VE t s).map JA)]):=by
 intro r
 induction r with
 |nil =>
  intro done u;obtain rfl:done=s:=by rw[u,yA]
  rw[Pt];have g:decide ((done.length:Int)<(done.length:Int))=false:=by simp
  have w:JB (.ws false 1 0 0 done.length) [yI 0 ((VE t done).map JA)]=some ((VE t done).map JA):=by
   simp[JB,elems,VE];exact ZhS _ _ (by simp)
  have C:Qb (.ws false 1 0 0 done.length) [yI 0 ((VE t done).map JA)]=some (.str (VE t done)):=by
   unfold Qb;simp only[JK,w,ZfT]
  simp only[go_sem,g,Zcg,xY,yA,C]
 |cons b r E =>
  intro done u;rw[Pt];have B:done.length<s.length:=by rw[u];simp
  have g:decide ((done.length:Int)<(s.length:Int))=true:=by simp;omega
  have hw:xZ.wrap ((done.length:Int)+1)=((done.length+1:Nat):Int):=by rw[Zp (by omega) (by omega)];omega
  have j:((VE t done).map JA).length=done.length:=by simp[VE]
  have h:((VE t done).map JA++(b::r).map JA)[done.length]?=some (.int .u8 b.toNat):=by
   rw[zZ (by omega),j];simp[JA]
  have z:Za 1 (.wp 0 0 done.length) (.int .u8 (t.getD b.toNat 0).toNat) [yI 0 ((VE t done).map JA++(b::r).map JA)]=some (.tuple [],[yI 0 ((VE t (done++[b])).map JA++r.map JA)]):=by
   rw[Zrl 0 _ (by simp[VE]) _ rfl rfl];have:=ZqT ((VE t done).map JA) (JA b) (.int .u8 (t.getD b.toNat 0).toNat) (r.map JA);rw[j]at this;simp only[yT,zV];rw[this];simp[VE,JA]
  have:=E (done++[b]) (by rw[u];simp);rw[zY,zX]at this;simp only[go_sem,g,Zch,Zzc 0 0 s.length B,ZtY,h,Zpk D,z,Zci,hw];exact this
theorem ZoB {t:List UInt8}(j:t.length=256)(s:List UInt8)(h:s.length<=4611686018427387904)(H:Hp):Zh RU [.str t,.str s] H=some (.str (VE t s),H):=by
 refine FP (a':=.str t) (b':=.str s) (H1:=[yI 0 ((VE t s).map JA)]) rfl rfl ?_ rfl;rw[ZcT];unfold HG;have:=ZoC j s h [] s [] rfl;simp only[zJ,VE,xY,zI]at this;have e:Zak (.str s) []=some (.ws false 1 0 0 s.length,[yI 0 (s.map JA)]):=rfl;have g:Zk (.slice 5) (.ws false 1 0 0 s.length)=some (J wA s.length):=rfl;simp only[e,g,go_sem];exact this
theorem ZyX (b:UInt8):(ZB 1 [(0,zN .u8 b.toNat)] [(.int .u8 0)]).map (AV.vs 1 .clip)=some (.vs 1 .clip [JA b]):=rfl
theorem Zya {n:Nat}{H:Hp}{x:AV}{s:List UInt8}(h:RowN n H 1 x (s.map JA)):Qb x H=some (.str s):=by
 rcases h with ⟨rfl,h⟩|⟨t,e,rfl,_⟩
 ·have:s=[]:=by cases s with
   |nil=>rfl
   |cons a l=>simp at h
  subst this;rfl
 ·unfold Qb JK;simp only[if_true,ZfT]
theorem Znf {t:List UInt8}(z:t.length=256)(s:List UInt8)(D:s.length<=1048576)(j:Hp):∀ (r done:List UInt8) (x:AV) (H:Hp),s=done++r->RowN 0 H 1 x ((VE t done).map JA) ->
 ∃ H',FL (.str t) (.str s) x (J wA (done.length:Int)) j H=some (.str (VE t s),H'):=by
 intro r
 induction r with
 |nil =>
  intro done x H h hx;rw[yA]at h;subst h;rw[Sv];have g:decide ((s.length:Int)<(s.length:Int))=false:=by simp
  simp only[go_sem,YK,g,Zgs,Zya hx];exact⟨_,rfl⟩
 |cons b r A =>
  intro done x H h hx;rw[Sv];have C:done.length<s.length:=by rw[h];simp
  have g:decide ((done.length:Int)<(s.length:Int))=true:=by simp;omega
  have hw:xZ.wrap ((done.length:Int)+1)=((done.length+1:Nat):Int):=by rw[Zp (by omega) (by omega)];omega
  have hb:s[done.length]?=some b:=by rw[h,zZ (by omega)];simp
  obtain⟨B,H',u,w,_,_,_⟩:=hx.app (xC _) 1 (.vs 1 .clip [JA (t.getD b.toNat 0)]) [JA (t.getD b.toNat 0)] (by simp[elems]) (by simp[VE];omega);simp only[go_sem,YK,g,Zgt,ZW hb,Zpk z,ZyX,u,Zgu,hw];have:=A (done++[b]) B H' (by rw[h];simp) (by simpa[VE]using w);rw[zY,zX]at this;exact this
theorem Zne {t:List UInt8}(j:t.length=256)(s:List UInt8)(g:s.length<=1048576)(H:Hp):Zh EP [.str t,.str s] H=some (.str (VE t s),H):=by
 obtain⟨H',h⟩:=Znf j s g [] s [] .nils [] rfl (RowN.nil 0 [] 1);refine FP (a':=.str t) (b':=.str s) (H1:=H') rfl rfl ?_ rfl;rw[Zhj];unfold ZcN;exact h
theorem Zp5:defL.up.length=256/\defL.w.length=256:=⟨by simp[defL],by simp[defL]⟩
theorem ZkU (L:Loc):(Yh L).up.length=256:=by
 unfold Yh
 cases h:(Wk L != 0) with
 |true=>exact Zp5.1
 |false=>exact (checked h).2.2
theorem ZnE (L:Loc):(Yh L).w.length=256:=by
 unfold Yh
 cases h:(Wk L != 0) with
 |true=>exact Zp5.2
 |false=>exact (checked h).1
def upS (L:Loc)(s:List UInt8):List UInt8:=VE (Yh L).up s
theorem Zrw {a:AV}{L:Loc}(h:LocAV a L)(hok:LocOk L)(s:List UInt8)(D:s.length<=1048576)(H:Hp):Zh PT [a,.str s] H=some (.str (upS L s),H)/\Zh ZfA [a,.str s] H=some (.str (upS L s),H):=by
 obtain⟨F,B,u⟩:=h.close [] 0 5;have E:=fun H=>Zj1 u hok H;have z:=fun H=>ZoN u hok H;obtain⟨x,c,e,rfl,hx,I,K⟩:=u;have C:Z3 true 6 (.ptr 0 0) [zA (L.cells x c e)]=some (.agg (L.cells x c e)):=by simp[Z3,Go.Am.apart,Loc.cells]
 constructor
 ·obtain⟨v,g,A,j,ev,rfl,_⟩:=E [zA (L.cells x c e)];have w:EM false 1 3 (.agg ((Yh L).cells A j ev))=some (.str (Yh L).up):=rfl;refine FP B (b':=.str s) rfl (H1:=[zA (L.cells x c e)]) ?_ rfl;rw[Zf6];unfold IR;simp only[go_sem,zI,zJ,C,g,w,ZoB (ZkU L) s (by omega)];rfl
 ·obtain⟨v,g,A,j,ev,rfl,_⟩:=z [zA (L.cells x c e)];have w:EM false 1 3 (.agg ((Yh L).cells A j ev))=some (.str (Yh L).up):=rfl;refine FP B (b':=.str s) rfl (H1:=[zA (L.cells x c e)]) ?_ rfl;rw[Zj7];unfold ZfC;simp only[go_sem,zI,zJ,C,g,w,Zne (ZkU L) s D];rfl
theorem Zsb {α:Type}{bad:α->Option Int}{key:α->List UInt8}(hb:∀ c e,bad c=some e->e≠0){l:List α}(h:MF bad key l []=0):∀ i,i<=l.length->MF bad key (l.drop i) ((l.take i).map key)=0:=by
 intro i
 induction i with
 |zero=>intro _;simpa using h
 |succ i u =>
  intro hi;have:=u (by omega);rw[zH (by omega),Rv]at this
  cases g:bad l[i] with
  |some e=>rw[g]at this;exact absurd this (hb _ _ g)
  |none =>
   rw[g]at this;simp only at this;split at this
   ·cases this
   ·have j:(l.take (i+1)).map key=(l.take i).map key++[key l[i]]:=by
     rw[yC,zC (by omega),yE];rfl
    rw[j];exact this
theorem ZuU {α:Type}{bad:α->Option Int}{key:α->List UInt8}(hb:∀ c e,bad c=some e->e≠0){l:List α}(h:MF bad key l []=0){i:Nat}(hi:i<l.length):((l.take i).map key).contains (key l[i])=false:=by
 have:=Zsb hb h i (by omega);rw[zH (by omega),Rv]at this
 cases g:bad l[i] with
 |some e=>rw[g]at this;exact absurd this (hb _ _ g)
 |none =>
  rw[g]at this;simp only at this;split at this
  ·cases this
  ·rename_i hn;exact Bool.eq_false_iff.2 hn
theorem Zvh:∀ c e,Zau c=some e->e≠0:=by
 intro c e h;unfold Zau at h;split at h
 ·injection h with h;omega
 ·cases h
def ZlB (l:List (List UInt8×Int)):Prop:=∀ i (hi:i<l.length),((l.take i).map zK).contains l[i].1=false
theorem Zj0 (L:Loc):ZlB (Yh L).els:=by
 unfold Yh
 cases h:(Wk L != 0) with
 |true=>intro i hi;simp[defL]at hi
 |false =>
  simp only[Wk,bne_eq_false_iff_eq]at h
  have:SJ L.els=0:=by
   split at h
   ·split at h
    ·cases h
    ·split at h
     ·cases h
     ·unfold Zbl at h;split at h
      ·rename_i g;simp[h]at g
      ·exact h
   ·cases h
  unfold SJ at this;split at this
  ·cases this
  ·intro i hi;exact ZuU (key:=zK) Zvh this hi
def Sq (g:List (AV×AV×Nat))(l:List (List UInt8×Int)):Prop:=g.map (fun e=>(e.1,e.2.1))=l.map fun e=>(xA e.1,zN .i64 e.2)
theorem Zkh (k:List UInt8):∀ (g:List (AV×AV×Nat)) (l:List (List UInt8×Int)) (i:Nat),Sq g l ->
 match l.find? (fun e=>e.1==k) with
 |some e=>∃ j,YT (.str k) g i=some (some (j,J wA e.2))
 |none=>YT (.str k) g i=some none:=by
 intro g
 induction g with
 |nil =>
  intro l i h
  cases l with
  |nil=>simp[YT]
  |cons s r=>simp[Sq]at h
 |cons e g z =>
  intro l i h
  cases l with
  |nil=>simp[Sq]at h
  |cons s r =>
   obtain⟨a,b,c⟩:=e;simp only[Sq,yT,List.cons.injEq,xS]at h;obtain⟨⟨rfl,rfl⟩,w⟩:=h;have:=z r (i+1) w;have u:(k==s.1)=(s.1==k):=by rw[zS,beq_iff_eq,beq_iff_eq];exact eq_comm
   simp only[YT,JC,List.find?_cons,u]
   cases hk:(s.1==k) with
   |true=>exact⟨i,rfl⟩
   |false=>exact this
theorem Zvj {H:Hp}{m:Nat}{g:List (AV×AV×Nat)}{c:Nat}{l:List (List UInt8×Int)}(hm:H[m]?=some (.map g c))(w:Sq g l)(k:List UInt8) :
 Y7 .string (J wA 0) true (.map m) (.str k) H=some (match l.find? (fun e=>e.1==k) with|some e=>.tuple [J wA e.2,.bool true]|none=>.tuple [J wA 0,.bool false]):=by
 have h:=Zkh k g l 0 w;unfold Y7;simp only[Wn,if_true,Xk,hm]
 cases hk:l.find? (fun e=>e.1==k) with
 |some e =>
  rw[hk]at h;obtain⟨j,u⟩:=h;simp[u]
 |none =>
  rw[hk]at h;simp at h;simp[h]
theorem ZsO {l:List (List UInt8×Int)}{k:List UInt8}(h:(l.map zK).contains k=false):l.find? (fun e=>e.1==k)=none:=by
 rw[List.find?_eq_none];intro e he hk;have:k∈l.map zK:=zR.2 ⟨e,he,by simpa using hk⟩;simp at h
 exact h e.2 (by have : e.1 = k := by simpa using hk
                 subst this;exact he)
theorem ZxD {H:Hp}{m:Nat}{g:List (AV×AV×Nat)}{c:Nat}{l:List (List UInt8×Int)}(hm:H[m]?=some (.map g c))(j:Sq g l){e:List UInt8×Int}(hk:(l.map zK).contains e.1=false) :
 Xw .string (.map m) (.str e.1) (J wA e.2) H=some (.tuple [],H.set m (.map (g++[(.str e.1,J wA e.2,c)]) (c+1)))/\Sq (g++[(.str e.1,J wA e.2,c)]) (l++[e]):=by
 have h:=Zkh e.1 g l 0 j;rw[ZsO hk]at h;constructor
 ·unfold Xw;simp only[hm,Wn,if_true,h]
 ·unfold Sq at j ⊢;simp[j]
theorem Zvg {x:AV}{l:List (List UInt8×Int)}(h:Sl 2 x (l.map DF))(A:ZlB l)(V:l.length<=1048576)(E F:AV)(D:Hp):∀ (k i:Nat) (H:Hp) (w:List (AV×AV×Nat)) (c:Nat),l.length-i=k->i<=l.length ->
 H[2]?=some (.map w c)->Sq w (l.take i)->3<=H.length ->
 ∃ H' g c',Bp E F (.ptr 1 0) (.map 2) x (J wA (l.length:Int)) (J wA (i:Int)) D H=Nh E F (.ptr 1 0) (.map 2) D H'/\H'[0]?=H[0]?/\H'[1]?=H[1]?/\H'[2]?=some (.map g c')/\Sq g l/\3<=H'.length:=by
 intro k
 induction k with
 |zero =>
  intro i H w c hk hi hm B hlen;rw[LE];have u:decide ((i:Int)<(l.length:Int))=false:=by simp;omega
  simp only[go_sem,u];exact⟨H,w,c,rfl,rfl,rfl,hm,by rw[List.take_of_length_le (by omega)]at B;exact B,hlen⟩
 |succ k S =>
  intro i H w c hk hi hm B hlen;rw[LE];have j:i<l.length:=by omega
  have u:decide ((i:Int)<(l.length:Int))=true:=by simp;omega
  have hw:xZ.wrap ((i:Int)+1)=((i+1:Nat):Int):=by rw[Zp (by omega) (by omega)];omega
  have C:=Sy H 2 [.str l[i].1,J wA l[i].2] [.str [],J wA 0] rfl rfl;have z:(H++[zA [xA l[i].1,zN .i64 l[i].2]])[2]?=some (.map w c):=ZY hm _;obtain⟨T,U⟩:=ZxD z B (e:=l[i]) (A i j);simp only[go_sem,u,Zfr,h.els (zC j),Vz 2 [.str l[i].1,J wA l[i].2] rfl,C,zF,ZH,zB,zE,T,Zfs,hw];have R:l.take (i+1)=l.take i++[l[i]]:=by rw[yC,zC j];rfl
  obtain⟨H',g,c',I,K,M,N,O,Q⟩:=S (i+1) _ _ _ (by omega) (by omega) (Zq _ z) (by rw[R];exact U) (by simp;omega);refine⟨H',g,c',I,?_,?_,N,O,Q⟩
  ·rw[K,yJ (by omega),yV (by omega)]
  ·rw[M,yJ (by omega),yV (by omega)]
def wOf (L:Loc)(b:UInt8):Int:=L.w.getD b.toNat 0
def wS (L:Loc):List UInt8->List Int
 |[]=>[]
 |[b]=>[wOf L b]
 |b::c::r=>match L.els.find? (fun e=>e.1==[b,c]) with
  |some e=>e.2::wS L r
  |none=>wOf L b::wS L (c::r)
theorem ZxY (n:Int):(ZB 1 [(0,zN .i64 n)] [(J wA 0)]).map (AV.vs 1 .clip)=some (.vs 1 .clip [J wA n]):=rfl
theorem R6 {s:List UInt8}{i j:Nat}(g:i<=j)(w:j<=s.length):Y8 (.str s) (some (J wA (i:Int))) (some (J wA (j:Int))) none=some (.str ((s.take j).drop i)):=by
 have h:X8 (J wA (j:Int)) s.length=some j:=by simp[X8,w]
 have u:X8 (J wA (i:Int)) j=some i:=by simp[X8,g]
 unfold Y8 GW Ys;simp only[h,u]
theorem Zzt {x:AV}{L:Loc}(h:Sl 1 x (L.w.map (zN .i64)))(hw:L.w.length=256)(b:UInt8):Zo 1 x (.int .u8 b.toNat)=some (.vp [J wA (wOf L b)]):=by
 have hb:b.toNat<L.w.length:=by rw[hw];exact b.toNat_lt
 rcases h with ⟨rfl,h⟩|⟨tok,rfl⟩
 ·simp at h;simp[h]at hb
 ·simp[Zo,zC hb,wOf,yR,zV]
structure WSt (L:Loc)(x c e:AV)(es:List (AV×AV×Nat))(acc:List Int)(H:Hp):Prop where
 out:∃ y,H[0]?=some (.cells [y])/\RowN 3 H 1 y (acc.map (zN .i64))
 loc:H[1]?=some (.cells (L.cells x c e))
 mp:∃ k,H[2]?=some (.map es k)
 len:3<=H.length
theorem Zp3 {L:Loc}{x c e:AV}{D:List (AV×AV×Nat)}{g:List Int}{H:Hp}(h:WSt L x c e D g H)(T:g.length<=1048576)(t:AV)(w:Int) :
 ∃ H',Yf cfg (Zb cfg) (.fn (.func 110) [] [.ptr 0 0]) [t,J wA w] H=some (.bool true,H')/\WSt L x c e D (g++[w]) H':=by
 obtain⟨⟨y,E,O⟩,I,⟨k,K⟩,M⟩:=h;obtain⟨j,H1,F,C,R,z,S⟩:=O.app M 8 (.vs 1 .clip [J wA w]) [J wA w] (by simp[elems]) (by simp;omega);have u:H1[0]?=some (.cells [y]):=by rw[z 0 (by omega)];exact E
 have B:Za 1 (.ptr 0 0) j H1=some (.tuple [],H1.set 0 (.cells [j])):=by
  have A:j.known=true/\j.cells=[j]:=by
   rcases C with ⟨rfl,_⟩|⟨t,e,rfl,_⟩ <;> exact⟨rfl,rfl⟩
  rw[WT (sz:=1) u A.1 (by rw[A.2];rfl) (by simp)];rw[A.2];rfl
 refine⟨H1.set 0 (.cells [j]),?_,⟨⟨j,Zq _ u,?_⟩,?_,⟨k,?_⟩,by simp;omega⟩⟩
 ·rw[Za8];show JX [t,J wA w,.ptr 0 0] H=_;rw[CS];unfold RV;simp only[Y2 E,zB,go_sem,ZxY,F,B]
 ·rcases C with ⟨rfl,N⟩|⟨t,e,rfl,Q,hn⟩
  ·exact .inl ⟨rfl,by rw[yE];exact N⟩
  ·exact .inr ⟨t,e,by simp,Yd _ (by omega) Q,hn⟩
 ·rw[yJ (by omega),z 1 (by omega)];exact I
 ·rw[yJ (by omega),z 2 (by omega)];exact K
theorem Zsy {L:Loc}{x c e:AV}(hx:Sl 1 x (L.w.map (zN .i64)))(hw:L.w.length=256){D:List (AV×AV×Nat)}(R:Sq D L.els)(s:List UInt8)(hs:s.length<=1048576)(V:Hp):∀ (n:Nat) (done r:List UInt8) (g:List Int) (H:Hp),r.length<=n->s=done++r->g.length<=done.length->WSt L x c e D g H ->
 ∃ H',Bo (.str s) (.fn (.func 110) [] [.ptr 0 0]) (.ptr 1 0) (.map 2) (J wA (done.length:Int)) V H=some (.tuple [],H')/\WSt L x c e D (g++wS L r) H':=by
 intro n
 induction n with
 |zero =>
  intro done r g H S j ha h;have:r=[]:=yX.1 (by omega);subst this;rw[yA]at j;subst j;rw[DH];have u:decide ((s.length:Int)<(s.length:Int))=false:=by simp
  simp only[go_sem,YK,u];exact⟨H,rfl,by simpa[wS]using h⟩
 |succ n Y =>
  intro done r g H S j ha h
  cases r with
  |nil =>
   rw[yA]at j;subst j;rw[DH];have u:decide ((s.length:Int)<(s.length:Int))=false:=by simp
   simp only[go_sem,YK,u];exact⟨H,rfl,by simpa[wS]using h⟩
  |cons b r =>
   have hl:done.length<s.length:=by rw[j];simp
   have B:s.length=done.length+(r.length+1):=by rw[j];simp
   have u:decide ((done.length:Int)<(s.length:Int))=true:=by simp;omega
   have I:xZ.wrap ((done.length:Int)+1)=((done.length+1:Nat):Int):=by rw[Zp (by omega) (by omega)];omega
   have K:xZ.wrap ((done.length:Int)+2)=((done.length+2:Nat):Int):=by rw[Zp (by omega) (by omega)];omega
   have hb:s[done.length]?=some b:=by rw[j,zZ (by omega)];simp
   have T:(s.take (done.length+1)).drop done.length=[b]:=by rw[j,xO];simp
   have one:∀ H,WSt L x c e D g H->∃ H',JD (.str s) (.fn (.func 110) [] [.ptr 0 0]) (.ptr 1 0) (.map 2) (J wA (done.length:Int)) (.str [b]) (J wA (wOf L b)) V H=some (.tuple [],H')/\WSt L x c e D (g++wOf L b::wS L r) H':=by
    intro H h;obtain⟨H1,N,O⟩:=Zp3 h (by omega) (.str [b]) (wOf L b);obtain⟨M,E,Q⟩:=Y (done++[b]) r (g++[wOf L b]) H1 (by simp at S;omega) (by rw[j];simp) (by simp;omega) O;rw[zY,zX]at E;rw[LC];have z:(([b]:List UInt8).length:Int)=1:=rfl;simp only[N,go_sem,LD,YK,z,I,E];exact⟨M,rfl,by simpa using Q⟩
   rw[DH];obtain⟨⟨y,Z,F⟩,W,⟨k,X⟩,h3⟩:=h;have h:WSt L x c e D g H:=⟨⟨y,Z,F⟩,W,⟨k,X⟩,h3⟩;simp only[go_sem,YK,u,Zfq,I,R6 (Nat.le_succ _) (show done.length+1<=s.length by omega),T,zF,Y2 W,Loc.cells,zB,zE,ZW hb,Zzt hx hw,Zz,K]
   cases r with
   |nil =>
    have A:decide (((done.length+2:Nat):Int)<=(s.length:Int))=false:=by simp at B ⊢;omega
    simp only[A,go_sem];have:=one H h;simpa[wS]using this
   |cons C r =>
    have A:decide (((done.length+2:Nat):Int)<=(s.length:Int))=true:=by simp at B ⊢;omega
    have U:(s.take (done.length+2)).drop done.length=[b,C]:=by rw[j,xO];simp
    simp only[A,go_sem,R6 (show done.length<=done.length+2 by omega) (show done.length+2<=s.length by simp at B;omega),U,Zvj X R];unfold wS
    cases hf:L.els.find? (fun e=>e.1==[b,C]) with
    |none =>
     simp only[go_sem,zB,zE];exact one H h
    |some el =>
     simp only[go_sem,zB,zE];obtain⟨H1,N,O⟩:=Zp3 h (by omega) (.str [b,C]) el.2;obtain⟨M,E,Q⟩:=Y (done++[b,C]) r (g++[el.2]) H1 (by simp at S;omega) (by rw[j];simp) (by simp;omega) O;rw[zY,show ([b,C]:List UInt8).length=2 from rfl]at E;rw[LC];have z:(([b,C]:List UInt8).length:Int)=2:=rfl;simp only[N,go_sem,LD,YK,z,K,E];exact⟨M,rfl,by simpa using Q⟩
def LocCells (l:List AV)(L:Loc):Prop:=∃ x c e,l=L.cells x c e/\Sl 1 x (L.w.map (zN .i64))/\Sl 5 c (L.cls.map Jb)/\Sl 2 e (L.els.map DF)
theorem LocCells.close {l:List AV}{L:Loc}(h:LocCells l L)(H:Hp)(n f:Nat):∃ C,l.mapM (Ze H n (f+3))=some C/\LocCells C L:=by
 obtain⟨x,c,e,rfl,hx,E,F⟩:=h;obtain⟨D,z,A⟩:=hx.close (H:=H) (n:=n) (f:=f+2) (fun y hy=>by obtain⟨m,_,rfl⟩:=zR.1 hy;rfl);obtain⟨c',g,j⟩:=E.close (H:=H) (n:=n) (f:=f+2) (fun y hy=>by obtain⟨m,_,rfl⟩:=zR.1 hy;exact HY m H n f);obtain⟨B,u,w⟩:=F.close (H:=H) (n:=n) (f:=f+2) (fun y hy=>by obtain⟨m,_,rfl⟩:=zR.1 hy;exact Zav m H n f);refine⟨L.cells D c' B,?_,D,c',B,rfl,A,j,w⟩;simp only[Loc.cells,xF,z,g,u,yU];rfl
theorem Qw (H:Hp)(n f:Nat)(l:List AV):Ze H n (f+1) (.vp l)=match l.mapM (Ze H n f) with
 |some l=>some (.vp l)
 |none=>none:=(Eq.refl _).trans (Eq.refl _)
theorem Mf {f:List AV->Hp->Z4}{a a' b b' v v':AV}{H H1:Hp}(ha:Ze [] 0 9 a=some a')(hb:Ze [] 0 9 b=some b')(g:f [a',b'] []=some (v,H1))(h:Ze H1 0 9 v=some v'):Zh f [a,b] H=some (v',H):=by
 unfold Zh;simp[ha,hb,g,h]
theorem RowN.close {n:Nat}{H:Hp}{x:AV}{l:List Int}(h:RowN n H 1 x (l.map (zN .i64)))(H1:Hp):∃ g,Ze H1 0 9 x=some g/\Sl 1 g (l.map (zN .i64)) :=
 h.sl.close (f:=8) (fun y hy=>by obtain⟨m,_,rfl⟩:=zR.1 hy;rfl)
theorem ZeK {l:List AV}{L:Loc}(h:LocCells l L)(hw:L.w.length=256)(g:ZlB L.els)(hn:L.els.length<=1048576)(s:List UInt8)(O:s.length<=1048576)(H:Hp) :
 ∃ v,Zh Qn [.str s,.vp l] H=some (v,H)/\Sl 1 v ((wS L s).map (zN .i64)):=by
 obtain⟨X,N,x,c,e,rfl,hx,W,D⟩:=h.close [] 0 5;have j:Ze [] 0 9 (.vp l)=some (.vp (L.cells x c e)):=by rw[Qw,N]
 have hlen:=D.len 189;rw[zP]at hlen;obtain⟨H1,M,k,E,Q,R,S,T,U⟩:=Zvg D g hn (.str s) (.fn (.func 110) [] [.ptr 0 0]) [zA [.nils]] L.els.length 0 [zA [.nils],.cells (L.cells x c e),.map [] 0] [] 0 (by omega) (by omega) rfl rfl (by simp);rw[show ((0:Nat):Int)=0 from rfl]at E;have z:WSt L x c e M [] H1:=⟨⟨.nils,by rw[Q];rfl,RowN.nil _ _ _⟩,by rw[R];rfl,⟨k,S⟩,U⟩;obtain⟨C,F,⟨⟨y,V,I⟩,_,_,_⟩⟩:=Zsy hx hw T s O [zA [.nils]] s.length [] s [] H1 (yS _) rfl (by simp) z;rw[zJ,show ((0:Nat):Int)=0 from rfl]at F;rw[zI]at I;obtain⟨v,A,B⟩:=I.close C;refine⟨v,Mf (a':=.str s) rfl j ?_ A,B⟩;rw[IQ];unfold NN
 have K:MA [.agg (L.cells x c e),.str s,.fn (.func 110) [] [.ptr 0 0]] [zA [.nils]]=some (.tuple [],C):=by
  rw[Zgl];unfold Zbt;have u:Z3 false 1 (.ptr 1 5) [zA [.nils],.cells (L.cells x c e),.map [] 0]=some e:=by simp[Z3,Go.Am.apart,Loc.cells]
  simp only[go_sem,zL,zJ,zM,zI,zF,u,hlen,E,Zfp,F]
 simp only[go_sem,zJ,zI,Vz 6 (L.cells x c e) rfl,K,Y2 V,zB]
def Ztj (r:List UInt8)(e:List UInt8×Int):Bool :=
 match r with
 |b::c::_=>e.1==[b,c]
 |_=>false
theorem Zzb (L:Loc)(b c:UInt8)(r:List UInt8):wS L (b::c::r)=match L.els.find? (Ztj (b::c::r)) with
 |some e=>e.2::wS L r
 |none=>wOf L b::wS L (c::r):=(Eq.refl _).trans (Eq.refl _)
set_option linter.unusedSectionVars false
def Uo:List Int->List Int->Int
 |[],[]=>0
 |[],_::_=>-1
 |_::_,[]=>1
 |a::l,b::m=>if a<b then -1 else if b<a then 1 else Uo l m
theorem JP (a b:Int)(l m:List Int):Uo (a::l) (b::m)=if a<b then -1 else if b<a then 1 else Uo l m:=(Eq.refl _).trans (Eq.refl _)
theorem ZtB {l m:List Int}(h:l=[]\/m=[]):Uo l m=if l.length<m.length then -1 else if m.length<l.length then 1 else 0:=by
 rcases h with rfl|rfl
 ·cases m <;> simp[Uo]
 ·cases l <;> simp[Uo]
theorem Zm3:∀ a b:List UInt8,Uo (a.map fun c=>(c.toNat:Int)) (b.map fun c=>(c.toNat:Int))=K3 a b:=by
 intro a
 induction a with
 |nil=>intro b;cases b <;> simp[Uo,K3]
 |cons x a z =>
  intro b
  cases b with
  |nil=>simp[Uo,K3]
  |cons y b =>
   simp only[yT,JP,K3];by_cases h:x=y
   ·subst h;simp[z b]
   ·have w:x.toNat≠y.toNat:=fun e=>h (UInt8.toNat_inj.1 e);by_cases g:x<y
    ·have:(x.toNat:Int)<y.toNat:=by have:=xD.1 g;omega
     simp[h,g,this]
    ·have j:¬ (x.toNat:Int)<y.toNat:=by
      intro A;exact g (xD.2 (by omega))
     have u:(y.toNat:Int)<x.toNat:=by omega
     simp[h,g,j,u]
theorem Zu0 (a b:List UInt8)(H:Hp):Zh Du [.str a,.str b] H=some (J wA (K3 a b),H):=by
 have g:∀ H,Zh Wb [.str a,.str b] H=some (J wA (K3 a b),H):=fun H=>by
  refine FP (a':=.str a) (b':=.str b) (H1:=[]) rfl rfl ?_ rfl;rw[Bk];rfl
 refine FP (a':=.str a) (b':=.str b) (H1:=[]) rfl rfl ?_ rfl;rw[Za2];unfold Lo;simp only[g,go_sem]
section
variable {x y:AV}{a b:List Int}(hx:Sl 1 x (a.map (zN .i64)))(hy:Sl 1 y (b.map (zN .i64)))(ha:a.length<=4611686018427387904)(hb:b.length<=4611686018427387904)
include hx hy ha hb
theorem ZtD (s t:List UInt8)(E H:Hp):∀ (k i:Nat),min a.length b.length-i=k->i<=min a.length b.length ->
 Jg (.str s) (.str t) x y (J wA ((min a.length b.length:Nat):Int)) (J wA (i:Int)) E H=some (J wA (if (Uo (a.drop i) (b.drop i) != 0)=true then Uo (a.drop i) (b.drop i) else K3 s t),H):=by
 have z:=hx.len 3;have A:=hy.len 3;rw[zP]at z A;intro k
 induction k with
 |zero =>
  intro i hk hi;rw[TI];have B:decide ((i:Int)<((min a.length b.length:Nat):Int))=false:=by simp;omega
  have F:a.drop i=[]\/b.drop i=[]:=by
   rcases Nat.le_total a.length b.length with h|h
   ·exact .inl (zG.2 (by omega))
   ·exact .inr (zG.2 (by omega))
  rw[ZtB F];simp only[yL,go_sem,B,ZaM,z,A];by_cases K:a.length<b.length
  ·have c:decide ((a.length:Int)<(b.length:Int))=true:=by simp;omega
   have g:a.length-i<b.length-i:=by omega
   simp only[c,go_sem,g,if_true];rfl
  ·have c:decide ((a.length:Int)<(b.length:Int))=false:=by simp;omega
   have g:¬ a.length-i<b.length-i:=by omega
   simp only[c,go_sem,g,if_false,ZaN,z,A];by_cases M:b.length<a.length
   ·have c:decide ((b.length:Int)<(a.length:Int))=true:=by simp;omega
    have j:b.length-i<a.length-i:=by omega
    simp only[c,go_sem,j,if_true];rfl
   ·have c:decide ((b.length:Int)<(a.length:Int))=false:=by simp;omega
    have j:¬ b.length-i<a.length-i:=by omega
    simp only[c,go_sem,j,if_false,ZaO,Zu0];rfl
 |succ k I =>
  intro i hk hi;rw[TI];have u:i<a.length:=by omega
  have w:i<b.length:=by omega
  have B:decide ((i:Int)<((min a.length b.length:Nat):Int))=true:=by simp;omega
  have hw:xZ.wrap ((i:Int)+1)=((i+1:Nat):Int):=by rw[Zp (by omega) (by omega)];omega
  simp only[go_sem,B,ZaP,hx.ints u,hy.ints w,Zz];rw[zH u,zH w,JP];by_cases C:a[i]<b[i]
  ·simp only[decide_eq_true C,go_sem,if_pos C];rfl
  ·simp only[decide_eq_false C,go_sem,if_neg C,ZaR,hx.ints u,hy.ints w,Zz];by_cases D:b[i]<a[i]
   ·simp only[decide_eq_true D,go_sem,if_pos D];rfl
   ·simp only[decide_eq_false D,go_sem,if_neg D,ZaQ,hw];exact I (i+1) (by omega) (by omega)
end
theorem Zuk (L:Loc):∀ (n:Nat) (s:List UInt8),s.length<=n->(wS L s).length<=s.length:=by
 intro n
 induction n with
 |zero=>intro s h;have:s=[]:=yX.1 (by omega);subst this;simp[wS]
 |succ n g =>
  intro s h
  match s,h with
  |[],_=>simp[wS]
  |[b],_=>simp[wS]
  |b::c::r,h =>
   rw[Zzb];simp only[zL]at h
   cases L.els.find? (Ztj (b::c::r)) with
   |none=>have:=g (c::r) (by simp;omega);simp only[zL]at this ⊢;omega
   |some e=>have:=g r (by omega);simp only[zL];omega
theorem ZiZ (L:Loc):(Yh L).els.length<=64:=by
 unfold Yh
 cases h:(Wk L != 0) with
 |true=>simp[defL]
 |false =>
  simp only[Wk,bne_eq_false_iff_eq]at h
  have:SJ L.els=0:=by
   split at h
   ·split at h
    ·cases h
    ·split at h
     ·cases h
     ·unfold Zbl at h;split at h
      ·rename_i g;simp[h]at g
      ·exact h
   ·cases h
  unfold SJ at this;split at this
  ·cases this
  ·simp;omega
def Dz (L:Loc)(s t:List UInt8):Int:=if (Uo (wS (Yh L) s) (wS (Yh L) t) != 0)=true then Uo (wS (Yh L) s) (wS (Yh L) t) else K3 s t
theorem Zkr {v:AV}{L:Loc}(h:LocAV v L)(hok:LocOk L)(s t:List UInt8)(V:s.length<=1048576)(W:t.length<=1048576)(H:Hp):Zh UF [v,.str s,.str t] H=some (J wA (Dz L s t),H):=by
 obtain⟨K,R,M⟩:=h.close [] 0 5;have X:=fun H=>Zj1 M hok H;obtain⟨x,c,e,rfl,hx,hc,he⟩:=M;obtain⟨v',F,j,g,ev,rfl,I,B,C⟩:=X [zA (L.cells x c e)];have u:LocCells ((Yh L).cells j g ev) (Yh L):=⟨j,g,ev,rfl,I,B,C⟩;obtain⟨w1,Y,N⟩:=ZeK u (ZnE L) (Zj0 L) (by have:=ZiZ L;omega) s V [xE];obtain⟨w2,Z,O⟩:=ZeK u (ZnE L) (Zj0 L) (by have:=ZiZ L;omega) t W [xE];have T:=Zuk (Yh L) s.length s (yS _);have U:=Zuk (Yh L) t.length t (yS _)
 have A:UF [.agg (L.cells x c e),.str s,.str t] []=some (J wA (Dz L s t),[xE]):=by
  rw[Zc1];unfold EZ;have S:Z3 true 6 (.ptr 0 0) [zA (L.cells x c e)]=some (.agg (L.cells x c e)):=by simp[Z3,Go.Am.apart,Loc.cells]
  have E:Za 6 (.ptr 0 0) (.agg ((Yh L).cells j g ev)) [zA (L.cells x c e)]=some (.tuple [],[zA ((Yh L).cells j g ev)]):=by simp[Za,YX,yF,zV,Loc.cells,splice]
  have D:∀ k:AV->Hp->Z4,Qd (.ptr 0 0) [zA ((Yh L).cells j g ev)] k=k (.vp ((Yh L).cells j g ev)) [xE]:=fun k=>rfl;have K:Zk (.slice 3) w1=some (J wA (wS (Yh L) s).length):=by have:=N.len 3;rwa [zP]at this
  have Q:Zk (.slice 3) w2=some (J wA (wS (Yh L) t).length):=by have:=O.len 3;rwa [zP]at this
  have z:VN (J wA ((wS (Yh L) s).length:Int)) (J wA ((wS (Yh L) t).length:Int))=some (J wA ((min (wS (Yh L) s).length (wS (Yh L) t).length:Nat):Int)):=by
   unfold VN;simp only[if_true];congr 2;split <;> omega
  have w:=ZtD N O (by omega) (by omega) s t [] [xE] _ 0 rfl (xC _);rw[show ((0:Nat):Int)=0 from rfl,zQ,zQ]at w;simp only[go_sem,zJ,zI,S,F,E,D,Zd4,Zds,zM,Y,Z,K,Q,z,w];rfl
 exact U2 (args':=[.agg (L.cells x c e),.str s,.str t]) (by simp[R];rfl) A rfl
def ZzL (s:List UInt8):List Int:=s.map fun c=>(c.toNat:Int)
theorem ZmH {s done r:List UInt8}{b:UInt8}(h:s=done++b::r):Zx (.str s) (J wA (done.length:Int))=some (.int .u8 b.toNat) :=
 ZW (by rw[h,zZ (yS _)];simp)
def isD (b:UInt8):Bool:=decide (48<=(b.toNat:Int))&&decide ((b.toNat:Int)<=57)
def Zt (l:List UInt8):Nat:=(l.takeWhile isD).length
theorem Zu2:Zt []=0:=rfl
theorem ZiR (b:UInt8)(l:List UInt8):Zt (b::l)=if isD b then Zt l+1 else 0:=by
 unfold Zt;rw[List.takeWhile_cons];split <;> simp_all
theorem Znn (l:List UInt8):Zt l<=l.length:=by
 induction l with
 |nil=>simp[Zt]
 |cons b l g=>rw[ZiR];split <;> simp <;> omega
theorem Zoa {s:List UInt8}(C:s.length<=1048576)(w H:Hp):∀ (k p:Nat),s.length-p=k->p<=s.length ->
 Je (.str s) (J wA (p:Int)) w H=some (J wA ((p+Zt (s.drop p):Nat):Int),H):=by
 intro k
 induction k with
 |zero =>
  intro p hk A;rw[Tw];have g:decide ((p:Int)<(s.length:Int))=false:=by simp;omega
  have z:s.drop p=[]:=zG.2 (by omega);simp only[go_sem,g,z,Zu2,xK,K4]
 |succ k B =>
  intro p hk A;rw[Tw];have g:decide ((p:Int)<(s.length:Int))=true:=by simp;omega
  have h:p<s.length:=by omega
  have hw:xZ.wrap ((p:Int)+1)=((p+1:Nat):Int):=by rw[Zp (by omega) (by omega)];omega
  simp only[go_sem,g,ZW (zC h)];rw[Qy h,ZiR]
  cases j:decide (48<=((s[p].toNat:Int))) with
  |false=>simp only[isD,j,go_sem,yH,zD,if_false,xK,K4]
  |true =>
   cases u:decide (((s[p].toNat:Int))<=57) with
   |false=>simp only[isD,j,u,go_sem,ZW (zC h),Bool.and_false,zD,if_false,xK,K4]
   |true =>
    simp only[isD,j,u,go_sem,ZW (zC h),xR,if_true,Zaq,hw];rw[B (p+1) (by omega) (by omega),show p+1+Zt (s.drop (p+1))=p+(Zt (s.drop (p+1))+1) by omega]
theorem ZfX (s:List UInt8)(g:s.length<=1048576)(H:Hp):Zh JW [.str s] H=some (J wA (Zt s:Int),H):=by
 refine XP (a':=.str s) (H1:=[]) rfl ?_ rfl;rw[Zc0];have:=Zoa g [] [] s.length 0 rfl (by omega);rw[show ((0:Nat):Int)=0 from rfl,zQ,zF]at this;exact this
def dg (b:UInt8):Int:=IntKind.u8.wrap ((b.toNat:Int)-48)
theorem WC (b:UInt8):0<=dg b/\dg b<=255:=by
 unfold dg;have h:=b.toNat_lt;show 0<=((b.toNat:Int)-48) % 256/\((b.toNat:Int)-48) % 256<=255;omega
theorem ZwW (b:UInt8):Yq .i64 (.int .u8 (IntKind.u8.wrap ((b.toNat:Int)-48)))=some (J wA (dg b)):=by
 have:=WC b;show some (zN .i64 (xZ.wrap (dg b)))=_;rw[Zp (by omega) (by omega)]
def fr:Nat->List UInt8->Int->Int
 |0,_,d=>d
 |k+1,[],d=>fr k [] (d*10)
 |k+1,b::l,d=>fr k l (d*10+dg b)
theorem ZyK (k:Nat)(d:Int):fr (k+1) [] d=fr k [] (d*10):=(Eq.refl _).trans (Eq.refl _)
theorem ZxH (k:Nat)(b:UInt8)(l:List UInt8)(d:Int):fr (k+1) (b::l) d=fr k l (d*10+dg b):=(Eq.refl _).trans (Eq.refl _)
theorem ZsT (s:List UInt8)(Q:s.length<=1048576)(F H:Hp):∀ (k i:Nat) (d p:Int),i+k=4->0<=d->d+1000<=2000000000*p->p*10 ^ k<=10000 ->
 UZ (.str s) (J wA d) (J wA (i:Int)) F H=some (J wA (fr k (s.drop i) d),H):=by
 intro k
 induction k with
 |zero =>
  intro i d p A I K D;rw[F5];have h:decide ((i:Int)<4)=false:=by simp;omega
  simp only[go_sem,h,Ih,fr]
 |succ k E =>
  intro i d p A I K D;rw[F5];have h:decide ((i:Int)<4)=true:=by simp;omega
  have w:xZ.wrap ((i:Int)+1)=((i+1:Nat):Int):=by rw[Zp (by omega) (by omega)];omega
  have j:p*10*10 ^ k<=10000:=by rw[Int.mul_assoc,show (10:Int)*10 ^ k=10 ^ (k+1) by rw[Int.pow_succ,Int.mul_comm]];exact D
  have B:(1:Int)<=10 ^ k:=Int.add_one_le_iff.2 (Int.pow_pos (by decide))
  have O:p*10<=10000:=by
   by_cases N:0<=p
   ·have:=Int.mul_le_mul_of_nonneg_left B (show 0<=p*10 by omega);omega
   ·omega
  have C:xZ.wrap (d*10)=d*10:=Zp (by omega) (by omega);simp only[go_sem,h,Ii,C,YK];by_cases hi:i<s.length
  ·have hb:=WC s[i];have g:decide ((i:Int)<(s.length:Int))=true:=by simp;omega
   have u:xZ.wrap (d*10+dg s[i])=d*10+dg s[i]:=Zp (by omega) (by omega);simp only[g,go_sem,ZW (zC hi),ZwW,u,F4,w];rw[E (i+1) _ (p*10) (by omega) (by omega) (by omega) j,Qy hi,ZxH]
  ·have g:decide ((i:Int)<(s.length:Int))=false:=by simp;omega
   have M:s.drop i=[]:=zG.2 (by omega);have z:s.drop (i+1)=[]:=zG.2 (by omega);simp only[g,go_sem,F4,w];rw[E (i+1) _ (p*10) (by omega) (by omega) (by omega) j,M,z,ZyK]
theorem ZsS (s:List UInt8)(g:s.length<=1048576)(H:Hp):Zh GO [.str s] H=some (J wA (fr 4 s 0),H):=by
 refine XP (a':=.str s) (H1:=[]) rfl ?_ rfl;rw[IJ];have:=ZsT s g [] [] 4 0 0 1 rfl (by omega) (by omega) (by decide);rw[show ((0:Nat):Int)=0 from rfl,zQ]at this;exact this
def ZeJ:List UInt8->Int->Option Int
 |[],d=>some d
 |b::l,d=>if 1000000000<d*10+dg b then none else ZeJ l (d*10+dg b)
theorem ZkT (b:UInt8)(l:List UInt8)(d:Int):ZeJ (b::l) d=if 1000000000<d*10+dg b then none else ZeJ l (d*10+dg b):=(Eq.refl _).trans (Eq.refl _)
theorem Zkj (l:List UInt8):0<=fr 4 l 0/\fr 4 l 0<=1000000:=by
 match l with
 |[]=>simp[fr]
 |[a]=>have:=WC a;simp[fr];omega
 |[a,b]=>have:=WC a;have:=WC b;simp[fr];omega
 |[a,b,c]=>have:=WC a;have:=WC b;have:=WC c;simp[fr];omega
 |a::b::c::d::l=>have:=WC a;have:=WC b;have:=WC c;have:=WC d;simp[fr];omega
def ZqY (w f:List UInt8):Option Int:=match ZeJ w 0 with
 |none=>none
 |some d=>some (d*10000+fr 4 f 0)
def Nw (w f:List UInt8):Int:=match ZqY w f with
 |none=>10000000000001
 |some n=>min 10000000000001 n
theorem ZrE (s f:List UInt8)(I:s.length<=1048576)(D:f.length<=1048576)(A H:Hp):∀ (r done:List UInt8) (d:Int),s=done++r->0<=d->d<=1000000000 ->
 K6 (.str s) (.str f) (J wA d) (J wA (s.length:Int)) (J wA (done.length:Int)) A H=some (J wA (match ZeJ r d with
  |none=>10000000000001
  |some n=>min 10000000000001 (n*10000+fr 4 f 0)),H):=by
 intro r
 induction r with
 |nil =>
  intro done d u B C;rw[yA]at u;subst u;rw[Pn];have g:decide ((s.length:Int)<(s.length:Int))=false:=by simp
  have E:=Zkj f;have h:xZ.wrap (d*10000)=d*10000:=Zp (by omega) (by omega);have j:xZ.wrap (d*10000+fr 4 f 0)=d*10000+fr 4 f 0:=Zp (by omega) (by omega);simp only[go_sem,g,Zc9,h,ZsS f D,j,ZeJ]
 |cons b r F =>
  intro done d u B C;have hlen:s.length=done.length+(r.length+1):=by rw[u];simp
  have g:decide ((done.length:Int)<(s.length:Int))=true:=by simp;omega
  have z:xZ.wrap ((done.length:Int)+1)=((done.length+1:Nat):Int):=by rw[Zp (by omega) (by omega)];omega
  have hb:=WC b;have h:xZ.wrap (10*d)=d*10:=by rw[Zp (by omega) (by omega)];omega
  have j:xZ.wrap (d*10+dg b)=d*10+dg b:=Zp (by omega) (by omega);rw[Pn,ZkT];simp only[go_sem,g,Zca,h,ZmH u,ZwW,j];by_cases w:1000000000<d*10+dg b
  ·simp only[decide_eq_true w,go_sem,if_pos w]
  ·have:=F (done++[b]) (d*10+dg b) (by rw[u];simp) (by omega) (by omega);rw[zY,zX]at this;simp only[decide_eq_false w,go_sem,if_neg w,Zcb,z,this]
theorem ZrD (s f:List UInt8)(h:s.length<=1048576)(g:f.length<=1048576)(H:Hp):Zh RQ [.str s,.str f] H=some (J wA (Nw s f),H):=by
 refine FP (a':=.str s) (b':=.str f) (H1:=[]) rfl rfl ?_ rfl;rw[ZcP];unfold HD;have:=ZrE s f h g [] [] s [] 0 rfl (by omega) (by omega);rw[zJ,show ((0:Nat):Int)=0 from rfl]at this;simp only[go_sem,this];unfold Nw ZqY;cases ZeJ s 0 <;> rfl
def ZaE (neg:Bool)(n:Nat)(w f:List UInt8):Int :=
 if n=0/\f=[] then 0 else if neg then -(min 10000000000000 (Nw w f)) else min 10000000000000 (Nw w f)
def Iv (neg:Bool)(r:List UInt8):Int :=
 match r.drop (Zt r) with
 |[]=>ZaE neg (Zt r) (r.take (Zt r)) []
 |b::q=>if (((b.toNat:Int)==46)&&(decide (0<Zt r) || decide (0<Zt q)))=true then ZaE neg (Zt r) (r.take (Zt r)) (q.take (Zt q)) else ZaE neg (Zt r) (r.take (Zt r)) []
theorem Zwg {neg:Bool}{r:List UInt8}(h:r.drop (Zt r)=[]):Iv neg r=ZaE neg (Zt r) (r.take (Zt r)) []:=by unfold Iv;rw[h]
theorem ZtH {neg:Bool}{r:List UInt8}{b:UInt8}{q:List UInt8}(h:r.drop (Zt r)=b::q):Iv neg r=if (((b.toNat:Int)==46)&&(decide (0<Zt r) || decide (0<Zt q)))=true then ZaE neg (Zt r) (r.take (Zt r)) (q.take (Zt q)) else ZaE neg (Zt r) (r.take (Zt r)) []:=by unfold Iv;rw[h]
theorem ZrA:∀ (l:List UInt8) (d n:Int),0<=d->d<=1000000000->ZeJ l d=some n->0<=n/\n<=1000000000:=by
 intro l
 induction l with
 |nil=>intro d n g j h;injection h with h;subst h;exact⟨g,j⟩
 |cons b l u =>
  intro d n g j h;rw[ZkT]at h;have:=WC b;split at h
  ·cases h
  ·exact u _ n (by omega) (by omega) h
theorem ZqZ {w f:List UInt8}{n:Int}(h:ZqY w f=some n):0<=n/\n<=10000001000000:=by
 unfold ZqY at h;split at h
 ·cases h
 ·rename_i d g;injection h with h;have:=ZrA w 0 d (by omega) (by omega) g;have:=Zkj f;omega
theorem Zrz (w f:List UInt8):0<=Nw w f/\Nw w f<=10000000000001:=by
 unfold Nw;split
 ·omega
 ·rename_i n h;have:=ZqZ h;omega
theorem Zzd (x y:AV):ZL (.tuple [x,y]) 0=some x:=rfl
theorem Zze (x y:AV):ZL (.tuple [x,y]) 1=some y:=rfl
theorem Zp1 (n:Int):XL .neg (J wA n)=some (J wA (xZ.wrap (0-n))):=(Eq.refl _).trans (Eq.refl _)
theorem ZiH (neg:Bool)(n:Nat)(w f:List UInt8)(hw:w.length<=1048576)(C:f.length<=1048576)(e:Int)(u H:Hp) :
 ∃ A,WQ (.bool neg) (J wA (n:Int)) (.str w) (.str f) (J wA e) u H=some (.tuple [J wA (ZaE neg n w f),J wA A],H):=by
 have D:=Zrz w f
 have h:VN (J wA 10000000000000) (J wA (Nw w f))=some (J wA (min 10000000000000 (Nw w f))):=by
  unfold VN;simp only[if_true];congr 2;split <;> omega
 have j:xZ.wrap (0-min 10000000000000 (Nw w f))=-(min 10000000000000 (Nw w f)):=by rw[Zp (by omega) (by omega)];omega
 have g:DB (.bool neg) (.str w) (.str f) (J wA e) u H=some (.tuple [J wA (if neg then -(min 10000000000000 (Nw w f)) else min 10000000000000 (Nw w f)),J wA e],H):=by
  rw[Zap];simp only[go_sem,ZrD w f hw C,h]
  cases neg with
  |true=>simp only[go_sem,Zp1,j,Tt,if_true]
  |false=>simp only[go_sem,Tt,zD,if_false]
 have z:YR .eql (.str f) (.str [])=some (.bool (f==[])):=rfl;rw[Zao];unfold ZaE
 cases n with
 |zero =>
  cases f with
  |nil=>exact⟨0,by simp[go_sem,YR];rfl⟩
  |cons b f =>
   have z:YR .eql (.str (b::f)) (.str [])=some (.bool false):=rfl;refine⟨e,?_⟩;simp[go_sem,z,g]
 |succ n =>
  refine⟨e,?_⟩
  have B:(((n+1:Nat):Int)==0)=false:=by
   rw[beq_eq_false_iff_ne];omega
  simp only[go_sem,B,g];simp
theorem Zno {s:List UInt8}{i:Nat}(h:i<=s.length):Y8 (.str s) (some (J wA (i:Int))) none none=some (.str (s.drop i)):=by
 rw[Ea .i64 (by omega) (by omega)];simp
theorem ZiG (s:List UInt8)(X:s.length<=1048576)(neg:Bool){i:Nat}(hi:i<=s.length)(K H:Hp) :
 ∃ e,Jc (.str s) (J wA (i:Int)) (.bool neg) K H=some (.tuple [J wA (Iv neg (s.drop i)),J wA e],H):=by
 have W:(s.drop i).length=s.length-i:=yL;have hn:=Znn (s.drop i);have S:xZ.wrap ((i:Int)+(Zt (s.drop i):Int))=((i+Zt (s.drop i):Nat):Int):=by rw[Zp (by omega) (by omega)];omega
 have R:(s.take (i+Zt (s.drop i))).drop i=(s.drop i).take (Zt (s.drop i)):=by rw[xQ];congr 1;omega
 rw[Zan];simp only[go_sem,Zno hi,ZfX _ (show (s.drop i).length<=1048576 by omega),S,R6 (show i<=i+Zt (s.drop i) by omega) (show i+Zt (s.drop i)<=s.length by omega),R,YK];have w:((s.drop i).take (Zt (s.drop i))).length<=1048576:=by rw[yW];omega
 by_cases N:i+Zt (s.drop i)<s.length
 ·have O:decide (((i+Zt (s.drop i):Nat):Int)<(s.length:Int))=true:=by simp;omega
  have Q:(s.drop i).drop (Zt (s.drop i))=s[i+Zt (s.drop i)]::s.drop (i+Zt (s.drop i)+1):=by
   rw[List.drop_drop,Qy N]
  have j:xZ.wrap (((i+Zt (s.drop i):Nat):Int)+1)=((i+Zt (s.drop i)+1:Nat):Int):=by rw[Zp (by omega) (by omega)];omega
  have V:(s.drop (i+Zt (s.drop i)+1)).length=s.length-(i+Zt (s.drop i)+1):=yL;have hk:=Znn (s.drop (i+Zt (s.drop i)+1));rw[ZtH Q];simp only[O,go_sem,ZW (zC N)]
  cases T:((s[i+Zt (s.drop i)].toNat:Int)==46) with
  |false =>
   simp only[go_sem,yH,zD,if_false];exact ZiH neg _ _ _ w (by simp) _ K H
  |true =>
   have A:xZ.wrap (((i+Zt (s.drop i)+1:Nat):Int)+(Zt (s.drop (i+Zt (s.drop i)+1)):Int))=((i+Zt (s.drop i)+1+Zt (s.drop (i+Zt (s.drop i)+1)):Nat):Int):=by rw[Zp (by omega) (by omega)];omega
   have B:xZ.wrap ((1:Int)+(Zt (s.drop (i+Zt (s.drop i)+1)):Int))=((1+Zt (s.drop (i+Zt (s.drop i)+1)):Nat):Int):=by rw[Zp (by omega) (by omega)];omega
   have z:(s.take (i+Zt (s.drop i)+1+Zt (s.drop (i+Zt (s.drop i)+1)))).drop (i+Zt (s.drop i)+1)=(s.drop (i+Zt (s.drop i)+1)).take (Zt (s.drop (i+Zt (s.drop i)+1))):=by rw[xQ];congr 1;omega
   have hfl:((s.drop (i+Zt (s.drop i)+1)).take (Zt (s.drop (i+Zt (s.drop i)+1)))).length<=1048576:=by rw[yW];omega
   have h:∀ n:Nat,decide ((0:Int)<(n:Int))=decide (0<n):=fun n=>by simp
   simp only[go_sem,j,Zno (show i+Zt (s.drop i)+1<=s.length by omega),ZfX _ (show (s.drop (i+Zt (s.drop i)+1)).length<=1048576 by omega),h,zW]
   have g:∃ e,(Z0 (Z5 .add (J wA ((i+Zt (s.drop i):Nat):Int)) (J wA 1)) fun C =>
    Z0 (Z5 .add (J wA ((i+Zt (s.drop i):Nat):Int)) (J wA 1)) fun D =>
    Z0 (Z5 .add D (J wA (Zt (s.drop (i+Zt (s.drop i)+1)):Int))) fun E =>
    Z0 (Y8 (.str s) (some C) (some E) none) fun F =>
    Z0 (Z5 .add (J wA 1) (J wA (Zt (s.drop (i+Zt (s.drop i)+1)):Int))) fun I =>
    Z0 (Z5 .add (J wA ((i+Zt (s.drop i):Nat):Int)) I) fun u =>
    WQ (.bool neg) (J wA (Zt (s.drop i):Int)) (.str ((s.drop i).take (Zt (s.drop i)))) F u K H)=some (.tuple [J wA (ZaE neg (Zt (s.drop i)) ((s.drop i).take (Zt (s.drop i))) ((s.drop (i+Zt (s.drop i)+1)).take (Zt (s.drop (i+Zt (s.drop i)+1))))),J wA e],H):=by
    simp only[go_sem,j,A,B,R6 (show i+Zt (s.drop i)+1<=i+Zt (s.drop i)+1+Zt (s.drop (i+Zt (s.drop i)+1)) by omega) (show i+Zt (s.drop i)+1+Zt (s.drop (i+Zt (s.drop i)+1))<=s.length by omega),z];exact ZiH neg _ _ _ w hfl _ K H
   simp only[go_sem,j,A,B,R6 (show i+Zt (s.drop i)+1<=i+Zt (s.drop i)+1+Zt (s.drop (i+Zt (s.drop i)+1)) by omega) (show i+Zt (s.drop i)+1+Zt (s.drop (i+Zt (s.drop i)+1))<=s.length by omega),z]at g
   cases U:decide (0<Zt (s.drop i)) with
   |true =>
    simp only[go_sem,zO,if_true,j,A,B,R6 (show i+Zt (s.drop i)+1<=i+Zt (s.drop i)+1+Zt (s.drop (i+Zt (s.drop i)+1)) by omega) (show i+Zt (s.drop i)+1+Zt (s.drop (i+Zt (s.drop i)+1))<=s.length by omega),z];exact g
   |false =>
    cases M:decide (0<Zt (s.drop (i+Zt (s.drop i)+1))) with
    |true =>
     simp only[go_sem,h,M,yY,if_true,j,A,B,R6 (show i+Zt (s.drop i)+1<=i+Zt (s.drop i)+1+Zt (s.drop (i+Zt (s.drop i)+1)) by omega) (show i+Zt (s.drop i)+1+Zt (s.drop (i+Zt (s.drop i)+1))<=s.length by omega),z];exact g
    |false =>
     simp only[go_sem,h,M,xI,zD,if_false];exact ZiH neg _ _ _ w (by simp) _ K H
 ·have O:decide (((i+Zt (s.drop i):Nat):Int)<(s.length:Int))=false:=by simp;omega
  have Q:(s.drop i).drop (Zt (s.drop i))=[]:=zG.2 (by omega);rw[Zwg Q];simp only[O,go_sem];exact ZiH neg _ _ _ w (by simp) _ K H
def Zr8:List UInt8->Int
 |[]=>Iv false []
 |b::r=>if (((b.toNat:Int)==45) || ((b.toNat:Int)==43))=true then Iv ((b.toNat:Int)==45) r else Iv ((b.toNat:Int)==45) (b::r)
theorem ZtG (b:UInt8)(r:List UInt8):Zr8 (b::r)=if (((b.toNat:Int)==45) || ((b.toNat:Int)==43))=true then Iv ((b.toNat:Int)==45) r else Iv ((b.toNat:Int)==45) (b::r):=(Eq.refl _).trans (Eq.refl _)
def Zr9 (s:List UInt8):Int:=Zr8 (s.drop (YA s))
theorem ZtI (s:List UInt8)(z:s.length<=1048576){i:Nat}(hi:i<=s.length)(u H:Hp) :
 ∃ e,DA (.str s) (J wA (i:Int)) u H=some (.tuple [J wA (Zr8 (s.drop i)),J wA e],H):=by
 rw[Zam];by_cases h:i<s.length
 ·have j:decide ((i:Int)<(s.length:Int))=true:=by simp;omega
  have w:xZ.wrap ((i:Int)+1)=((i+1:Nat):Int):=by rw[Zp (by omega) (by omega)];omega
  have g:=ZW (zC h);rw[Qy h];simp only[YK,go_sem,j,g,ZtG]
  cases C:((s[i].toNat:Int)==45) with
  |true =>
   simp only[go_sem,j,g,w,zO,if_true];exact ZiG s z true (by omega) u H
  |false =>
   simp only[go_sem,YK,j,g]
   cases B:((s[i].toNat:Int)==43) with
   |true =>
    simp only[go_sem,j,g,w,yY,if_true];exact ZiG s z false (by omega) u H
   |false =>
    simp only[go_sem,xI,Bool.or_self,zD,if_false];rw[<-Qy h];exact ZiG s z false (by omega) u H
 ·have j:decide ((i:Int)<(s.length:Int))=false:=by simp;omega
  have A:s.drop i=[]:=zG.2 (by omega);simp only[YK,go_sem,j,A];have:=ZiG s z false hi u H;rw[A]at this;exact this
theorem ZyY (s:List UInt8)(F:s.length<=1048576)(C H:Hp):∀ (k i:Nat),s.length-i=k->i<=s.length ->
 ∃ e,Jd (.str s) (J wA (i:Int)) C H=some (.tuple [J wA (Zr8 ((s.drop i).drop (YA (s.drop i)))),J wA e],H):=by
 intro k
 induction k with
 |zero =>
  intro i hk hi;have u:decide ((i:Int)<(s.length:Int))=false:=by simp;omega
  have I:s.drop i=[]:=zG.2 (by omega);rw[Tv];simp only[YK,go_sem,u];have:=ZtI s F hi C H;rw[I]at this ⊢;exact this
 |succ k K =>
  intro i hk hi;have D:i<s.length:=by omega
  have u:decide ((i:Int)<(s.length:Int))=true:=by simp;omega
  have A:xZ.wrap ((i:Int)+1)=((i+1:Nat):Int):=by rw[Zp (by omega) (by omega)];omega
  have z:=ZW (zC D);have B:=K (i+1) (by omega) (by omega)
  have g:Xs s[i]=true->(s.drop i).drop (YA (s.drop i))=(s.drop (i+1)).drop (YA (s.drop (i+1))):=fun h=>by
   rw[Qy D,Up,h,if_pos rfl,List.drop_succ_cons]
  have w:Xs s[i]=false->(s.drop i).drop (YA (s.drop i))=s.drop i:=fun h=>by
   rw[Qy D,Up,h];simp
  have hb:Xs s[i]=(((s[i].toNat:Int)==32) || ((s[i].toNat:Int)==9)):=by
   rw[Xs,(HW s[i]).1,(HW s[i]).2]
  rw[Tv];simp only[YK,go_sem,u,z]
  cases j:((s[i].toNat:Int)==32) with
  |true =>
   simp only[go_sem,Tu,A];rw[g (by rw[hb,j];rfl)];exact B
  |false =>
   simp only[go_sem,z]
   cases E:((s[i].toNat:Int)==9) with
   |true =>
    simp only[go_sem,Tu,A];rw[g (by rw[hb,j,E];rfl)];exact B
   |false =>
    simp only[go_sem];rw[w (by rw[hb,j,E];rfl)];exact ZtI s F hi C H
theorem Zn2 (s:List UInt8)(g:s.length<=1048576)(H:Hp):∃ e,Zh JV [.str s] H=some (.tuple [J wA (Zr9 s),J wA e],H):=by
 obtain⟨e,h⟩:=ZyY s g [] [] _ 0 rfl (xC _);rw[show ((0:Nat):Int)=0 from rfl,zQ]at h;refine⟨e,XP (a':=.str s) (H1:=[]) rfl ?_ rfl⟩;rw[ZbZ];exact h
def Iw (a b:Int):Int:=if a<b then -1 else if b<a then 1 else 0
theorem Zu1 (a b:Int)(H:Hp):Zh PV [J wA a,J wA b] H=some (J wA (Iw a b),H):=by
 refine FP (a':=J wA a) (b':=J wA b) (H1:=[]) rfl rfl ?_ rfl;rw[Zfa];unfold IZ Iw;by_cases h:a<b
 ·simp only[go_sem,decide_eq_true h,if_pos h]
 ·by_cases g:b<a
  ·simp only[go_sem,decide_eq_false h,if_neg h,decide_eq_true g,if_pos g]
  ·simp only[go_sem,decide_eq_false h,if_neg h,decide_eq_false g,if_neg g,ZeE]
def ZeQ (b:UInt8):Bool:=Xs b || Ztc b.toNat || NH b.toNat
def FO (s:List UInt8):List UInt8:=s.filter ZeQ
theorem Zst:((yQ 256).all fun n=>(To (Zlu (.bool (Xs (yG n))) (.int .u8 (n:Int)))==some (ZeQ (yG n)))&&(To (ZtO (.bool (Xs (yG n))) (.int .u8 (n:Int)))==some (ZeQ (yG n))))=true:=by kernel_rfl
theorem Zvb (b:UInt8):Zlu (.bool (Xs b)) (.int .u8 b.toNat)=some (.bool (ZeQ b))/\ZtO (.bool (Xs b)) (.int .u8 b.toNat)=some (.bool (ZeQ b)):=by
 have:=WS Zst (Zf0 b);rw[xN,yN,beq_iff_eq,beq_iff_eq]at this;exact⟨QT this.1,QT this.2⟩
theorem ZuR (g:List UInt8)(b:UInt8)(h:g.length<=1048576):byteE.run [.ptr 0 0,.int .u8 b.toNat] [yZ 201 5 g]=some (.nili,[yZ 201 5 (g++[b])]):=by
 have hb:=b.toNat_lt;have u:g.length+1<=ZgW:=by unfold ZgW;omega
 have j:ZhR [.int .u8 b.toNat]=some fun l=>if l.length+1<=ZgW then some (.nili,l++[yG (b.toNat:Int).toNat]) else none:=by
  simp only[ZhR,if_pos (show (0:Int)<=(b.toNat:Int)/\(b.toNat:Int)<256 by omega)]
 simp only[byteE,ZwR,Zjr,Sz,j,zB,ZgD,N1,N3,and_self,if_true,if_pos u,xJ,Int.toNat_natCast,xN]
theorem ZiT (g:List UInt8):stringE.run [.ptr 0 0] [yZ 201 5 g]=some (.str g,[yZ 201 5 g]):=rfl
theorem Zsv (s:List UInt8)(B:s.length<=1048576)(A:Hp):∀ (r done:List UInt8) (g:List UInt8),s=done++r->g.length<=done.length ->
 ∃ H',GH (.str s) (.ptr 0 0) (J wA (s.length:Int)) (J wA (done.length:Int)) A [yZ 201 5 g]=some (.str (g++FO r),H'):=by
 intro r
 induction r with
 |nil =>
  intro done g j ha;rw[yA]at j;subst j;have u:decide ((s.length:Int)<(s.length:Int))=false:=by simp
  refine⟨[yZ 201 5 g],?_⟩;rw[Mx];simp only[go_sem,u,ZeC,ZiT];simp[FO]
 |cons b r z =>
  intro done g j ha;have hlen:s.length=done.length+(r.length+1):=by rw[j];simp
  have u:decide ((done.length:Int)<(s.length:Int))=true:=by simp;omega
  have w:xZ.wrap ((done.length:Int)+1)=((done.length+1:Nat):Int):=by rw[Zp (by omega) (by omega)];omega
  rw[Mx];simp only[go_sem,u,Zbd,ZmH j,Zae,(Zvb b).1]
  cases hb:ZeQ b with
  |true =>
   obtain⟨H',h⟩:=z (done++[b]) (g++[b]) (by rw[j];simp) (by simp;omega);rw[zY,zX]at h;refine⟨H',?_⟩;simp only[go_sem,ZuR g b (by omega),Mw,w,h,FO,xP,hb,if_true,List.append_assoc,List.singleton_append]
  |false =>
   obtain⟨H',h⟩:=z (done++[b]) g (by rw[j];simp) (by simp;omega);rw[zY,zX]at h;refine⟨H',?_⟩;simp only[go_sem,Mw,w,h,FO,xP,hb,zD,if_false]
theorem Zsu (s:List UInt8)(g:s.length<=1048576)(H:Hp):Zh PU [.str s] H=some (.str (FO s),H):=by
 obtain⟨H',h⟩:=Zsv s g [] s [] [] rfl (yS _);rw[zJ,show ((0:Nat):Int)=0 from rfl,zI]at h;refine XP (a':=.str s) (H1:=H') rfl ?_ rfl;rw[Zf9];unfold IY;simp only[go_sem,zJ,zI,h]
theorem N5 (s:List UInt8):(FO s).length<=s.length:=List.length_filter_le _ _
def Xo (s:List UInt8):List UInt8:=s.drop (YA s)
theorem Zas (s:List UInt8):(Xo s).length<=s.length:=by unfold Xo;rw[yL];omega
theorem Zob (b:UInt8)(s:List UInt8):Xo (b::s)=if Xs b then Xo s else b::s:=by
 unfold Xo;rw[Up];split <;> simp
theorem Zru (s:List UInt8):Go.Lib.trimLeftS s [32,9]=Xo s:=by
 unfold Go.Lib.trimLeftS
 induction s with
 |nil=>rfl
 |cons b s g =>
  rw[Zob,List.dropWhile_cons]
  have:([32,9]:List UInt8).contains b=Xs b:=by
   rw[yD,yD,Xs];simp
  rw[this,g]
theorem Zug (s:List UInt8)(H:Hp):Zh Ds [.str s] H=some (.str (Xo s),H):=by
 refine XP (a':=.str s) (H1:=[]) rfl ?_ rfl;rw[Za0];unfold Lm
 have:ZeZ [.str s,.str [32,9]]=some (.str (Xo s)):=by
  unfold ZeZ;dsimp only;rw[if_pos ⟨by decide,by decide⟩,Zru]
 simp only[go_sem,Zbk,this]
theorem Zz8 (L:Loc)(s:List UInt8):(upS L s).length=s.length:=by simp[upS,VE]
theorem ZsQ {l:List AV}{L:Loc}(h:LocCells l L)(hok:LocOk L)(s:List UInt8)(z:s.length<=1048576)(H:Hp):Zh Dt [.str s,.vp l] H=some (.str (upS L s),H):=by
 obtain⟨B,j,x,c,e,rfl,hx,u,w⟩:=h.close [] 0 5;have g:Ze [] 0 9 (.vp l)=some (.vp (L.cells x c e)):=by rw[Qw,j]
 refine FP (a':=.str s) rfl g (H1:=[]) ?_ rfl;rw[Za1];unfold Ln;have A:=Zrw (L:=L) ⟨x,c,e,rfl,hx,u,w⟩ hok s z [];simp only[go_sem,Vz 6 (L.cells x c e) rfl,A.1]
def QM (L:Loc)(n:Nat)(s:List UInt8):List UInt8 :=
 let s1:=if n.testBit 3 then Xo s else s
 let s2:=if n.testBit 4 then FO s1 else s1
 if n.testBit 2 then upS L s2 else s2
theorem ZkK (L:Loc)(n:Nat)(s:List UInt8):(QM L n s).length<=s.length:=by
 have g:=Zas s;have h:=N5 s;have j:=N5 (Xo s);simp only[QM];split <;> split <;> split <;> (try rw[Zz8]) <;> omega
theorem Zh1:∀ a b:List Int,Uo a b=-1\/Uo a b=0\/Uo a b=1:=by
 intro a
 induction a with
 |nil=>intro b;cases b <;> simp[Uo]
 |cons x a g =>
  intro b
  cases b with
  |nil=>simp[Uo]
  |cons y b =>
   rw[JP];split
   ·simp
   ·split
    ·simp
    ·exact g b
theorem Zv1 (a b:List UInt8):K3 a b=-1\/K3 a b=0\/K3 a b=1:=by rw[<-Zm3];exact Zh1 _ _
theorem Zm4 (L:Loc)(a b:List UInt8):Dz L a b=-1\/Dz L a b=0\/Dz L a b=1:=by
 unfold Dz;split
 ·exact Zh1 _ _
 ·exact Zv1 _ _
theorem Znl (a b:Int):Iw a b=-1\/Iw a b=0\/Iw a b=1:=by
 unfold Iw;split
 ·simp
 ·split <;> simp
def Mo (L:Loc)(n:Nat)(x y:List UInt8):Int:=if n.testBit 0 then Iw (Zr9 x) (Zr9 y) else Dz L (QM L n x) (QM L n y)
def QK (L:Loc)(n:Nat)(x y:List UInt8):Int:=if n.testBit 1 then -Mo L n x y else Mo L n x y
theorem Znz {c t:Int}(g:c=-1\/c=0\/c=1)(h:t=1\/t=-1):xZ.wrap (t*c)=if t=-1 then -c else c:=by
 rcases h with rfl|rfl <;> rcases g with rfl|rfl|rfl <;> decide
section
variable {n:Nat}(hn:n<32)
include hn
theorem Zys:Z5 .and (J wA n) (J wA 1)=some (J wA (if n.testBit 0 then 1 else 0)):=Zdy (j:=0) hn (by decide)
theorem ZuE:Z5 .and (J wA n) (J wA 2)=some (J wA (if n.testBit 1 then 2 else 0)):=Zdy (j:=1) hn (by decide)
theorem ZzF:Z5 .and (J wA n) (J wA 4)=some (J wA (if n.testBit 2 then 4 else 0)):=Zdy (j:=2) hn (by decide)
theorem ZzG:Z5 .and (J wA n) (J wA 8)=some (J wA (if n.testBit 3 then 8 else 0)):=Zdy (j:=3) hn (by decide)
theorem Zzg:Z5 .and (J wA n) (J wA 16)=some (J wA (if n.testBit 4 then 16 else 0)):=Zdy (j:=4) hn (by decide)
end
theorem Zid {f:List AV->Hp->Z4}{a a' b b' c c' d d' v:AV}{H H1:Hp}(ha:Ze [] 0 9 a=some a')(hb:Ze [] 0 9 b=some b')(h:Ze [] 0 9 c=some c')(j:Ze [] 0 9 d=some d')(g:f [a',b',c',d'] []=some (v,H1))(u:FQ 3 v=true):Zh f [a,b,c,d] H=some (v,H) :=
 U2 (args':=[a',b',c',d']) (by simp[ha,hb,h,j]) g u
theorem ZmQ (L:Loc)(x c e:AV)(r:List AObj):Z3 true 6 (.ptr 0 0) (zA (L.cells x c e)::r)=some (.agg (L.cells x c e)):=by simp[Z3,Go.Am.apart,Loc.cells]
theorem ZxV {c:Int}(g:c=-1\/c=0\/c=1):xZ.wrap (0-c)=-c:=by rcases g with rfl|rfl|rfl <;> decide
def B9 (z:AObj)(n:Nat)(x y:List UInt8):Hp:=[z,.cells [J wA n],.cells [.str x],.cells [.str y]]
theorem Ia {z:AObj}{n:Nat}{x y:List UInt8}{fnv:AV}{g:List UInt8->List UInt8}{m:Int}{h:Bool}(j:Z5 .and (J wA n) (J wA m)=some (J wA (if h then m else 0)))(hm:(m != 0)=true)
 (u:∀ s:List UInt8,(s=x\/s=y)->∀ H,XA cfg (Zb cfg) fnv [.str s] H=some (.str (g s),H)) :
 Dr [J wA m,fnv,.ptr 1 0,.ptr 2 0,.ptr 3 0] (B9 z n x y)=some (.tuple [],B9 z n (if h then g x else x) (if h then g y else y)):=by
 have w:Z3 false 1 (.ptr 1 0) (B9 z n x y)=some (J wA n):=Y2 (l:=[J wA n]) rfl;have A:Z3 false 1 (.ptr 2 0) (B9 z n x y)=some (.str x):=Y2 (l:=[.str x]) rfl;have B:Z3 false 1 (.ptr 3 0) (B9 z n x y)=some (.str y):=Y2 (l:=[.str y]) rfl;have C:Za 1 (.ptr 2 0) (.str (g x)) (B9 z n x y)=some (.tuple [],B9 z n (g x) y):=by simp[Za,YX,B9,yF,zV,splice]
 have D:Za 1 (.ptr 3 0) (.str (g y)) (B9 z n (g x) y)=some (.tuple [],B9 z n (g x) (g y)):=by simp[Za,YX,B9,yF,zV,splice]
 rw[OZ];unfold Ll
 cases h with
 |true=>simp only[go_sem,w,j,if_true,hm,A,u x (.inl rfl),B,u y (.inr rfl),C,D]
 |false=>simp only[go_sem,w,j,zD,if_false,bne_self_eq_false]
theorem ZiE {a:AV}{L:Loc}(h:LocAV a L)(hok:LocOk L){n:Nat}(hn:n<32)(s t:List UInt8)(I:s.length<=1048576)(ht:t.length<=1048576)(H:Hp):Zh Qq [a,J wA n,.str s,.str t] H=some (J wA (QK L n s t),H):=by
 obtain⟨a1,X,T⟩:=h.close [] 0 5;have C:=T;obtain⟨x,c,e,rfl,hx,Y,Z⟩:=T;have E:LocCells (L.cells x c e) L:=⟨x,c,e,rfl,hx,Y,Z⟩
 suffices I:∃ H1,Qq [.agg (L.cells x c e),J wA n,.str s,.str t] []=some (J wA (QK L n s t),H1) by
  obtain⟨H1,w⟩:=I;exact Zid X (b':=J wA n) (c':=.str s) (d':=.str t) rfl rfl rfl w rfl
 have B:∀ z x y,Z3 false 1 (.ptr 1 0) (B9 z n x y)=some (J wA n):=fun z x y=>Y2 (l:=[J wA n]) rfl;have U:∀ z x y,Z3 false 1 (.ptr 2 0) (B9 z n x y)=some (.str x):=fun z x y=>Y2 (l:=[.str x]) rfl;have V:∀ z x y,Z3 false 1 (.ptr 3 0) (B9 z n x y)=some (.str y):=fun z x y=>Y2 (l:=[.str y]) rfl
 have D:∀ (z:Int) (j:z=1\/z=-1),∃ H1,Rg (.ptr 0 0) (.ptr 1 0) (.ptr 2 0) (.ptr 3 0) (J wA z) [] (B9 (.cells (L.cells x c e)) n s t)=some (J wA (if z=-1 then -Dz L (QM L n s) (QM L n t) else Dz L (QM L n s) (QM L n t)),H1):=fun z j=>by
  have R:=Ia (z:=.cells (L.cells x c e)) (n:=n) (x:=s) (y:=t) (fnv:=.fn (.func 115) [] []) (g:=Xo) (m:=8) (ZzG hn) rfl (fun r _ H=>by rw[Zfb];exact Zug r H);have d1:=Zas s;have d2:=Zas t
  have S:=Ia (z:=.cells (L.cells x c e)) (n:=n) (x:=if n.testBit 3 then Xo s else s) (y:=if n.testBit 3 then Xo t else t) (fnv:=.fn (.func 117) [] []) (g:=FO) (m:=16) (Zzg hn) rfl (fun r w H=>by
   rw[Zjl];refine Zsu r ?_ H;rcases w with rfl|rfl <;> split <;> omega)
  have W:=Ia (z:=.dead) (n:=n) (x:=if n.testBit 4 then FO (if n.testBit 3 then Xo s else s) else (if n.testBit 3 then Xo s else s)) (y:=if n.testBit 4 then FO (if n.testBit 3 then Xo t else t) else (if n.testBit 3 then Xo t else t)) (fnv:=.fn (.func 118) [] [.vp (L.cells x c e)]) (g:=upS L) (m:=4) (ZzF hn) rfl (fun r w H=>by
   rw[Zfc];refine ZsQ E hok r ?_ H;have:=N5 s;have:=N5 t;have:=N5 (Xo s);have:=N5 (Xo t);rcases w with rfl|rfl <;> split <;> split <;> omega)
  have aa:=ZkK L n s;have ab:=ZkK L n t;have F:∀ (M N:List UInt8) (k:AV->Hp->Z4),Qd (.ptr 0 0) (B9 (.cells (L.cells x c e)) n M N) k=k (.vp (L.cells x c e)) (B9 .dead n M N):=fun M N k=>rfl;refine⟨B9 .dead n (QM L n s) (QM L n t),?_⟩;rw[ZcF];simp only[go_sem,Zfm,zI,zM,R,S,F,W,Vz 6 (L.cells x c e) rfl,U,V];have K:∀ r,(if n.testBit 2=true then upS L (if n.testBit 4=true then FO (if n.testBit 3=true then Xo r else r) else if n.testBit 3=true then Xo r else r) else if n.testBit 4=true then FO (if n.testBit 3=true then Xo r else r) else if n.testBit 3=true then Xo r else r)=QM L n r:=fun r=>rfl;simp only[K,Zkr C hok (QM L n s) (QM L n t) (by omega) (by omega),go_sem,Znz (Zm4 _ _ _) j]
 have u:∀ (z:Int) (j:z=1\/z=-1),∃ H1,KC (.ptr 0 0) (.ptr 1 0) (.ptr 2 0) (.ptr 3 0) (J wA z) [] (B9 (.cells (L.cells x c e)) n s t)=some (J wA (if z=-1 then -Mo L n s t else Mo L n s t),H1):=fun z j=>by
  rw[ZcE];unfold Mo
  cases hb:n.testBit 0 with
  |true =>
   obtain⟨R,p1⟩:=Zn2 s I (B9 (.cells (L.cells x c e)) n s t);obtain⟨S,p2⟩:=Zn2 t ht (B9 (.cells (L.cells x c e)) n s t);refine⟨B9 (.cells (L.cells x c e)) n s t,?_⟩;simp only[go_sem,B,Zys hn,hb,if_true,show ((1:Int) != 0)=true from rfl,U,V,p1,p2,Zzd,Zze,Zu1,Znz (Znl _ _) j]
  |false =>
   obtain⟨H1,q⟩:=D z j;refine⟨H1,?_⟩;simp only[go_sem,B,Zys hn,hb,zD,if_false,bne_self_eq_false];exact q
 have O:∀ (k:Int) (H:Hp),ZQ (J wA k) H=some (.ptr H.length 0,H++[.cells [J wA k]]):=fun k H=>Rt rfl;have Q:∀ (k:List UInt8) (H:Hp),ZQ (.str k) H=some (.ptr H.length 0,H++[.cells [.str k]]):=fun k H=>Rt rfl;rw[Zd2];unfold HL;have A:[zA (L.cells x c e),.cells [J wA n],.cells [.str s],.cells [.str t]]=B9 (.cells (L.cells x c e)) n s t:=rfl;unfold QK
 cases hb:n.testBit 1 with
 |true =>
  obtain⟨H1,q⟩:=u (-1) (.inr rfl);refine⟨H1,?_⟩;simp only[go_sem,O,Q,zJ,zL,zI,zM,zF,yO,A,B,ZuE hn,hb,if_true,show ((2:Int) != 0)=true from rfl];simpa using q
 |false =>
  obtain⟨H1,q⟩:=u 1 (.inl rfl);refine⟨H1,?_⟩;simp only[go_sem,O,Q,zJ,zL,zI,zM,zF,yO,A,B,ZuE hn,hb,zD,if_false,bne_self_eq_false];simpa using q
def plainP:Spec:=⟨[],-1,0,false,false⟩
def ZA (p:Spec):Spec:=if (ZK p != 0)=true then plainP else p
theorem Sl.known {k:Nat}{x:AV}{l:List AV}(h:Sl k x l):x.known=true:=by
 rcases h with ⟨rfl,_⟩|⟨tok,rfl⟩ <;> rfl
theorem Zj3 {a:AV}{p:Spec}(h:SpecAV a p)(H:Hp):∃ a',Zh VI [a] H=some (a',H)/\SpecAV a' (ZA p):=by
 obtain⟨F,C,D⟩:=h.close [] 0 5;have z:=fun H=>Eb D H;obtain⟨x,rfl,hx⟩:=D;have E:Z3 true 5 (.ptr 0 0) [zA (p.cells x),.cells [.nils,J wA 0,J wA 0,.bool false,.bool false]]=some (.agg (p.cells x)):=by simp[Z3,Go.Am.apart,Spec.cells]
 unfold ZA
 cases hb:(ZK p != 0) with
 |true =>
  have j:(YS [(1,1,(J wA (-1)))] [.nils,(J wA 0),(J wA 0),(.bool false),(.bool false)]).map AV.agg=some (.agg (plainP.cells .nils)):=rfl;have w:Za 5 (.ptr 1 0) (.agg (plainP.cells .nils)) [zA (p.cells x),.cells [.nils,J wA 0,J wA 0,.bool false,.bool false]]=some (.tuple [],[zA (p.cells x),.cells (plainP.cells .nils)]):=by simp[Za,YX,yF,zV,Spec.cells,splice]
  have u:Z3 true 5 (.ptr 1 0) [zA (p.cells x),.cells (plainP.cells .nils)]=some (.agg (plainP.cells .nils)):=by simp[Z3,Go.Am.apart,Spec.cells]
  have g:VI [.agg (p.cells x)] []=some (.agg (plainP.cells .nils),[zA (p.cells x),.cells (plainP.cells .nils)]):=by
   rw[NR];unfold RW;simp only[go_sem,zI,zJ,zL,zM,zF,E,z,hb,j,w,u]
  obtain⟨a',A,B⟩:=SpecAV.close (a:=.agg (plainP.cells .nils)) (p:=plainP) ⟨.nils,rfl,.inl ⟨rfl,rfl⟩⟩ [zA (p.cells x),.cells (plainP.cells .nils)] 0 5;exact⟨a',Nb C g A,by simpa using B⟩
 |false =>
  have w:Za 5 (.ptr 1 0) (.agg (p.cells x)) [zA (p.cells x),.cells [.nils,J wA 0,J wA 0,.bool false,.bool false]]=some (.tuple [],[zA (p.cells x),.cells (p.cells x)]):=by simp[Za,YX,yF,zV,Spec.cells,splice]
  have u:Z3 true 5 (.ptr 1 0) [zA (p.cells x),.cells (p.cells x)]=some (.agg (p.cells x)):=by simp[Z3,Go.Am.apart,Spec.cells]
  have g:VI [.agg (p.cells x)] []=some (.agg (p.cells x),[zA (p.cells x),.cells (p.cells x)]):=by
   rw[NR];unfold RW;simp only[go_sem,zI,zJ,zL,zM,zF,E,z,hb,ZcG,w,u]
  obtain⟨a',A,B⟩:=SpecAV.close (a:=.agg (p.cells x)) (p:=p) ⟨x,rfl,hx⟩ [zA (p.cells x),.cells (p.cells x)] 0 5;exact⟨a',Nb C g A,by simpa using B⟩
theorem ZkV (p:Spec):(0<=(ZA p).flags/\(ZA p).flags<=31)/\(ZA p).keys.length<=8/\∀ k∈(ZA p).keys,0<=k.fl/\k.fl<=31:=by
 unfold ZA
 cases hb:(ZK p != 0) with
 |true=>simp[plainP]
 |false =>
  rw[bne_eq_false_iff_eq]at hb;unfold ZK at hb;split at hb
  ·cases hb
  ·split at hb
   ·cases hb
   ·split at hb
    ·cases hb
    ·rename_i w g j;simp only[yP,decide_eq_true_eq,not_or]at g;simp only[zD,if_false];refine⟨by omega,by omega,fun k hk=>?_⟩;have u:¬ KS k=true:=fun h=>j (List.any_eq_true.2 ⟨k,hk,h⟩);simp only[KS,yP,decide_eq_true_eq,not_or]at u;omega
theorem Zgd (p:Spec)(h:∀ k∈p.keys,KeOk k):∀ k∈(ZA p).keys,KeOk k:=by
 unfold ZA;split
 ·intro k hk;cases hk
 ·exact h
theorem ZsA (g:List UInt8)(fs:List (Nat×Nat))(k:Ke):(ex g fs k).length<=g.length:=by
 unfold ex;split
 ·dsimp only;split
  ·simp
  ·rw[yL,yW];omega
 ·simp
def SX (p:Spec)(k:Ke):Nat:=if (k.fl==0)=true then p.flags.toNat else k.fl.toNat
def Zai (L:Loc)(p:Spec)(a b:List UInt8):List Ke->Int
 |[]=>0
 |k::l=>if (QK L (SX p k) (ex a (fields a p.sep) k) (ex b (fields b p.sep) k) != 0)=true then QK L (SX p k) (ex a (fields a p.sep) k) (ex b (fields b p.sep) k) else Zai L p a b l
theorem Zk8 (L:Loc)(p:Spec)(a b:List UInt8)(k:Ke)(l:List Ke):Zai L p a b (k::l)=if (QK L (SX p k) (ex a (fields a p.sep) k) (ex b (fields b p.sep) k) != 0)=true then QK L (SX p k) (ex a (fields a p.sep) k) (ex b (fields b p.sep) k) else Zai L p a b l:=(Eq.refl _).trans (Eq.refl _)
def Ziu (L:Loc)(p:Spec)(a b:List UInt8):Int:=if (p.keys.length==0)=true then QK L p.flags.toNat a b else Zai L p a b p.keys
def Wp (L:Loc)(p:Spec)(a b:List UInt8):Int:=Ziu L (ZA p) a b
def CSt (lc sc:List AV)(g h:AV)(H:Hp):Prop:=(g=.vp lc/\h=.vp sc)\/(g=.ptr 0 0/\h=.ptr 1 0/\H=[.cells lc,.cells sc])
theorem CSt.frz {lc sc:List AV}{z A:AV}{H:Hp}(h:CSt lc sc z A H)(w:List AV):∃ B,∀ K:AV->AV->AV->Hp->Z4,
 (Qd z (H++[.cells w]) fun z4 C=>Qd A C fun z5 D=>Qd (.ptr H.length 0) D fun j g=>K z4 z5 j g)=K (.vp lc) (.vp sc) (.vp w) B:=by
 rcases h with ⟨rfl,rfl⟩|⟨rfl,rfl,rfl⟩
 ·refine⟨H++[.dead],fun K=>?_⟩;have u:∀ (l:List AV) (H:Hp) (k:AV->Hp->Z4),Qd (.vp l) H k=k (.vp l) H:=fun l H k=>rfl;rw[u,u,ZvA]
 ·exact⟨[.dead,.dead,.dead],fun K=>rfl⟩
theorem CSt.fld {lc:List AV}{x:AV}{p:Spec}{j g:AV}{H:Hp}(h:CSt lc (p.cells x) j g H) :
 (∃ y,Z6 0 g=some y/\∀ r,Z3 false 1 y (H++r)=some x)/\(∃ y,Z6 2 g=some y/\∀ r,Z3 false 1 y (H++r)=some (J wA p.flags)):=by
 rcases h with ⟨rfl,rfl⟩|⟨rfl,rfl,rfl⟩
 ·exact⟨⟨.vp (p.cells x),rfl,fun r=>by simp only[Spec.cells,Zz]⟩,⟨.vp [J wA p.flags,.bool p.uniq,.bool p.stab],rfl,fun r=>by simp only[Zz]⟩⟩
 ·exact⟨⟨.ptr 1 0,rfl,fun r=>Y2 (l:=p.cells x) rfl⟩,⟨.ptr 1 2,rfl,fun r=>Y2 (l:=p.cells x) rfl⟩⟩
theorem vpf (x:AV)(p:Spec):Z6 1 (.vp (p.cells x))=some (.vp [J wA p.sep,J wA p.flags,.bool p.uniq,.bool p.stab]):=rfl
theorem ZpL (L:Loc)(x c e:AV):Jy true 6 (.vp (L.cells x c e))=some (.agg (L.cells x c e)):=rfl
theorem ZrT (k:Ke):Jy true 5 (.vp k.cells)=some (.agg k.cells):=rfl
section
variable {L:Loc}{x c e:AV}(hav:LocAV (.agg (L.cells x c e)) L)(hok:LocOk L){p:Spec}{xk:AV}(hk:Sl 5 xk (p.keys.map Ke.av))(hlen:p.keys.length<=8)
 (hks:∀ k∈p.keys,KeOk k) (hkf:∀ k∈p.keys,0<=k.fl/\k.fl<=31) (hfl:0<=p.flags/\p.flags<=31) (a b:List UInt8) (ha:a.length<=1048576) (hb:b.length<=1048576)
include hav hok hk hlen hks hkf hfl ha hb
theorem Zv2:∀ (m i:Nat) (D E:AV) (H:Hp),p.keys.length-i=m->i<=p.keys.length->CSt (L.cells x c e) (p.cells xk) D E H ->
 ∃ H',QP (.str a) (.str b) D E xk (J wA (p.keys.length:Int)) (J wA (i:Int)) [] H=some (J wA (Zai L p a b (p.keys.drop i)),H'):=by
 intro m
 induction m with
 |zero =>
  intro i D E H hm hi A;have z:decide ((i:Int)<(p.keys.length:Int))=false:=by simp;omega
  have W:p.keys.drop i=[]:=zG.2 (by omega);refine⟨H,?_⟩;rw[RA];simp only[go_sem,z,OI,W,Zai]
 |succ m Y =>
  intro i D E H hm hi A;have u:i<p.keys.length:=by omega
  have z:decide ((i:Int)<(p.keys.length:Int))=true:=by simp;omega
  have hw:xZ.wrap ((i:Int)+1)=((i+1:Nat):Int):=by rw[Zp (by omega) (by omega)];omega
  have j:p.keys[i]∈p.keys:=yK u;have w:=hks _ j;have B:=hkf _ j;rw[zH u,Zk8];have h:p.keys[i]?=some p.keys[i]:=zC u;generalize p.keys[i]=k at w B h;obtain⟨_,y,N,O⟩:=A.fld;obtain⟨R,K⟩:=A.frz k.cells;obtain⟨S,U,_⟩:=ZdQ ha w p.sep R;obtain⟨F,V,_⟩:=ZdQ hb w p.sep S;have l1:=ZsA a (fields a p.sep) k;have l2:=ZsA b (fields b p.sep) k;have hn:SX p k<32:=by unfold SX;split <;> omega
  have X:=ZiE hav hok hn (ex a (fields a p.sep) k) (ex b (fields b p.sep) k) (by omega) (by omega) F
  have g:∃ H',QO (.str a) (.str b) D E (.ptr H.length 0) (J wA (SX p k:Int)) xk (J wA (p.keys.length:Int)) (J wA (i:Int)) [] (H++[.cells k.cells])=some (J wA (if (QK L (SX p k) (ex a (fields a p.sep) k) (ex b (fields b p.sep) k) != 0)=true then QK L (SX p k) (ex a (fields a p.sep) k) (ex b (fields b p.sep) k) else Zai L p a b (p.keys.drop (i+1))),H'):=by
   rw[OL,K];simp only[ZpL,HV,vpf,Zz,ZpM,ZrT,go_sem,U,V,X]
   cases Z:(QK L (SX p k) (ex a (fields a p.sep) k) (ex b (fields b p.sep) k) != 0) with
   |true=>exact⟨F,by simp only[go_sem,if_true]⟩
   |false =>
    obtain⟨T,q⟩:=Y (i+1) (.vp (L.cells x c e)) (.vp (p.cells xk)) F (by omega) (by omega) (.inl ⟨rfl,rfl⟩);exact⟨T,by simp only[go_sem,zD,if_false,OK,hw,q]⟩
  obtain⟨H',g⟩:=g;refine⟨H',?_⟩;have C:=ZdA H k [J wA 0,J wA 0,J wA 0,J wA 0,J wA 0] rfl;have M:Z3 false 1 (.ptr H.length (0+4)) (H++[.cells k.cells])=some (J wA k.fl):=ZH H k.cells 4;rw[RA];simp only[go_sem,z,OJ,hk.key h,HV,C,M]
  cases Q:(k.fl==0) with
  |true =>
   have I:(p.flags:Int)=((SX p k:Nat):Int):=by unfold SX;rw[Q,if_pos rfl];omega
   simp only[go_sem,N,O,I];exact g
  |false =>
   have I:(k.fl:Int)=((SX p k:Nat):Int):=by unfold SX;rw[Q,if_neg (by decide)];omega
   simp only[go_sem];rw[I];exact g
end
theorem Zeh {a:AV}{L:Loc}(h:LocAV a L)(hok:LocOk L){q:AV}{p:Spec}(U:SpecAV q p)(hks:∀ k∈p.keys,KeOk k)(s t:List UInt8)(E:s.length<=1048576)(R:t.length<=1048576)(H:Hp) :
 Zh WN [a,q,.str s,.str t] H=some (J wA (Wp L p s t),H):=by
 obtain⟨Y,T,N⟩:=h.close [] 0 5;obtain⟨q1,S,K⟩:=U.close [] 0 5;have hav:=N;have W:=fun H=>Zj3 K H;obtain⟨x,c,e,rfl,hx,Z,he⟩:=N;obtain⟨xp,rfl,X⟩:=K;obtain⟨v',C,j,rfl,D⟩:=W [zA (L.cells x c e),.cells (p.cells xp)];obtain⟨hfl,hlen,hkf⟩:=ZkV p;have z:=Zgd p hks
 suffices E:∃ H1,WN [.agg (L.cells x c e),.agg (p.cells xp),.str s,.str t] []=some (J wA (Wp L p s t),H1) by
  obtain⟨H1,V⟩:=E;exact Zid T S (c':=.str s) (d':=.str t) rfl rfl V rfl
 have O:Z3 true 5 (.ptr 1 0) [zA (L.cells x c e),.cells (p.cells xp)]=some (.agg (p.cells xp)):=by simp[Z3,Go.Am.apart,Spec.cells]
 have B:Za 5 (.ptr 1 0) (.agg ((ZA p).cells j)) [zA (L.cells x c e),.cells (p.cells xp)]=some (.tuple [],[zA (L.cells x c e),.cells ((ZA p).cells j)]):=by simp[Za,YX,yF,zV,Spec.cells,splice]
 have w:Z3 false 1 (.ptr 1 (0+0)) [zA (L.cells x c e),.cells ((ZA p).cells j)]=some j:=Y2 (l:=(ZA p).cells j) rfl;have F:Z3 false 1 (.ptr 1 (0+2)) [zA (L.cells x c e),.cells ((ZA p).cells j)]=some (J wA (ZA p).flags):=Y2 (l:=(ZA p).cells j) rfl;have u:=D.len 119;rw[zP]at u;have A:=ZmQ L x c e [.cells ((ZA p).cells j)];have hn:(ZA p).flags.toNat<32:=by omega
 have I:((ZA p).flags:Int)=(((ZA p).flags.toNat:Nat):Int):=by omega
 have Q:=ZiE hav hok hn s t E R [zA (L.cells x c e),.cells ((ZA p).cells j)];rw[<-I]at Q
 have g:(((ZA p).keys.length:Int)==0)=((ZA p).keys.length==0):=by
  rw[zS,beq_iff_eq,beq_iff_eq];omega
 rw[OX];unfold Lj Wp Ziu
 cases M:((ZA p).keys.length==0) with
 |true =>
  exact⟨[zA (L.cells x c e),.cells ((ZA p).cells j)],by simp only[go_sem,Yu,zI,zJ,zL,zM,O,C,B,w,u,g,M,A,F,Q,if_true,zF,yO]⟩
 |false =>
  obtain⟨H',r⟩:=Zv2 hav hok D hlen z hkf hfl s t E R _ 0 (.ptr 0 0) (.ptr 1 0) _ rfl (xC _) (.inr ⟨rfl,rfl,rfl⟩);rw[zQ,show ((0:Nat):Int)=0 from rfl]at r;refine⟨H',?_⟩;simp only[go_sem,Yu,zI,zJ,zL,zM,O,C,B,w,u,g,M,OH,r,zD,if_false,zF,yO]
def Y0 (L:Loc)(p:Spec)(s t:List UInt8):Int :=
 if (Wp L (ZA p) s t != 0 || (ZA p).stab || (ZA p).uniq)=true then Wp L (ZA p) s t else if (ZA p).flags.toNat.testBit 1 then -Dz L s t else Dz L s t
theorem ZmZ {a:AV}{L:Loc}(h:LocAV a L)(hok:LocOk L){q:AV}{p:Spec}(X:SpecAV q p)(hks:∀ k∈p.keys,KeOk k)(s t:List UInt8)(E:s.length<=1048576)(T:t.length<=1048576)(H:Hp) :
 Zh Qp [a,q,.str s,.str t] H=some (J wA (Y0 L p s t),H):=by
 obtain⟨a1,V,S⟩:=h.close [] 0 5;obtain⟨q1,U,R⟩:=X.close [] 0 5;have hav:=S;have Z:=fun H=>Zj3 R H;obtain⟨x,c,e,rfl,hx,hc,he⟩:=S;obtain⟨xp,rfl,aa⟩:=R;obtain⟨v',O,g,rfl,Q⟩:=Z [zA (L.cells x c e),.cells (p.cells xp)];obtain⟨hfl,hlen,hkf⟩:=ZkV p;have C:=Zgd p hks
 suffices E:∃ H1,Qp [.agg (L.cells x c e),.agg (p.cells xp),.str s,.str t] []=some (J wA (Y0 L p s t),H1) by
  obtain⟨H1,Y⟩:=E;exact Zid V U (c':=.str s) (d':=.str t) rfl rfl Y rfl
 have W:Z3 true 5 (.ptr 1 0) [zA (L.cells x c e),.cells (p.cells xp)]=some (.agg (p.cells xp)):=by simp[Z3,Go.Am.apart,Spec.cells]
 have N:Za 5 (.ptr 1 0) (.agg ((ZA p).cells g)) [zA (L.cells x c e),.cells (p.cells xp)]=some (.tuple [],[zA (L.cells x c e),.cells ((ZA p).cells g)]):=by simp[Za,YX,yF,zV,Spec.cells,splice]
 have M:Z3 true 5 (.ptr 1 0) [zA (L.cells x c e),.cells ((ZA p).cells g)]=some (.agg ((ZA p).cells g)):=by simp[Z3,Go.Am.apart,Spec.cells]
 have z:Z3 false 1 (.ptr 1 (0+2)) [zA (L.cells x c e),.cells ((ZA p).cells g)]=some (J wA (ZA p).flags):=Y2 (l:=(ZA p).cells g) rfl;have B:Z3 false 1 (.ptr 1 (0+3)) [zA (L.cells x c e),.cells ((ZA p).cells g)]=some (.bool (ZA p).uniq):=Y2 (l:=(ZA p).cells g) rfl;have I:Z3 false 1 (.ptr 1 (0+4)) [zA (L.cells x c e),.cells ((ZA p).cells g)]=some (.bool (ZA p).stab):=Y2 (l:=(ZA p).cells g) rfl;have u:=ZmQ L x c e [.cells ((ZA p).cells g)];have hn:(ZA p).flags.toNat<32:=by omega
 have K:((ZA p).flags:Int)=(((ZA p).flags.toNat:Nat):Int):=by omega
 have A:=Zeh hav hok (q:=.agg ((ZA p).cells g)) ⟨g,rfl,Q⟩ C s t E T [zA (L.cells x c e),.cells ((ZA p).cells g)];have w:=Zkr hav hok s t E T [zA (L.cells x c e),.cells ((ZA p).cells g)];have D:=ZxV (Zm4 L s t);have j:=ZuE hn
 have F:R9 (.str s) (.str t) (.ptr 0 0) (.ptr 1 0) [] [zA (L.cells x c e),.cells ((ZA p).cells g)]=some (J wA (if (ZA p).flags.toNat.testBit 1 then -Dz L s t else Dz L s t),[zA (L.cells x c e),.cells ((ZA p).cells g)]):=by
  rw[Zcr];rw[K]at z
  cases hb:(ZA p).flags.toNat.testBit 1 with
  |true =>
   rw[hb]at j;simp only[go_sem,u,w,z,j,Zp1,D,if_true,show ((2:Int) != 0)=true from rfl]
  |false =>
   rw[hb]at j;simp only[go_sem,u,w,z,j,Zcs,zD,if_false,bne_self_eq_false]
 refine⟨[zA (L.cells x c e),.cells ((ZA p).cells g)],?_⟩;rw[ZcZ];unfold HI Y0;simp only[go_sem,Yu,zI,zJ,zL,zM,W,O,N,u,M,A,zF,yO]
 cases h0:(Wp L (ZA p) s t != 0) with
 |true=>simp only[go_sem,zO,if_true]
 |false =>
  simp only[go_sem,I,B]
  cases h4:(ZA p).stab with
  |true=>simp only[go_sem,zO,yY,if_true]
  |false =>
   simp only[go_sem,B]
   cases h3:(ZA p).uniq with
   |true=>simp only[go_sem,zO,yY,if_true]
   |false=>simp only[go_sem,F,xI,zD,if_false]
end Go.Am
