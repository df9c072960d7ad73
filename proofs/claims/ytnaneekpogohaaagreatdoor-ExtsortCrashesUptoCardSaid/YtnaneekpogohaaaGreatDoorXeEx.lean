/- Bytes told apart -/
import Derived.Test.YtnaneekpogohaaaGreatDoorXeSx
import Derived.Test.YtnaneekpogohaaaGreatDoorXeGCx
open Go.Am.AV renaming int->J
open Go.IntKind renaming i64->wA
open Go.IntKind renaming i64->xZ
open List renaming getElem?_cons_zero->zB,getElem?_eq_getElem->zC,getElem?_cons_succ->zE,drop_eq_nil_iff->zG,drop_eq_getElem_cons->zH,nil_append->zI,length_nil->zJ,length_cons->zL,cons_append->zM,length_map->zP,drop_zero->zQ,mem_map->zR,length_singleton->zX,length_append->zY,getElem?_append_right->zZ,append_nil->yA,take_add_one->yC,contains_cons->yD,map_append->yE,getElem?_set_ne->yJ,getElem_mem->yK,length_drop->yL,take_zero->yM,range->yQ,getD_eq_getElem?_getD->yR,map_cons->yT,mapM_nil->yU,getElem?_append_left->yV,length_take->yW,length_eq_zero_iff->yX,getElem?_eq_none->xB,mapM_cons->xF,replicate->xG,all_cons->xH,set_cons_zero->xJ,isEmpty_cons->xL,contains_nil->xM,take_append->xO,filter_cons->xP,drop_take->xQ,any_cons->xT,all_nil->xU,any_nil->xX,map_nil->xY
open Nat renaming zero_add->zF,reduceAdd->yO,le_refl->yS,zero_le->xC,add_zero->xK,lt_or_ge->xV
open Bool renaming false_eq_true->zD,true_or->zO,eq_iff_iff->zS,false_or->zT,not_false->zU,true_and->zW,not_true->yB,false_and->yH,and_eq_true->yN,or_eq_true->yP,or_true->yY,or_false->xI,and_true->xR,not_not->xW
open Prod renaming fst->zK
open UInt8 renaming ofNat->yG,lt_iff_toNat_lt->xD,ofNat_toNat->xN
open Prod.mk renaming injEq->xS
open Go.Am.AObj renaming cells->zA,row->yI,bld->yZ,dead->xE
open Go.Am.AV renaming int->zN,cells->zV,known->yF,str->xA
namespace Go.Am
set_option maxRecDepth 100000
theorem Nt {α β γ:Type}(x:Option α)(f:α->Option β)(g:β->Option γ):Z0 (Z0 x f) g=Z0 x fun a=>Z0 (f a) g:=by cases x <;> rfl
def LN (h x8:AV):Option AV :=
 Z0 (Z4 .eql h (.int .u8 95)) fun j =>
 Z0 (Z7 j false am (some h)) fun C =>
 Z0 (Z7 j false am (Z4 .geq C (.int .u8 97))) fun D =>
 Z0 (Z7 j false am (some D)) fun w =>
 Z0 (Z7 w true am (some h)) fun E =>
 Z0 (Z7 w true am (Z4 .leq E (.int .u8 122))) fun F =>
 Z0 (Z7 j false am (Zi w F (.bool false))) fun H =>
 Z0 (Zi j (.bool true) H) fun u =>
 Z0 (Z7 u false am (some h)) fun I =>
 Z0 (Z7 u false am (Z4 .geq I (.int .u8 65))) fun K =>
 Z0 (Z7 u false am (some K)) fun z =>
 Z0 (Z7 z true am (some h)) fun M =>
 Z0 (Z7 z true am (Z4 .leq M (.int .u8 90))) fun N =>
 Z0 (Z7 u false am (Zi z N (.bool false))) fun O =>
 Z0 (Zi u (.bool true) O) fun Q =>
 Z0 (Xm .not Q) fun g =>
 Z0 (Z7 g true am (some x8)) fun R =>
 Z0 (Z7 g true am (Z4 .eql R (J wA 0))) fun S =>
 Z0 (Z7 g true am (some S)) fun A =>
 Z0 (Z7 A false am (some h)) fun T =>
 Z0 (Z7 A false am (Z4 .lss T (.int .u8 48))) fun U =>
 Z0 (Z7 g true am (Zi A (.bool true) U)) fun V =>
 Z0 (Z7 g true am (some V)) fun B =>
 Z0 (Z7 B false am (some h)) fun W =>
 Z0 (Z7 B false am (Z4 .gtr W (.int .u8 57))) fun X =>
 Z0 (Z7 g true am (Zi B (.bool true) X)) fun Y =>
 Z0 (Zi g Y (.bool false)) fun Z =>
 some Z
theorem TW (u z j A:AV)(w H:Hp):PK u z j A w H =
 Z0 (Zy u j) fun h =>
 Z0 (LN h j) fun g =>
 Zj g (some ((.bool false),H)) (PL u z j w H):=by
 rw[Zfk];simp only[LN,Nt,V5]
def ZiR (g:AV):Option AV :=
 Z0 (Z4 .geq g (.int .u8 97)) fun z =>
 Z0 (Z7 z true am (some g)) fun R =>
 Z0 (Z7 z true am (Z4 .leq R (.int .u8 122))) fun S =>
 Z0 (Zi z S (.bool false)) fun j =>
 Z0 (Z7 j false am (some g)) fun T =>
 Z0 (Z7 j false am (Z4 .geq T (.int .u8 65))) fun U =>
 Z0 (Z7 j false am (some U)) fun A =>
 Z0 (Z7 A true am (some g)) fun B =>
 Z0 (Z7 A true am (Z4 .leq B (.int .u8 90))) fun C =>
 Z0 (Z7 j false am (Zi A C (.bool false))) fun D =>
 Z0 (Zi j (.bool true) D) fun h =>
 Z0 (Z7 h false am (some g)) fun E =>
 Z0 (Z7 h false am (Z4 .geq E (.int .u8 48))) fun F =>
 Z0 (Z7 h false am (some F)) fun u =>
 Z0 (Z7 u true am (some g)) fun H =>
 Z0 (Z7 u true am (Z4 .leq H (.int .u8 57))) fun I =>
 Z0 (Z7 h false am (Zi u I (.bool false))) fun K =>
 Z0 (Zi h (.bool true) K) fun w =>
 Z0 (Z7 w false am (some g)) fun M =>
 Z0 (Z7 w false am (Z4 .eql M (.int .u8 95))) fun N =>
 Z0 (Zi w (.bool true) N) fun O =>
 Z0 (Xm .not O) fun Q =>
 some Q
theorem ZcS (j u:AV)(w H:Hp):M3 j u w H =
 Z0 (Zy j u) fun h =>
 Z0 (ZiR h) fun g =>
 Zj g (some ((.bool false),H)) (M4 j u w H):=by
 rw[Zgm];simp only[ZiR,Nt,V5]
def Zu6 (g u:AV):Option AV :=
 Z0 (Z7 g false am (some u)) fun R =>
 Z0 (Z7 g false am (Z4 .geq R (.int .u8 48))) fun S =>
 Z0 (Z7 g false am (some S)) fun A =>
 Z0 (Z7 A true am (some u)) fun T =>
 Z0 (Z7 A true am (Z4 .leq T (.int .u8 57))) fun U =>
 Z0 (Z7 g false am (Zi A U (.bool false))) fun B =>
 Z0 (Zi g (.bool true) B) fun h =>
 Z0 (Z7 h false am (some u)) fun C =>
 Z0 (Z7 h false am (Z4 .geq C (.int .u8 97))) fun D =>
 Z0 (Z7 h false am (some D)) fun w =>
 Z0 (Z7 w true am (some u)) fun E =>
 Z0 (Z7 w true am (Z4 .leq E (.int .u8 122))) fun F =>
 Z0 (Z7 h false am (Zi w F (.bool false))) fun H =>
 Z0 (Zi h (.bool true) H) fun j =>
 Z0 (Z7 j false am (some u)) fun I =>
 Z0 (Z7 j false am (Z4 .geq I (.int .u8 65))) fun K =>
 Z0 (Z7 j false am (some K)) fun z =>
 Z0 (Z7 z true am (some u)) fun M =>
 Z0 (Z7 z true am (Z4 .leq M (.int .u8 90))) fun N =>
 Z0 (Z7 j false am (Zi z N (.bool false))) fun O =>
 Z0 (Zi j (.bool true) O) fun Q =>
 some Q
def ZlJ (g u:AV):Option AV :=
 Z0 (Z7 g false am (some u)) fun T =>
 Z0 (Z7 g false am (Z4 .geq T (.int .u8 97))) fun U =>
 Z0 (Z7 g false am (some U)) fun w =>
 Z0 (Z7 w true am (some u)) fun B =>
 Z0 (Z7 w true am (Z4 .leq B (.int .u8 122))) fun C =>
 Z0 (Z7 g false am (Zi w C (.bool false))) fun D =>
 Z0 (Zi g (.bool true) D) fun h =>
 Z0 (Z7 h false am (some u)) fun E =>
 Z0 (Z7 h false am (Z4 .geq E (.int .u8 65))) fun F =>
 Z0 (Z7 h false am (some F)) fun z =>
 Z0 (Z7 z true am (some u)) fun H =>
 Z0 (Z7 z true am (Z4 .leq H (.int .u8 90))) fun I =>
 Z0 (Z7 h false am (Zi z I (.bool false))) fun K =>
 Z0 (Zi h (.bool true) K) fun j =>
 Z0 (Z7 j false am (some u)) fun M =>
 Z0 (Z7 j false am (Z4 .geq M (.int .u8 48))) fun N =>
 Z0 (Z7 j false am (some N)) fun A =>
 Z0 (Z7 A true am (some u)) fun O =>
 Z0 (Z7 A true am (Z4 .leq O (.int .u8 57))) fun Q =>
 Z0 (Z7 j false am (Zi A Q (.bool false))) fun R =>
 Z0 (Zi j (.bool true) R) fun S =>
 some S
theorem ZaQ (w z C A D:AV)(B H:Hp):Tu w z C A D B H =
 Z0 (Zy w A) fun h =>
 Z0 (Vz [h] H) fun g =>
 Z0 (ZlJ g.1 h) fun u =>
 Zj u (Z0 (byteE.run [z,h] g.2) fun j=>QC w z C A B j.2) (QC w z C A B g.2):=by
 rw[Zes];simp only[ZlJ,Nt,V5]
def RP:Option AV->Option Bool
 |some (.bool b)=>some b
 |_=>none
theorem QG {x:Option AV}{b:Bool}(h:RP x=some b):x=some (.bool b):=by
 unfold RP at h;split at h
 ·injection h with h;subst h;rfl
 ·cases h
def Ztw (n:Nat):Bool:=(decide (97<=n)&&decide (n<=122)) || (decide (65<=n)&&decide (n<=90))
def N9 (n:Nat):Bool:=decide (48<=n)&&decide (n<=57)
def Wz (n:Nat):Bool:=n==95 || Ztw n || N9 n
theorem ZkI:((yQ 256).all fun n=>(RP (LN (.int .u8 (n:Int)) (J wA 1))==some (!Wz n))&&(RP (LN (.int .u8 (n:Int)) (J wA 0))==some (!Wz n || N9 n)))=true:=by kernel_rfl
theorem ZrE:((yQ 256).all fun n=>(RP (ZiR (.int .u8 (n:Int)))==some (!Wz n)))=true:=by kernel_rfl
theorem ZeP (b:UInt8):b.toNat<256:=b.toNat_lt
theorem ZfZ (b:UInt8):LN (.int .u8 b.toNat) (J wA 0)=some (.bool (!Wz b.toNat || N9 b.toNat)):=by
 have h:=WM ZkI (ZeP b);simp only[yN,beq_iff_eq]at h;exact QG h.2
theorem ZiC (b:UInt8){i:Int}(hi:(i==0)=false):LN (.int .u8 b.toNat) (J wA i)=some (.bool (!Wz b.toNat)):=by
 have h:=WM ZkI (ZeP b);simp only[yN,beq_iff_eq]at h;rw[<-QG h.1];have e:Z4 .eql (J wA i) (J wA 0)=Z4 .eql (J wA 1) (J wA 0):=by simp only[Z4,XA,XE,hi];rfl
 unfold LN
 iterate 16 refine congrArg (Z0 _) (funext fun t=>?_)
 cases t with
 |bool b =>
  cases b
  ·rfl
  ·simp only[ZmS,V5,e]
 |_=>rfl
theorem Zuf (b:UInt8):ZiR (.int .u8 b.toNat)=some (.bool (!Wz b.toNat)):=by
 have h:=WM ZrE (ZeP b);simp only[beq_iff_eq]at h;exact QG h
def VG (s:List UInt8):Bool :=
 match s with
 |[]=>false
 |b::_=>decide (s.length<=32)&&!N9 b.toNat&&s.all fun c=>Wz c.toNat
theorem Zpu (s:List UInt8)(h:s.length<=4611686018427387904)(g H:Hp):PJ (.str s) g H=some (.bool (!s.isEmpty&&decide (s.length<=32)),H):=by
 rw[Zfj]
 cases s with
 |nil=>simp[go_sem,Yx,KF]
 |cons b l =>
  simp only[Yx,KF,go_sem,Zk];have:(!((b::l)==([]:List UInt8)))=true:=rfl;have c:decide (((b::l).length:Int)<=32)=decide ((b::l).length<=32):=by rw[zS];simp;omega
  simp only[this,go_sem,c,xL,zU,zW]
theorem ZtG (s:List UInt8)(A:s.length<=4611686018427387904)(u H:Hp):∀ (k i:Nat),s.length-i=k->0<i->i<=s.length ->
 B2 (.str s) (J wA s.length) (J wA i) u H=some (.bool (((s.drop i).all fun c=>Wz c.toNat)&&(!s.isEmpty&&decide (s.length<=32))),H):=by
 intro k
 induction k with
 |zero =>
  intro i hk w hi;rw[J0];have g:decide ((i:Int)<(s.length:Int))=false:=by simp;omega
  have z:s.drop i=[]:=zG.2 (by omega);simp only[go_sem,g,Zpu s A,z,xU,zW]
 |succ k B =>
  intro i hk w hi;rw[J0];have j:i<s.length:=by omega
  have g:decide ((i:Int)<(s.length:Int))=true:=by simp;omega
  have hw:xZ.wrap ((i:Int)+1)=((i+1:Nat):Int):=by rw[Zp (by omega) (by omega)];omega
  have h:((i:Int)==0)=false:=by simp;omega
  simp only[go_sem,g,TW,ZX (zC j),ZiC _ h];rw[zH j,xH]
  cases hb:Wz s[i].toNat with
  |false=>simp only[go_sem,zU,yH]
  |true =>
   simp only[go_sem,yB,zW,L1,hw];exact B (i+1) (by omega) (by omega) (by omega)
theorem ZtH (s:List UInt8)(j:s.length<=4611686018427387904)(H:Hp):Kr [.str s] H=some (.bool (VG s),H):=by
 rw[Zgh];unfold Zb7;simp only[go_sem,Zk]
 cases s with
 |nil=>rw[J0];simp[go_sem,Zpu [] (by simp),VG]
 |cons b l =>
  rw[J0];have h:decide ((0:Int)<((b::l).length:Int))=true:=by simp
  have hw:xZ.wrap ((0:Int)+1)=((0+1:Nat):Int):=by decide
  have g:Zy (.str (b::l)) (J wA 0)=some (.int .u8 b.toNat):=by simp[Zy]
  simp only[go_sem,h,TW,g,ZfZ]
  cases hb:(!Wz b.toNat || N9 b.toNat) with
  |true =>
   have:VG (b::l)=false:=by
    unfold VG;simp only[yP,Bool.not_eq_true']at hb;rcases hb with hb|hb <;> simp[hb]
   simp only[go_sem,this]
  |false =>
   simp only[Bool.or_eq_false_iff,Bool.not_eq_false']at hb;simp only[go_sem,L1,hw];rw[ZtG (b::l) j H H l.length 1 (by simp) (by omega) (by simp)]
   have:VG (b::l)=(((b::l).drop 1).all (fun c=>Wz c.toNat)&&(!(b::l).isEmpty&&decide ((b::l).length<=32))):=by
    unfold VG;simp only[hb.1,hb.2,xH,List.drop_one,List.tail_cons,xL,zU,zW,xR];rw[Bool.and_comm]
   rw[this]
theorem ZrF (s:List UInt8)(z:s.length<=4611686018427387904)(j H:Hp):∀ (k i:Nat),s.length-i=k->i<=s.length ->
 Fd (.str s) (J wA i) j H=some (.bool ((s.drop i).all fun c=>Wz c.toNat),H):=by
 intro k
 induction k with
 |zero =>
  intro i hk hi;rw[EL];have g:decide ((i:Int)<(s.length:Int))=false:=by simp;omega
  have u:s.drop i=[]:=zG.2 (by omega);simp only[go_sem,Zk,g,Zgl,u,xU]
 |succ k w =>
  intro i hk hi;rw[EL];have h:i<s.length:=by omega
  have g:decide ((i:Int)<(s.length:Int))=true:=by simp;omega
  have hw:xZ.wrap ((i:Int)+1)=((i+1:Nat):Int):=by rw[Zp (by omega) (by omega)];omega
  simp only[go_sem,Zk,g,ZcS,ZX (zC h),Zuf];rw[zH h,xH]
  cases hb:Wz s[i].toNat with
  |false=>simp only[go_sem,zU,yH]
  |true =>
   simp only[go_sem,yB,zW,Zgn,hw];exact w (i+1) (by omega) (by omega)
theorem ZrG (s:List UInt8)(hs:s.length<=4611686018427387904)(H:Hp):Gr [.str s] H=some (.bool (VG s),H):=by
 rw[Zhg];unfold Zcr;simp only[go_sem,Zk]
 cases s with
 |nil=>simp[go_sem,VG]
 |cons b l =>
  have h0:((((b::l).length:Nat):Int)==0)=false:=by simp;omega
  have hidx:Zy (.str (b::l)) (J wA 0)=some (.int .u8 b.toNat):=by simp[Zy]
  simp only[go_sem,h0];by_cases h32:32<(b::l).length
  ·have c1:decide ((32:Int)<((b::l).length:Int))=true:=by simp at h32 ⊢;omega
   have    : VG (b :: l) = false := by unfold VG; have : decide ((b :: l).length <= 32) = false := by simp at h32 ⊢; omega
                                       rw[this];rfl
   simp only[go_sem,c1,this]
  ·have c1:decide ((32:Int)<((b::l).length:Int))=false:=by simp at h32 ⊢;omega
   have c2:decide ((b::l).length<=32)=true:=by simp at h32 ⊢;omega
   have hl:=ZrF (b::l) hs H H (b::l).length 0 (by simp) (by omega);rw[show ((0:Nat):Int)=0 from rfl,zQ]at hl;have hn:VG (b::l)=(!N9 b.toNat&&(b::l).all fun c=>Wz c.toNat):=by unfold VG;simp only[c2,zW]
   simp only[go_sem,c1,hidx,Zgk,hl,hn];have e1:decide ((48:Int)<=(b.toNat:Int))=decide (48<=b.toNat):=by rw[zS];simp;omega
   have e2:decide ((b.toNat:Int)<=(57:Int))=decide (b.toNat<=57):=by rw[zS];simp;omega
   unfold N9;simp only[e1,e2]
   cases h48:decide (48<=b.toNat) with
   |false=>simp only[go_sem,yH,zU,zW]
   |true =>
    cases h57:decide (b.toNat<=57) with
    |false=>simp only[go_sem,hidx,e2,h57,zW,zU]
    |true=>simp only[go_sem,hidx,e2,h57,zW,yB,yH]
theorem ZkJ (s:List UInt8)(g:s.length<=4611686018427387904)(H:Hp):Zh Kr [.str s] H=some (.bool (VG s),H):=XO rfl (ZtH s g []) rfl
theorem ZiS (s:List UInt8)(g:s.length<=4611686018427387904)(H:Hp):Zh Gr [.str s] H=some (.bool (VG s),H):=XO rfl (ZrG s g []) rfl
theorem Zx (a:AV)(l:List AV)(H:Hp):Z3 false 1 (.vp (a::l)) H=some a:=(Eq.refl _).trans (Eq.refl _)
theorem Zq4 (a:AV)(l:List AV):Ji false 1 (.vp (a::l))=some a:=(Eq.refl _).trans (Eq.refl _)
theorem ZvT (H:Hp)(l:List AV)(k:AV->Hp->Z5):UZ (.ptr H.length 0) (H++[.cells l]) k=k (.vp l) (H++[.dead]):=by
 rw[Zte (VS _ _),ZwQ]
def M5 {α:Type}(bad:α->Option Int)(key:α->List UInt8):List α->List (List UInt8)->Int
 |[],_=>0
 |c::r,seen=>match bad c with
  |some e=>e
  |none=>if seen.contains (key c) then 6 else M5 bad key r (seen++[key c])
theorem R6 {α:Type}(bad:α->Option Int)(key:α->List UInt8)(c:α)(r:List α)(g:List (List UInt8)):M5 bad key (c::r) g=match bad c with
 |some e=>e
 |none=>if g.contains (key c) then 6 else M5 bad key r (g++[key c]):=(Eq.refl _).trans (Eq.refl _)
def AB (h:List (AV×AV×Nat))(g:List (List UInt8)):Prop:=h.map (fun e=>(e.1,e.2.1))=g.map fun s=>(xA s,AV.bool true)
theorem Zig (k:List UInt8):∀ (u:List (AV×AV×Nat)) (g:List (List UInt8)) (i:Nat),AB u g ->
 if g.contains k then ∃ j,YS (.str k) u i=some (some (j,.bool true)) else YS (.str k) u i=some none:=by
 intro u
 induction u with
 |nil =>
  intro g i h
  cases g with
  |nil=>simp[YS]
  |cons s r=>simp[AB]at h
 |cons e u z =>
  intro g i h
  cases g with
  |nil=>simp[AB]at h
  |cons s r =>
   obtain⟨a,b,c⟩:=e;simp only[AB,yT,List.cons.injEq,xS]at h;obtain⟨⟨rfl,rfl⟩,w⟩:=h;have:=z r (i+1) w;simp only[YS,Jo,yD]
   cases hk:(k==s) with
   |true=>simp
   |false=>simpa using this
theorem ZkU {H:Hp}{m:Nat}{u:List (AV×AV×Nat)}{c:Nat}{g:List (List UInt8)}(hm:H[m]?=some (.map u c))(z:AB u g)(k:List UInt8) :
 Y8 .string (.bool false) false (.map m) (.str k) H=some (.bool (g.contains k)):=by
 have h:=Zig k u g 0 z;unfold Y8;simp only[Wj,if_true,Xj,hm]
 cases hk:g.contains k with
 |true =>
  rw[hk]at h;obtain⟨j,w⟩:=h;simp[w]
 |false =>
  rw[hk]at h;simp at h;simp[h]
theorem Znz {H:Hp}{m:Nat}{j:List (AV×AV×Nat)}{c:Nat}{g:List (List UInt8)}(hm:H[m]?=some (.map j c))(u:AB j g){k:List UInt8}(hk:g.contains k=false) :
 Xv .string (.map m) (.str k) (.bool true) H=some (.tuple [],H.set m (.map (j++[(.str k,.bool true,c)]) (c+1)))/\AB (j++[(.str k,.bool true,c)]) (g++[k]):=by
 have h:=Zig k j g 0 u;rw[hk]at h;simp at h;constructor
 ·unfold Xv;simp only[hm,Wj,if_true,h]
 ·unfold AB at u ⊢;simp[u]
theorem Lr (l:List AV):Z6 0 (.vp l)=some (.vp l):=by simp[Z6]
def QS (c:List UInt8×List Int):AV:=.agg (.str c.1::c.2.map (.int .u64))
def EW (c:List UInt8×List Int):Option Int:=if VG c.1 then none else some 4
def AN (l:List (List UInt8×List Int)):Int:=if 24<l.length then 3 else M5 EW zK l []
def ZeA (l:List (List UInt8×List Int)):Prop:=∀ c∈l,c.2.length=4/\c.1.length<=4611686018427387904
theorem Sl.cls {x:AV}{l:List (List UInt8×List Int)}(h:Sl 5 x (l.map QS)){i:Nat}{c:List UInt8×List Int}(hi:l[i]?=some c):Zo 5 x (J wA (i:Int))=some (.vp (.str c.1::c.2.map (.int .u64))):=h.idx (c:=QS c) (by simp[hi])
theorem Vr (n:Nat)(l:List AV)(g:l.length=n)(H:Hp):Z3 true n (.vp l) H=some (.agg l):=by
 subst g;simp[Z3,Go.Am.apart]
theorem EQ (H:Hp)(n:Nat)(l z:List AV)(g:l.length=n)(h:z.length=n):Za n (.ptr H.length 0) (.agg l) (H++[.cells z])=some (.tuple [],H++[.cells l]):=by
 rw[WN (sz:=n) (v:=.agg l) (VS _ _) rfl g (by omega)];simp[zV,splice,h,g]
theorem Zvi {x:AV}{l:List (List UInt8×List Int)}(h:Sl 5 x (l.map QS))(Q:l.length<=24)(hok:ZeA l)(E:Hp)(m:Nat):∀ (k i:Nat) (H:Hp) (z:List (AV×AV×Nat)) (c:Nat),l.length-i=k->i<=l.length ->
 H[m]?=some (.map z c)->AB z ((l.take i).map zK) ->
 ∃ H',Vk (.map m) x (J wA (l.length:Int)) (J wA (i:Int)) E H=some (J wA (M5 EW zK (l.drop i) ((l.take i).map zK)),H'):=by
 intro k
 induction k with
 |zero =>
  intro i H z c hk hi hm B;rw[Gg];have u:decide ((i:Int)<(l.length:Int))=false:=by simp;omega
  have K:l.drop i=[]:=zG.2 (by omega);simp only[go_sem,u,LG,K];exact⟨_,rfl⟩
 |succ k M =>
  intro i H z c hk hi hm B;rw[Gg];have j:i<l.length:=by omega
  have u:decide ((i:Int)<(l.length:Int))=true:=by simp;omega
  have hw:xZ.wrap ((i:Int)+1)=((i+1:Nat):Int):=by rw[Zp (by omega) (by omega)];omega
  obtain⟨F,A⟩:=hok l[i] (yK j);have g:(xA l[i].1::l[i].2.map (zN .u64)).length=5:=by simp[F]
  have C:=EQ H 5 _ [.str [],.int .u64 0,.int .u64 0,.int .u64 0,.int .u64 0] g rfl;simp only[go_sem,u,LH,h.cls (zC j),Vr 5 _ g,C,zF,ZH,zB,ZkJ _ A];rw[zH j,R6];have w:(H++[zA (xA l[i].1::l[i].2.map (zN .u64))])[m]?=some (.map z c):=Y3 hm _
  cases hb:VG l[i].1 with
  |false =>
   simp only[go_sem,zU,EW,hb,zD,if_false];exact⟨_,rfl⟩
  |true =>
   simp only[go_sem,yB,EW,hb,if_true,LJ,zF,ZH,zB,ZkU w B]
   cases I:((l.take i).map zK).contains l[i].1 with
   |true =>
    simp only[go_sem,if_true];exact⟨_,rfl⟩
   |false =>
    obtain⟨N,O⟩:=Znz w B I;simp only[go_sem,zD,if_false,LK,zF,ZH,zB,N,LI,hw]
    have D:(l.take (i+1)).map zK=(l.take i).map zK++[l[i].1]:=by
     rw[yC,zC j,yE];rfl
    rw[<-D];refine M (i+1) _ _ _ (by omega) (by omega) (Zq _ w) ?_;rw[D];exact O
theorem Zvj {x:AV}{l:List (List UInt8×List Int)}(h:Sl 5 x (l.map QS))(hok:ZeA l)(u:l.length<=4611686018427387904)(H:Hp):∃ H',Vy [x] H=some (J wA (AN l),H'):=by
 rw[Et];unfold FT AN;have hlen:=h.len 246;rw[zP]at hlen;simp only[go_sem,hlen];by_cases g:24<l.length
 ·have j:decide ((24:Int)<(l.length:Int))=true:=by simp;omega
  simp only[j,go_sem,g,if_true];exact⟨_,rfl⟩
 ·have j:decide ((24:Int)<(l.length:Int))=false:=by simp;omega
  simp only[j,go_sem,g,if_false,LF,hlen];have:=Zvi h (by omega) hok H H.length l.length 0 (H++[.map [] 0]) [] 0 (by omega) (by omega) (VS H _) rfl;rw[show ((0:Nat):Int)=0 from rfl,zQ,yM]at this;exact this
theorem Zym {x:AV}{l:List (List UInt8×List Int)}(h:Sl 5 x (l.map QS))(K:l.length<=24)(B H:Hp){i:Nat}{n:List UInt8}{q:List Int}(hi:l[i]?=some (n,q)):∀ (k j:Nat),i-j=k->j<=i ->
 UI x (J wA (i:Int)) (J wA (j:Int)) B H=if (((l.take i).map zK).drop j).contains n then some (J wA 6,H) else KV x (J wA (i:Int)) B H:=by
 intro k
 have D:i<l.length:=by
  rcases xV i l.length with u|u
  ·exact u
  ·rw[xB u]at hi;cases hi
 induction k with
 |zero =>
  intro j hk E;rw[DD];have g:decide ((j:Int)<(i:Int))=false:=by simp;omega
  have C:((l.take i).map zK).drop j=[]:=zG.2 (by simp;omega);simp only[go_sem,g,C,xM,zD,if_false]
 |succ k I =>
  intro j hk E;rw[DD];have z:j<l.length:=by omega
  have g:decide ((j:Int)<(i:Int))=true:=by simp;omega
  have hw:xZ.wrap ((j:Int)+1)=((j+1:Nat):Int):=by rw[Zp (by omega) (by omega)];omega
  have w:((l.take i).map zK).drop j=l[j].1::((l.take i).map zK).drop (j+1):=by
   rw[zH (by simp;omega)];simp
  rw[w,yD];simp only[go_sem,g,AH,h.cls (zC z),h.cls hi,Zx];have F:Yx .eql (.str l[j].1) (.str n)=some (.bool (l[j].1==n)):=rfl;have A:(n==l[j].1)=(l[j].1==n):=by rw[zS,beq_iff_eq,beq_iff_eq];exact eq_comm
  simp only[Lr,Zx,F,go_sem,A]
  cases hb:(l[j].1==n) with
  |true=>simp only[go_sem,zO,if_true]
  |false =>
   simp only[go_sem,zT,AI,hw];exact I (j+1) (by omega) (by omega)
theorem Zu3 {x:AV}{l:List (List UInt8×List Int)}(h:Sl 5 x (l.map QS))(B:l.length<=24)(hok:ZeA l)(z H:Hp):∀ (k i:Nat),l.length-i=k->i<=l.length ->
 UH x (J wA (i:Int)) z H=some (J wA (M5 EW zK (l.drop i) ((l.take i).map zK)),H):=by
 have hlen:=h.len 246;rw[zP]at hlen;intro k
 induction k with
 |zero =>
  intro i hk hi;rw[DC];have j:decide ((i:Int)<(l.length:Int))=false:=by simp;omega
  have A:l.drop i=[]:=zG.2 (by omega);simp only[go_sem,hlen,j,AD,A];rfl
 |succ k D =>
  intro i hk hi;rw[DC];have g:i<l.length:=by omega
  have j:decide ((i:Int)<(l.length:Int))=true:=by simp;omega
  have hw:xZ.wrap ((i:Int)+1)=((i+1:Nat):Int):=by rw[Zp (by omega) (by omega)];omega
  obtain⟨E,w⟩:=hok l[i] (yK g);simp only[go_sem,hlen,j,AE,h.cls (zC g),Lr,Zx,ZiS _ w];rw[zH g,R6]
  cases hb:VG l[i].1 with
  |false=>simp only[go_sem,zU,EW,hb,zD,if_false]
  |true =>
   have u:=Zym h B z H (zC g) i 0 (by omega) (by omega);rw[zQ,show ((0:Nat):Int)=0 from rfl]at u;simp only[go_sem,yB,EW,hb,if_true,AG,u]
   have C:(l.take (i+1)).map zK=(l.take i).map zK++[l[i].1]:=by
    rw[yC,zC g,yE];rfl
   cases F:((l.take i).map zK).contains l[i].1 with
   |true=>simp only[if_true]
   |false =>
    simp only[zD,if_false,AF,go_sem,hw];rw[D (i+1) (by omega) (by omega),C]
theorem Zu4 {x:AV}{l:List (List UInt8×List Int)}(h:Sl 5 x (l.map QS))(hok:ZeA l)(H:Hp):Q9 [x] H=some (J wA (AN l),H):=by
 rw[Ih];unfold Nf AN;have hlen:=h.len 246;rw[zP]at hlen;simp only[go_sem,hlen];by_cases g:24<l.length
 ·have j:decide ((24:Int)<(l.length:Int))=true:=by simp;omega
  simp only[j,go_sem,g,if_true]
 ·have j:decide ((24:Int)<(l.length:Int))=false:=by simp;omega
  simp only[j,go_sem,g,if_false,AC];have:=Zu3 h (by omega) hok H H l.length 0 (by omega) (by omega);rw[show ((0:Nat):Int)=0 from rfl,zQ,yM]at this;exact this
def Df (c:List UInt8×Int):AV:=.agg [.str c.1,J wA c.2]
def Za4 (c:List UInt8×Int):Option Int:=if (c.1.length != 2 || (decide (c.2<0) || decide (65535<c.2)))=true then some 2 else none
def Sd (l:List (List UInt8×Int)):Int:=if 64<l.length then 3 else M5 Za4 zK l []
def ZeB (l:List (List UInt8×Int)):Prop:=∀ c∈l,c.1.length<=4611686018427387904
theorem Sl.els {x:AV}{l:List (List UInt8×Int)}(h:Sl 2 x (l.map Df)){i:Nat}{c:List UInt8×Int}(hi:l[i]?=some c):Zo 2 x (J wA (i:Int))=some (.vp [.str c.1,J wA c.2]):=h.idx (c:=Df c) (by simp[hi])
theorem ZpV (a:AV)(l:List AV):Z6 1 (.vp (a::l))=some (.vp l):=by simp[Z6]
theorem Zr4 (n:Int)(H:Hp):Ds [J wA n] H=some (.bool (!(decide (n<0) || decide (65535<n))),H):=by
 rw[Zje];unfold Zfv;have g:decide ((0:Int)<=n)=!decide (n<0):=by rw[zS];simp
 have h:decide (n<=(65535:Int))=!decide (65535<n):=by rw[zS];simp
 simp only[go_sem,g]
 cases j:decide (n<0) with
 |true=>simp only[go_sem,yB,zO]
 |false=>simp only[go_sem,zU,zT,h]
theorem Zix (n:Int)(H:Hp):Zh Ds [J wA n] H=some (.bool (!(decide (n<0) || decide (65535<n))),H):=XO rfl (Zr4 n []) rfl
theorem ZvE {x:AV}{l:List (List UInt8×Int)}(h:Sl 2 x (l.map Df))(R:l.length<=64)(hok:ZeB l)(C:Hp)(m:Nat):∀ (k i:Nat) (H:Hp) (w:List (AV×AV×Nat)) (c:Nat),l.length-i=k->i<=l.length ->
 H[m]?=some (.map w c)->AB w ((l.take i).map zK) ->
 ∃ H',WS (.map m) x (J wA (l.length:Int)) (J wA (i:Int)) C H=some (J wA (M5 Za4 zK (l.drop i) ((l.take i).map zK)),H'):=by
 intro k
 induction k with
 |zero =>
  intro i H w c hk hi hm z;rw[KA];have j:decide ((i:Int)<(l.length:Int))=false:=by simp;omega
  have K:l.drop i=[]:=zG.2 (by omega);simp only[go_sem,j,Mk,K];exact⟨_,rfl⟩
 |succ k N =>
  intro i H w c hk hi hm z;rw[KA];have g:i<l.length:=by omega
  have j:decide ((i:Int)<(l.length:Int))=true:=by simp;omega
  have hw:xZ.wrap ((i:Int)+1)=((i+1:Nat):Int):=by rw[Zp (by omega) (by omega)];omega
  have M:=hok l[i] (yK g);have A:=EQ H 2 [.str l[i].1,J wA l[i].2] [.str [],J wA 0] rfl rfl;simp only[go_sem,j,Ml,h.els (zC g),Vr 2 [.str l[i].1,J wA l[i].2] rfl,A,zF,ZH,zB,zE,YK];rw[zH g,R6];have u:(H++[zA [xA l[i].1,zN .i64 l[i].2]])[m]?=some (.map w c):=Y3 hm _;have D:((l[i].1.length:Int) != 2)=(l[i].1.length != 2):=by rw[zS];simp;omega
  rw[D];unfold Za4
  cases hb:(l[i].1.length != 2) with
  |true=>simp only[go_sem,zO,if_true];exact⟨_,rfl⟩
  |false =>
  simp only[go_sem,zT,zF,ZH,zB,zE]
  cases E:decide (l[i].2<0) with
  |true=>simp only[go_sem,zO,if_true];exact⟨_,rfl⟩
  |false =>
  simp only[go_sem,zT,zF,ZH,zB,zE]
  cases F:decide (65535<l[i].2) with
  |true=>simp only[go_sem,if_true];exact⟨_,rfl⟩
  |false =>
   simp only[go_sem,zD,if_false,Mn,zF,ZH,zB,ZkU u z]
   cases I:((l.take i).map zK).contains l[i].1 with
   |true =>
    simp only[go_sem,if_true];exact⟨_,rfl⟩
   |false =>
    obtain⟨O,Q⟩:=Znz u z I;simp only[go_sem,zD,if_false,Mo,zF,ZH,zB,O,Mm,hw]
    have B:(l.take (i+1)).map zK=(l.take i).map zK++[l[i].1]:=by
     rw[yC,zC g,yE];rfl
    rw[<-B];refine N (i+1) _ _ _ (by omega) (by omega) (Zq _ u) ?_;rw[B];exact Q
theorem ZvF {x:AV}{l:List (List UInt8×Int)}(h:Sl 2 x (l.map Df))(hok:ZeB l)(u:l.length<=4611686018427387904)(H:Hp):∃ H',Vd [x] H=some (J wA (Sd l),H'):=by
 rw[Lg];unfold Dx Sd;have hlen:=h.len 189;rw[zP]at hlen;simp only[go_sem,hlen];by_cases g:64<l.length
 ·have j:decide ((64:Int)<(l.length:Int))=true:=by simp;omega
  simp only[j,go_sem,g,if_true];exact⟨_,rfl⟩
 ·have j:decide ((64:Int)<(l.length:Int))=false:=by simp;omega
  simp only[j,go_sem,g,if_false,Mj,hlen];have:=ZvE h (by omega) hok H H.length l.length 0 (H++[.map [] 0]) [] 0 (by omega) (by omega) (VS H _) rfl;rw[show ((0:Nat):Int)=0 from rfl,zQ,yM]at this;exact this
theorem Zyo {x:AV}{l:List (List UInt8×Int)}(h:Sl 2 x (l.map Df))(K:l.length<=64)(B H:Hp){i:Nat}{n:List UInt8}{q:Int}(hi:l[i]?=some (n,q)):∀ (k j:Nat),i-j=k->j<=i ->
 U4 x (J wA (i:Int)) (J wA (j:Int)) B H=if (((l.take i).map zK).drop j).contains n then some (J wA 6,H) else JI x (J wA (i:Int)) B H:=by
 intro k
 have D:i<l.length:=by
  rcases xV i l.length with u|u
  ·exact u
  ·rw[xB u]at hi;cases hi
 induction k with
 |zero =>
  intro j hk E;rw[Bn];have g:decide ((j:Int)<(i:Int))=false:=by simp;omega
  have C:((l.take i).map zK).drop j=[]:=zG.2 (by simp;omega);simp only[go_sem,g,C,xM,zD,if_false]
 |succ k I =>
  intro j hk E;rw[Bn];have z:j<l.length:=by omega
  have g:decide ((j:Int)<(i:Int))=true:=by simp;omega
  have hw:xZ.wrap ((j:Int)+1)=((j+1:Nat):Int):=by rw[Zp (by omega) (by omega)];omega
  have w:((l.take i).map zK).drop j=l[j].1::((l.take i).map zK).drop (j+1):=by
   rw[zH (by simp;omega)];simp
  rw[w,yD];simp only[go_sem,g,Cv,h.els (zC z),h.els hi,Zx];have F:Yx .eql (.str l[j].1) (.str n)=some (.bool (l[j].1==n)):=rfl;have A:(n==l[j].1)=(l[j].1==n):=by rw[zS,beq_iff_eq,beq_iff_eq];exact eq_comm
  simp only[Lr,Zx,F,go_sem,A]
  cases hb:(l[j].1==n) with
  |true=>simp only[go_sem,zO,if_true]
  |false =>
   simp only[go_sem,zT,Cw,hw];exact I (j+1) (by omega) (by omega)
theorem Zu9 {x:AV}{l:List (List UInt8×Int)}(h:Sl 2 x (l.map Df))(C:l.length<=64)(hok:ZeB l)(w H:Hp):∀ (k i:Nat),l.length-i=k->i<=l.length ->
 U3 x (J wA (i:Int)) w H=some (J wA (M5 Za4 zK (l.drop i) ((l.take i).map zK)),H):=by
 have hlen:=h.len 189;rw[zP]at hlen;intro k
 induction k with
 |zero =>
  intro i hk hi;rw[Bm];have j:decide ((i:Int)<(l.length:Int))=false:=by simp;omega
  have B:l.drop i=[]:=zG.2 (by omega);simp only[go_sem,hlen,j,Cr,B];rfl
 |succ k F =>
  intro i hk hi;rw[Bm];have g:i<l.length:=by omega
  have j:decide ((i:Int)<(l.length:Int))=true:=by simp;omega
  have hw:xZ.wrap ((i:Int)+1)=((i+1:Nat):Int):=by rw[Zp (by omega) (by omega)];omega
  have D:=hok l[i] (yK g);simp only[go_sem,hlen,j,Cs,h.els (zC g),Lr,Zx,YK];rw[zH g,R6];have z:((l[i].1.length:Int) != 2)=(l[i].1.length != 2):=by rw[zS];simp;omega
  rw[z];unfold Za4
  cases hb:(l[i].1.length != 2) with
  |true=>simp only[go_sem,zO,if_true]
  |false =>
  simp only[go_sem,zT,h.els (zC g),ZpV,Zx,Zix,xW]
  cases A:(decide (l[i].2<0) || decide (65535<l[i].2)) with
  |true=>simp only[go_sem,if_true]
  |false =>
   have u:=Zyo h C w H (zC g) i 0 (by omega) (by omega);rw[zQ,show ((0:Nat):Int)=0 from rfl]at u;simp only[go_sem,zD,if_false,Cu,u]
   have E:(l.take (i+1)).map zK=(l.take i).map zK++[l[i].1]:=by
    rw[yC,zC g,yE];rfl
   cases I:((l.take i).map zK).contains l[i].1 with
   |true=>simp only[if_true]
   |false =>
    simp only[zD,if_false,Ct,go_sem,hw];rw[F (i+1) (by omega) (by omega),E];rfl
theorem Zua {x:AV}{l:List (List UInt8×Int)}(h:Sl 2 x (l.map Df))(hok:ZeB l)(H:Hp):UE [x] H=some (J wA (Sd l),H):=by
 rw[Au];unfold TC Sd;have hlen:=h.len 189;rw[zP]at hlen;simp only[go_sem,hlen];by_cases g:64<l.length
 ·have j:decide ((64:Int)<(l.length:Int))=true:=by simp;omega
  simp only[j,go_sem,g,if_true]
 ·have j:decide ((64:Int)<(l.length:Int))=false:=by simp;omega
  simp only[j,go_sem,g,if_false,Cq];have:=Zu9 h (by omega) hok H H l.length 0 (by omega) (by omega);rw[show ((0:Nat):Int)=0 from rfl,zQ,yM]at this;exact this
structure Loc where
 name:List UInt8
 w:List Int
 lo:List UInt8
 up:List UInt8
 cls:List (List UInt8×List Int)
 els:List (List UInt8×Int)
def Loc.cells (x c e:AV)(L:Loc):List AV:=[.str L.name,x,.str L.lo,.str L.up,c,e]
def LocAV (a:AV)(L:Loc):Prop:=∃ x c e,a=.agg (L.cells x c e)/\Sl 1 x (L.w.map (zN .i64))/\Sl 5 c (L.cls.map QS)/\Sl 2 e (L.els.map Df)
structure LocOk (L:Loc):Prop where
 name:L.name.length<=4611686018427387904
 w:L.w.length<=4611686018427387904
 lo:L.lo.length<=4611686018427387904
 up:L.up.length<=4611686018427387904
 cls:ZeA L.cls
 els:ZeB L.els
 ncls:L.cls.length<=4611686018427387904
 nels:L.els.length<=4611686018427387904
theorem Ho (c:List UInt8×List Int)(H:Hp)(n f:Nat):Ze H n (f+2) (QS c)=some (QS c):=by
 have:(xA c.1::c.2.map (zN .u64)).mapM (Ze H n (f+1))=some (xA c.1::c.2.map (zN .u64)):=O4 fun x hx=>by
  rcases List.mem_cons.1 hx with rfl|hx
  ·rfl
  ·obtain⟨m,_,rfl⟩:=zR.1 hx;rfl
 rw[QS,KM,this]
theorem Za5 (c:List UInt8×Int)(H:Hp)(n f:Nat):Ze H n (f+2) (Df c)=some (Df c):=(Eq.refl _).trans (Eq.refl _)
theorem LocAV.close {a:AV}{L:Loc}(h:LocAV a L)(H:Hp)(n f:Nat):∃ a',Ze H n (f+4) a=some a'/\LocAV a' L:=by
 obtain⟨x,c,e,rfl,hx,D,E⟩:=h;obtain⟨C,A,B⟩:=hx.close (H:=H) (n:=n) (f:=f+2) (fun y hy=>by obtain⟨m,_,rfl⟩:=zR.1 hy;rfl);obtain⟨c',j,u⟩:=D.close (H:=H) (n:=n) (f:=f+2) (fun y hy=>by obtain⟨m,_,rfl⟩:=zR.1 hy;exact Ho m H n f);obtain⟨g,w,z⟩:=E.close (H:=H) (n:=n) (f:=f+2) (fun y hy=>by obtain⟨m,_,rfl⟩:=zR.1 hy;exact Za5 m H n f);refine⟨.agg (L.cells C c' g),?_,C,c',g,rfl,B,u,z⟩
 have:(L.cells x c e).mapM (Ze H n (f+3))=some (L.cells C c' g):=by
  simp only[Loc.cells,xF,A,j,w,yU];rfl
 rw[KM,this]
theorem Zmi {x:AV}{l:List (List UInt8×List Int)}(h:Sl 5 x (l.map QS))(hok:ZeA l)(w:l.length<=4611686018427387904)(H:Hp):Zh Vy [x] H=some (J wA (AN l),H)/\Zh Q9 [x] H=some (J wA (AN l),H):=by
 obtain⟨z,g,j⟩:=h.close (H:=[]) (n:=0) (f:=8) (fun y hy=>by obtain⟨m,_,rfl⟩:=zR.1 hy;exact Ho m [] 0 6);obtain⟨H',u⟩:=Zvj j hok w [];exact⟨XO g u rfl,XO g (Zu4 j hok []) rfl⟩
theorem ZmC {x:AV}{l:List (List UInt8×Int)}(h:Sl 2 x (l.map Df))(hok:ZeB l)(w:l.length<=4611686018427387904)(H:Hp):Zh Vd [x] H=some (J wA (Sd l),H)/\Zh UE [x] H=some (J wA (Sd l),H):=by
 obtain⟨z,g,j⟩:=h.close (H:=[]) (n:=0) (f:=8) (fun y hy=>by obtain⟨m,_,rfl⟩:=zR.1 hy;exact Za5 m [] 0 6);obtain⟨H',u⟩:=ZvF j hok w [];exact⟨XO g u rfl,XO g (Zua j hok []) rfl⟩
def Zhb (n:Int):Bool:=decide (n<0) || decide (65535<n)
def ZaY (L:Loc):Int:=if (AN L.cls != 0)=true then AN L.cls else Sd L.els
def Wg (L:Loc):Int :=
 if VG L.name then (if (L.w.length != 256 || (L.lo.length != 256 || L.up.length != 256))=true then 2 else if L.w.any Zhb then 2 else ZaY L) else 4
theorem Sl.ints {x:AV}{l:List Int}(h:Sl 1 x (l.map (zN .i64))){i:Nat}(hi:i<l.length):Zo 1 x (J wA (i:Int))=some (.vp [J wA l[i]]):=h.idx (c:=J wA l[i]) (by simp[hi])
theorem IL (n:Nat):((n:Int) != 256)=(n != 256):=by rw[zS];simp;omega
theorem Ztp {x c e:AV}{L:Loc}(hx:Sl 1 x (L.w.map (zN .i64)))(A:Sl 5 c (L.cls.map QS))(C:Sl 2 e (L.els.map Df))(hok:LocOk L)(D:L.w.length=256)(u H:Hp){o:Nat}(j:H[o]?=some (.cells (L.cells x c e))):∀ (k i:Nat),L.w.length-i=k->i<=L.w.length ->
 Gf (.ptr o 0) x (J wA (L.w.length:Int)) (J wA (i:Int)) u H=some (J wA (if (L.w.drop i).any Zhb then 2 else ZaY L),H):=by
 intro k
 induction k with
 |zero =>
  intro i hk hi;rw[NM];have g:decide ((i:Int)<(L.w.length:Int))=false:=by simp;omega
  have B:L.w.drop i=[]:=zG.2 (by omega);simp only[go_sem,g,B,xX,zD,if_false,Zeb,zF,Y2 j,Loc.cells,zB,zE,(Zmi A hok.cls hok.ncls H).1];unfold ZaY
  cases z:(AN L.cls != 0) with
  |true=>simp only[go_sem,if_true]
  |false=>simp only[go_sem,zD,if_false,Zec,zF,Y2 j,Loc.cells,zB,zE,(ZmC C hok.els hok.nels H).1]
 |succ k E =>
  intro i hk hi;rw[NM];have h:i<L.w.length:=by omega
  have g:decide ((i:Int)<(L.w.length:Int))=true:=by simp;omega
  have hw:xZ.wrap ((i:Int)+1)=((i+1:Nat):Int):=by rw[Zp (by omega) (by omega)];omega
  simp only[go_sem,g,Zed,hx.ints h,Zx];rw[zH h,xT];unfold Zhb
  cases z:decide (L.w[i]<0) with
  |true=>simp only[go_sem,zO,if_true]
  |false =>
   simp only[go_sem,zT]
   cases F:decide (65535<L.w[i]) with
   |true=>simp only[go_sem,zO,if_true]
   |false =>
    simp only[go_sem,zT,Zee,hw];exact E (i+1) (by omega) (by omega)
theorem Ztq {a:AV}{L:Loc}(h:LocAV a L)(hok:LocOk L)(H:Hp):∃ H',GS [a] H=some (J wA (Wg L),H'):=by
 obtain⟨x,c,e,rfl,hx,u,z⟩:=h;rw[ZeV];unfold Iq Wg;have hlen:=hx.len 3;rw[zP]at hlen;have A:=VS H (.cells (L.cells x c e));simp only[go_sem,zF,ZH,Loc.cells,zB,zE,ZkJ L.name hok.name]
 cases hn:VG L.name with
 |false=>simp only[go_sem,zU,zD,if_false];exact⟨_,rfl⟩
 |true =>
 simp only[go_sem,yB,if_true,Ze9,zF,ZH,zB,zE,hlen,IL]
 cases j:(L.w.length != 256) with
 |true=>simp only[go_sem,zO,if_true];exact⟨_,rfl⟩
 |false =>
 simp only[go_sem,zT,zF,ZH,zB,zE,YK,IL]
 cases B:(L.lo.length != 256) with
 |true=>simp only[go_sem,zO,if_true];exact⟨_,rfl⟩
 |false =>
 simp only[go_sem,zT,zF,ZH,zB,zE,YK,IL]
 cases C:(L.up.length != 256) with
 |true=>simp only[go_sem,if_true];exact⟨_,rfl⟩
 |false =>
 have g:L.w.length=256:=by simpa using j
 have:=Ztp hx u z hok g H (H++[.cells (L.cells x c e)]) A L.w.length 0 (by omega) (by omega);rw[show ((0:Nat):Int)=0 from rfl,zQ]at this;simp only[Loc.cells]at this;simp only[go_sem,zD,if_false,Zea,zF,ZH,zB,zE,hlen,this];exact⟨_,rfl⟩
theorem ZrC {x c e:AV}{L:Loc}(hx:Sl 1 x (L.w.map (zN .i64)))(A:Sl 5 c (L.cls.map QS))(C:Sl 2 e (L.els.map Df))(hok:LocOk L)(D:L.w.length=256)(u H:Hp){o:Nat}(j:H[o]?=some (.cells (L.cells x c e))):∀ (k i:Nat),256-i=k->i<=256 ->
 RA (.ptr o 0) (J wA (i:Int)) u H=some (J wA (if (L.w.drop i).any Zhb then 2 else if (L.lo.length != 256 || L.up.length != 256)=true then 2 else ZaY L),H):=by
 intro k
 induction k with
 |zero =>
  intro i hk hi;rw[CV];have g:decide ((i:Int)<256)=false:=by simp;omega
  have B:L.w.drop i=[]:=zG.2 (by omega);simp only[go_sem,g,B,xX,zD,if_false,Zhv,zF,Y2 j,Loc.cells,zB,zE,YK,IL]
  cases F:(L.lo.length != 256) with
  |true=>simp only[go_sem,zO,if_true]
  |false =>
  simp only[go_sem,zT,zF,Y2 j,Loc.cells,zB,zE,YK,IL]
  cases I:(L.up.length != 256) with
  |true=>simp only[go_sem,if_true]
  |false =>
  simp only[go_sem,zD,if_false,Zhw,zF,Y2 j,Loc.cells,zB,zE,(Zmi A hok.cls hok.ncls H).2];unfold ZaY
  cases z:(AN L.cls != 0) with
  |true=>simp only[go_sem,if_true]
  |false=>simp only[go_sem,zD,if_false,Zhx,zF,Y2 j,Loc.cells,zB,zE,(ZmC C hok.els hok.nels H).2]
 |succ k E =>
  intro i hk hi;rw[CV];have h:i<L.w.length:=by omega
  have g:decide ((i:Int)<256)=true:=by simp;omega
  have hw:xZ.wrap ((i:Int)+1)=((i+1:Nat):Int):=by rw[Zp (by omega) (by omega)];omega
  simp only[go_sem,g,Zhy,zF,Y2 j,Loc.cells,zB,zE,hx.ints h,Zx,Zix,xW];rw[zH h,xT];have e:(decide (L.w[i]<0) || decide (65535<L.w[i]))=Zhb L.w[i]:=rfl;rw[e]
  cases z:Zhb L.w[i] with
  |true=>simp only[go_sem,zO,if_true]
  |false =>
   simp only[go_sem,zT,Zhz,hw];exact E (i+1) (by omega) (by omega)
theorem ZrD {a:AV}{L:Loc}(h:LocAV a L)(hok:LocOk L)(H:Hp):∃ H',PX [a] H=some (J wA (Wg L),H'):=by
 obtain⟨x,c,e,rfl,hx,u,z⟩:=h;rw[Zjc];unfold Zft Wg;have hlen:=hx.len 3;rw[zP]at hlen;have A:=VS H (.cells (L.cells x c e));simp only[go_sem,zF,ZH,Loc.cells,zB,zE,ZiS L.name hok.name]
 cases hn:VG L.name with
 |false=>simp only[go_sem,zU,zD,if_false];exact⟨_,rfl⟩
 |true =>
 simp only[go_sem,yB,if_true,Zht,zF,ZH,zB,zE,hlen,IL]
 cases j:(L.w.length != 256) with
 |true=>simp only[go_sem,zO,if_true];exact⟨_,rfl⟩
 |false =>
 have g:L.w.length=256:=by simpa using j
 have:=ZrC hx u z hok g H (H++[.cells (L.cells x c e)]) A 256 0 (by omega) (by omega);rw[show ((0:Nat):Int)=0 from rfl,zQ]at this;simp only[Loc.cells]at this;simp only[go_sem,zT,Zhu,this];refine⟨_,congrArg some (Prod.ext (congrArg (zN .i64) ?_) rfl)⟩;cases B:(L.lo.length != 256 || L.up.length != 256) <;> cases C:L.w.any Zhb <;> simp
theorem ZkA {a:AV}{L:Loc}(h:LocAV a L)(hok:LocOk L)(H:Hp):Zh GS [a] H=some (J wA (Wg L),H)/\Zh PX [a] H=some (J wA (Wg L),H):=by
 obtain⟨a',g,j⟩:=h.close [] 0 5;obtain⟨H',w⟩:=Ztq j hok [];obtain⟨u,z⟩:=ZrD j hok [];exact⟨XO g w rfl,XO g z rfl⟩
set_option maxRecDepth 1000000
def defL:Loc:={
 name:=[112,111,115,105,120]
 w:=(yQ 256).map Int.ofNat
 lo:=(yQ 256).map fun n=>yG (if 65<=n/\n<=90 then n+32 else n)
 up:=(yQ 256).map fun n=>yG (if 97<=n/\n<=122 then n-32 else n)
 cls:=[]
 els:=[] }
def Ze1:List AV->Option (List Int)
 |[]=>some []
 |J wA n::r=>match Ze1 r with
  |some l=>some (n::l)
  |none=>none
 |_=>none
theorem ZoK:∀ {l:List AV} {r:List Int},Ze1 l=some r->l=r.map (zN .i64):=by
 intro l
 induction l with
 |nil=>intro r h;simp[Ze1]at h;subst h;rfl
 |cons a l w =>
  intro r h;unfold Ze1 at h;split at h
  ·rename_i g;cases g
  ·rename_i n z g;injection g with j u;subst j u;split at h
   ·rename_i m hm;injection h with h;subst h;rw[w hm];rfl
   ·cases h
  ·cases h
def ZlK (L:Loc)(r:Z5):Bool :=
 match r with
 |some (v,H1)=>match Ze H1 0 9 v with
  |some (.agg [.str n,.vs 1 .no l,.str lo,.str up,.nils,.nils])=>n==L.name&&(Ze1 l==some L.w&&(lo==L.lo&&(up==L.up&&(L.cls.isEmpty&&L.els.isEmpty))))
  |_=>false
 |none=>false
theorem Ziu {f:List AV->Hp->Z5}{L:Loc}{x:Z5}(hx:ZlK L x=true)(C:∀ r,x=some r->f [] []=some r)(H:Hp):∃ a,Zh f [] H=some (a,H)/\LocAV a L:=by
 unfold ZlK at hx;split at hx
 ·rename_i v H1;split at hx
  ·rename_i n l lo up g;simp only[yN,beq_iff_eq,List.isEmpty_iff]at hx;obtain⟨h,j,u,w,z,A⟩:=hx;have B:=C _ rfl;refine⟨.agg [.str n,.vs 1 .no l,.str lo,.str up,.nils,.nils],?_,.vs 1 .no l,.nils,.nils,?_,.inr ⟨.no,?_⟩,.inl ⟨rfl,by rw[z];rfl⟩,.inl ⟨rfl,by rw[A];rfl⟩⟩
   ·unfold Zh;simp only[yU];show (match f [] [] with|some (v,H1)=>_|none=>_)=_;rw[B];simp only[g]
   ·rw[h,u,w];rfl
   ·rw[ZoK j]
  ·cases hx
 ·cases hx
theorem YY {α:Type}{x:Option α}{f g:α->Z5}{r:AV×Hp}(h:∀ a,f a=some r->g a=some r):Z0 x f=some r->Z0 x g=some r:=by
 cases x with
 |none=>exact id
 |some a=>exact h a
theorem IN {c:AV}{x y g h:Z5}{r:AV×Hp}(j:x=some r->g=some r)(u:y=some r->h=some r):Zj c x y=some r->Zj c g h=some r:=by
 unfold Zj;split
 ·split
  ·exact j
  ·exact u
 ·exact id
def dfD (k:AV->AV->AV->Hp->Z5)(u z A w B C:AV)(H:Hp):Z5 :=
 Z0 (Z6 1 u) fun a =>
 Z0 (Z3 false 1 a H) fun b =>
 Z0 ((ZB 1 [(0,w)] [(J wA 0)]).map (.vs 1 .clip)) fun c =>
 Z0 (Y9 1 8 b c H) fun d =>
 Z0 (Z6 1 u) fun e =>
 Z0 (Za 1 e d.1 d.2) fun f =>
 Z0 ((ZB 1 [(0,B)] [(.int .u8 0)]).map (.vs 1 .clip)) fun g =>
 Z0 (Y9 1 1 z g f.2) fun h =>
 Z0 ((ZB 1 [(0,C)] [(.int .u8 0)]).map (.vs 1 .clip)) fun i =>
 Z0 (Y9 1 1 A i h.2) fun j =>
 Z0 (Z4 .add w (J wA 1)) fun l =>
 k h.1 j.1 l j.2
def dfC (k:AV->AV->AV->Hp->Z5)(h j u g w z:AV)(H:Hp):Z5 :=
 Z0 (Z4 .geq g (J wA 97)) fun a =>
 Z0 (Z7 a true am (some g)) fun b =>
 Z0 (Z7 a true am (Z4 .leq b (J wA 122))) fun c =>
 Z0 (Zi a c (.bool false)) fun d =>
 Zj d (Z0 (Z4 .sub g (J wA 32)) fun e=>Z0 (Yr .u8 e) fun f=>dfD k h j u g w f H) (dfD k h j u g w z H)
def dfB (k:AV->AV->AV->Hp->Z5)(h j u g:AV)(H:Hp):Z5 :=
 Z0 (Yr .u8 g) fun z =>
 Z0 (Yr .u8 g) fun w =>
 Z0 (Z4 .geq g (J wA 65)) fun a =>
 Z0 (Z7 a true am (some g)) fun b =>
 Z0 (Z7 a true am (Z4 .leq b (J wA 90))) fun c =>
 Z0 (Zi a c (.bool false)) fun d =>
 Zj d (Z0 (Z4 .add g (J wA 32)) fun e=>Z0 (Yr .u8 e) fun f=>dfC k h j u g f w H) (dfC k h j u g z w H)
def dfA (u j w z:AV)(H:Hp):Z5 :=
 Z0 (UX w H) fun a =>
 Z0 (Z6 2 j) fun b =>
 Z0 (Za 1 b a H) fun c =>
 Z0 (UX z c.2) fun d =>
 Z0 (Z6 3 j) fun e =>
 Z0 (Za 1 e d c.2) fun f =>
 Z0 (Z3 true 6 j f.2) fun g =>
 Z0 (Za 6 u g f.2) fun h =>
 Z0 (Z3 true 6 u h.2) fun i =>
 some (i,h.2)
def dfL (h g:AV):Nat->AV->AV->AV->Hp->Z5
 |0,_,_,_,_=>none
 |n+1,x2,x3,x4,H=>Z0 (Z4 .lss x4 (J wA 256)) fun t=>Zj t (dfB (dfL h g n) g x2 x3 x4 H) (dfA h g x2 x3 H)
theorem ZsO {k k':AV->AV->AV->Hp->Z5}{r:AV×Hp}(h:∀ a b c H,k a b c H=some r->k' a b c H=some r)(g j u w z A:AV)(H:Hp):dfD k g j u w z A H=some r->dfD k' g j u w z A H=some r:=by
 unfold dfD;repeat refine YY fun _=>?_
 exact h _ _ _ _
theorem ZsM {k k':AV->AV->AV->Hp->Z5}{r:AV×Hp}(h:∀ a b c H,k a b c H=some r->k' a b c H=some r)(g j u w z A:AV)(H:Hp):dfC k g j u w z A H=some r->dfC k' g j u w z A H=some r:=by
 unfold dfC;repeat refine YY fun _=>?_
 exact IN (YY fun _=>YY fun _=>ZsO h _ _ _ _ _ _ _) (ZsO h _ _ _ _ _ _ _)
theorem ZyX {k k':AV->AV->AV->Hp->Z5}{r:AV×Hp}(h:∀ a b c H,k a b c H=some r->k' a b c H=some r)(g j u w:AV)(H:Hp):dfB k g j u w H=some r->dfB k' g j u w H=some r:=by
 unfold dfB;repeat refine YY fun _=>?_
 exact IN (YY fun _=>YY fun _=>ZsM h _ _ _ _ _ _ _) (ZsM h _ _ _ _ _ _ _)
theorem ZyZ (g j:AV)(A:Hp){r:AV×Hp}:∀ (n:Nat) (u w z:AV) (H:Hp),dfL g j n u w z H=some r->Jh g j u w z A H=some r:=by
 intro n
 induction n with
 |zero=>intro _ _ _ _ h;cases h
 |succ n B =>
  intro u w z H h;rw[Zf9];simp only[Zf4,Zf5,Zf7,Zf8,Zf6];exact YY (fun _=>IN (ZyX (k':=fun a b c H=>Jh g j a b c A H) B _ _ _ _ _) id) h
def dfR:Z5 :=
 Z0 ((YF [(0,1,(.str [112,111,115,105,120]))] [(.str []),.nils,(.str []),(.str []),.nils,.nils]).map .agg) fun a =>
 Z0 (Za 6 (.ptr 1 0) a [.cells [(.str []),.nils,(.str []),(.str []),.nils,.nils],.cells [(.str []),.nils,(.str []),(.str []),.nils,.nils]]) fun b =>
 dfL (.ptr 0 0) (.ptr 1 0) 300 .nils .nils (J wA 0) b.2
theorem ZxR:ZlK defL dfR=true:=by kernel_rfl
theorem KD (H:Hp):∃ a,Zh VL [] H=some (a,H)/\LocAV a defL:=Ziu ZxR (fun r h=>by
 rw[Zgd];unfold Zb5;simp only[V5];unfold dfR at h;exact YY (fun _=>YY fun _=>ZyZ _ _ _ _ _ _ _ _) h) H
def shA (g:AV)(H:Hp):Z5:=Z0 (UX g H) fun a=>some (a,H)
def shB (k:AV->Hp->Z5)(z A B w u:AV)(H:Hp):Z5 :=
 Z0 (Yr .u8 u) fun a =>
 Z0 (Zo 1 w u) fun b =>
 Z0 (Za 1 b a H) fun c =>
 Z0 (Yr .u8 u) fun d =>
 Z0 (Z4 .geq d z) fun e =>
 Z0 (Z7 e true am (some u)) fun f =>
 Z0 (Z7 e true am (Yr .u8 f)) fun g =>
 Z0 (Z7 e true am (some A)) fun h =>
 Z0 (Z7 e true am (Z4 .leq g h)) fun i =>
 Z0 (Zi e i (.bool false)) fun j =>
 Zj j (Z0 (Z4 .add u B) fun l=>Z0 (Yr .u8 l) fun m=>Z0 (Zo 1 w u) fun n=>Z0 (Za 1 n m c.2) fun o=>Z0 (Z4 .add u (J wA 1)) fun p=>k p o.2) (Z0 (Z4 .add u (J wA 1)) fun p=>k p c.2)
def shL (j u w h g:AV):Nat->AV->Hp->Z5
 |0,_,_=>none
 |n+1,x12,H=>Z0 (Z4 .lss x12 g) fun t=>Zj t (shB (shL j u w h g n) j u w h x12 H) (shA h H)
theorem Zzr (w z A B j:AV)(C:Hp){r:AV×Hp}:∀ (n:Nat) (g:AV) (H:Hp),shL w z A B j n g H=some r->J2 w z A B j g C H=some r:=by
 intro n
 induction n with
 |zero=>intro _ _ h;cases h
 |succ n u =>
  intro g H h;rw[ZaC];simp only[Zaz,ZaA,ZaB];refine YY (fun _=>IN ?_ id) h;unfold shB;repeat refine YY fun _=>?_
  exact IN (YY fun _=>YY fun _=>YY fun _=>YY fun _=>YY fun _=>u _ _) (YY fun _=>u _ _)
def shR (a b c:AV):Z5 :=
 Z0 (JM 1 1 false (.int .u8 0) (J wA 256) (J wA 256) []) fun r=>Z0 (Zk (.slice 5) r.1) fun t=>shL a b c r.1 t 300 (J wA 0) r.2
def Zxk (s:List UInt8)(r:Z5):Bool:=match r with
 |some (.str t,_)=>t==s
 |_=>false
theorem ZnB {a b c:AV}{s:List UInt8}(ha:[a,b,c].mapM (Ze [] 0 9)=some [a,b,c])(h:Zxk s (shR a b c)=true)(H:Hp):Zh V3 [a,b,c] H=some (.str s,H):=by
 unfold Zxk at h;split at h
 ·rename_i t H1 g;have:=eq_of_beq h;subst this;refine Wy ha (H1:=H1) ?_ rfl;rw[ZbH];unfold Eu;unfold shR at g;exact YY (fun _=>YY fun _=>Zzr _ _ _ _ _ _ _ _ _) g
 ·cases h
theorem ZzK (H:Hp):Zh V3 [(.int .u8 65),(.int .u8 90),(J wA 32)] H=some (.str defL.lo,H):=ZnB rfl (by kernel_rfl) H
theorem ZzL (H:Hp):Zh V3 [(.int .u8 97),(.int .u8 122),(J wA (-32))] H=some (.str defL.up,H):=ZnB rfl (by kernel_rfl) H
def dgA (g h:AV)(H:Hp):Z5 :=
 Z0 ((YF [(0,1,(.str [112,111,115,105,120])),(1,1,h),(2,1,.str defL.lo),(3,1,.str defL.up)] [(.str []),.nils,(.str []),(.str []),.nils,.nils]).map .agg) fun a =>
 Z0 (Za 6 g a H) fun b=>Z0 (Z3 true 6 g b.2) fun c=>some (c,b.2)
def dgL (h g j:AV):Nat->AV->Hp->Z5
 |0,_,_=>none
 |n+1,x6,H=>Z0 (Z4 .lss x6 j) fun t=>Zj t (Z0 (Zo 1 g x6) fun a=>Z0 (Za 1 a x6 H) fun b=>Z0 (Z4 .add x6 (J wA 1)) fun c=>dgL h g j n c b.2) (dgA h g H)
theorem Zz1 (j u w:AV)(z:Hp){r:AV×Hp}:∀ (n:Nat) (g:AV) (H:Hp),dgL j u w n g H=some r->QZ j u w g z H=some r:=by
 intro n
 induction n with
 |zero=>intro _ _ h;cases h
 |succ n A =>
  intro g H h;rw[Zay];simp only[Zav,Zaw,Zax,ZzK,ZzL,V5];exact YY (fun _=>IN (YY fun _=>YY fun _=>YY fun _=>A _ _) id) h
def dgR:Z5 :=
 Z0 (JM 1 8 false (J wA 0) (J wA 256) (J wA 256) [.cells [(.str []),.nils,(.str []),(.str []),.nils,.nils]]) fun r=>Z0 (Zk (.slice 3) r.1) fun t=>dgL (.ptr 0 0) r.1 t 300 (J wA 0) r.2
theorem ZxS:ZlK defL dgR=true:=by kernel_rfl
theorem Zmu (H:Hp):∃ a,Zh Fu [] H=some (a,H)/\LocAV a defL:=Ziu ZxS (fun r h=>by
 rw[ZbG];unfold Es;simp only[V5];unfold dgR at h;exact YY (fun _=>YY fun _=>Zz1 _ _ _ _ _ _ _) h) H
theorem ZhV:∀ (n:Nat) (l:List AV),l.length=n->Uv false 1 n l=l:=by
 intro n
 induction n with
 |zero=>intro l h;simp at h;subst h;rfl
 |succ n g =>
  intro l h
  cases l with
  |nil=>simp at h
  |cons a l =>
   have:l.length=n:=by simpa using h
   unfold Uv;simp[g l this]
theorem ZvP (l:List Int):((l.map (zN .i64)).map zV).flatten=l.map (zN .i64):=by
 induction l with
 |nil=>rfl
 |cons a l g=>simp[zV]at g ⊢;exact g
theorem ZuS (bytes:Nat)(hb:256*(bytes+1)<=140737488355328)(z:AV)(j:z.known=true)(g:z.cells.length=1)(H:Hp):JM 1 bytes false z (J wA 256) (J wA 256) H=some (.rs false 1 H.length 0 256 256,H++[.cells ((xG 256 z.cells).flatten)]):=by
 have h:Xe 256 bytes=true:=by simpa[Xe]using hb
 unfold JM;simp only;rw[if_pos ⟨by decide,by decide,j,g,by decide,h⟩,if_neg (by decide)];rfl
theorem ZvC {k:Nat}{x:AV}{l:List AV}(h:Sl k x l)(H:Hp):elems k x H=some l:=by
 rcases h with ⟨rfl,rfl⟩|⟨tok,rfl⟩
 ·rfl
 ·simp[elems]
theorem Zsb {x:AV}{l:List Int}(h:Sl 1 x (l.map (zN .i64))){H:Hp}{o n:Nat}{z:List AV}(j:H[o]?=some (.cells z))(u:z.length=n)(g:l.length=n)(hn:0<n) :
 Hi 1 (.rs false 1 o 0 n n) x H=some (J wA n,H.set o (.cells (l.map (zN .i64)))):=by
 unfold Hi;simp only[ZvC h H];rw[if_neg (by intro e;have:=congrArg List.length e;simp at this;simp[this]at g;omega),if_pos (by simp;omega)];simp only[j];rw[if_pos (by simp;omega)];simp only[zP,g,splice,yM,zI,ZvP];rw[zG.2 (by simp;omega)];simp
theorem ZsE (H:Hp)(n f:Nat)(ag:Bool)(k o off len cap:Nat):Ze H n (f+1) (.rs ag k o off len cap)=if o<n then some (.rs ag k o off len cap) else
 match elems k (.rs ag k o off len cap) H with
 |some l=>match l.mapM (Ze H n f) with
  |some l=>some (.vs k .no l)
  |none=>none
 |none=>none:=(Eq.refl _).trans (Eq.refl _)
def Yh (L:Loc):Loc:=if (Wg L != 0)=true then defL else L
theorem PD {f:List AV->Hp->Z5}{a a' v v':AV}{H H1:Hp}(ha:Ze [] 0 9 a=some a')(g:f [a'] []=some (v,H1))(h:Ze H1 0 9 v=some v'):Zh f [a] H=some (v',H):=by
 unfold Zh;simp[ha,g,h]
theorem checked {L:Loc}(h:(Wg L != 0)=false):L.w.length=256/\L.lo.length=256/\L.up.length=256:=by
 simp only[Wg,bne_eq_false_iff_eq]at h;split at h
 ·split at h
  ·cases h
  ·rename_i g;simp only[yP,bne_iff_ne,ne_eq,not_or,Decidable.not_not]at g;exact g
 ·cases h
theorem HU {H1:Hp}{x c e g:AV}{L:Loc}(hx:Ze H1 0 8 x=some g)(B:Sl 1 g (L.w.map (zN .i64)))(C:Sl 5 c (L.cls.map QS))(D:Sl 2 e (L.els.map Df)) :
 ∃ a',Ze H1 0 9 (.agg (L.cells x c e))=some a'/\LocAV a' L:=by
 obtain⟨c',j,u⟩:=C.close (H:=H1) (n:=0) (f:=7) (fun y hy=>by obtain⟨m,_,rfl⟩:=zR.1 hy;exact Ho m H1 0 5);obtain⟨h,z,A⟩:=D.close (H:=H1) (n:=0) (f:=7) (fun y hy=>by obtain⟨m,_,rfl⟩:=zR.1 hy;exact Za5 m H1 0 5);refine⟨.agg (L.cells g c' h),?_,g,c',h,rfl,B,u,A⟩
 have:(L.cells x c e).mapM (Ze H1 0 8)=some (L.cells g c' h):=by
  simp only[Loc.cells,xF,hx,j,z,yU];rfl
 rw[KM,this]
theorem Zj5 {a:AV}{L:Loc}(h:LocAV a L)(hok:LocOk L)(H:Hp):∃ a',Zh Um [a] H=some (a',H)/\LocAV a' (Yh L):=by
 obtain⟨a1,h1,h2⟩:=h.close [] 0 5;have C:=fun H=>(ZkA h2 hok H).1;obtain⟨x,c,e,rfl,hx,hc,he⟩:=h2;obtain⟨d,K,M⟩:=Zmu [zA (L.cells x c e),.cells [(.str []),.nils,(.str []),(.str []),.nils,.nils]];unfold Yh
 cases hb:(Wg L != 0) with
 |true =>
  obtain⟨A,j,u,rfl,Q,N,O⟩:=M
  have g:Um [.agg (L.cells x c e)] []=some (.agg (defL.cells A j u),[zA (L.cells x c e),.cells (defL.cells A j u)]):=by
   rw[MC];unfold Pn;have S:Z3 true 6 (.ptr 0 0) [zA (L.cells x c e),.cells [(.str []),.nils,(.str []),(.str []),.nils,.nils]]=some (.agg (L.cells x c e)):=by simp[Z3,Go.Am.apart,Loc.cells]
   have aa:Za 6 (.ptr 1 0) (.agg (defL.cells A j u)) [zA (L.cells x c e),.cells [(.str []),.nils,(.str []),(.str []),.nils,.nils]]=some (.tuple [],[zA (L.cells x c e),.cells (defL.cells A j u)]):=by simp[Za,YX,yF,zV,Loc.cells,splice]
   have U:Z3 true 6 (.ptr 1 0) [zA (L.cells x c e),.cells (defL.cells A j u)]=some (.agg (defL.cells A j u)):=by simp[Z3,Go.Am.apart,Loc.cells]
   simp only[go_sem,zI,zJ,zL,zM,zF,S,C,hb,K,aa,U]
  obtain⟨ab,E,F⟩:=Q.close (H:=[zA (L.cells x c e),.cells (defL.cells A j u)]) (n:=0) (f:=7) (fun y hy=>by obtain⟨m,_,rfl⟩:=zR.1 hy;rfl);obtain⟨a',q1,q2⟩:=HU E F N O;exact⟨a',PD h1 g q1,by simpa using q2⟩
 |false =>
  obtain⟨hw,ac,ad⟩:=checked hb
  have g:Um [.agg (L.cells x c e)] []=some (.agg (L.cells (.rs false 1 2 0 256 256) c e),[zA (L.cells (.rs false 1 2 0 256 256) c e),.cells (L.cells (.rs false 1 2 0 256 256) c e),.cells (L.w.map (zN .i64))]):=by
   rw[MC];unfold Pn;have S:Z3 true 6 (.ptr 0 0) [zA (L.cells x c e),.cells [(.str []),.nils,(.str []),(.str []),.nils,.nils]]=some (.agg (L.cells x c e)):=by simp[Z3,Go.Am.apart,Loc.cells]
   have B:=ZuS 8 (by decide) (J wA 0) rfl rfl [zA (L.cells x c e),.cells [(.str []),.nils,(.str []),(.str []),.nils,.nils]];have I:((xG 256 (zN .i64 0).cells).flatten).length=256:=by simp[zV]
   generalize ((xG 256 (zN .i64 0).cells).flatten)=z at B I;simp only[zL,zJ,zM,zI]at B;have T:Z3 false 1 (.ptr 0 1) [zA (L.cells x c e),.cells [(.str []),.nils,(.str []),(.str []),.nils,.nils],.cells z]=some x:=by simp[Z3,Go.Am.apart,Loc.cells]
   have D:=Zsb hx (H:=[zA (L.cells x c e),.cells [(.str []),.nils,(.str []),(.str []),.nils,.nils],.cells z]) (o:=2) rfl I hw (by omega);simp only[List.set_cons_succ,xJ]at D;have Y:Za 1 (.ptr 0 1) (.rs false 1 2 0 256 256) [zA (L.cells x c e),.cells [(.str []),.nils,(.str []),(.str []),.nils,.nils],.cells (L.w.map (zN .i64))]=some (.tuple [],[zA (L.cells (.rs false 1 2 0 256 256) c e),.cells [(.str []),.nils,(.str []),(.str []),.nils,.nils],.cells (L.w.map (zN .i64))]):=by simp[Za,YX,yF,zV,Loc.cells,splice]
   have V:Z3 true 6 (.ptr 0 0) [zA (L.cells (.rs false 1 2 0 256 256) c e),.cells [(.str []),.nils,(.str []),(.str []),.nils,.nils],.cells (L.w.map (zN .i64))]=some (.agg (L.cells (.rs false 1 2 0 256 256) c e)):=by simp[Z3,Go.Am.apart,Loc.cells]
   have Z:Za 6 (.ptr 1 0) (.agg (L.cells (.rs false 1 2 0 256 256) c e)) [zA (L.cells (.rs false 1 2 0 256 256) c e),.cells [(.str []),.nils,(.str []),(.str []),.nils,.nils],.cells (L.w.map (zN .i64))]=some (.tuple [],[zA (L.cells (.rs false 1 2 0 256 256) c e),.cells (L.cells (.rs false 1 2 0 256 256) c e),.cells (L.w.map (zN .i64))]):=by simp[Za,YX,yF,zV,Loc.cells,splice]
   have W:Z3 true 6 (.ptr 1 0) [zA (L.cells (.rs false 1 2 0 256 256) c e),.cells (L.cells (.rs false 1 2 0 256 256) c e),.cells (L.w.map (zN .i64))]=some (.agg (L.cells (.rs false 1 2 0 256 256) c e)):=by simp[Z3,Go.Am.apart,Loc.cells]
   simp only[go_sem,zI,zJ,zL,zM,zF,S,C,hb,Zef,B,T,D,Y,V,Z,W]
  have X:Ze [zA (L.cells (.rs false 1 2 0 256 256) c e),.cells (L.cells (.rs false 1 2 0 256 256) c e),.cells (L.w.map (zN .i64))] 0 8 (.rs false 1 2 0 256 256)=some (.vs 1 .no (L.w.map (zN .i64))):=by
   have R:elems 1 (.rs false 1 2 0 256 256) [zA (L.cells (.rs false 1 2 0 256 256) c e),.cells (L.cells (.rs false 1 2 0 256 256) c e),.cells (L.w.map (zN .i64))]=some (L.w.map (zN .i64)):=by
    simp[elems,hw];exact ZhV 256 _ (by simp[hw])
   rw[ZsE,if_neg (by omega),R];simp only;rw[O4 (fun y hy=>by obtain⟨m,_,rfl⟩:=zR.1 hy;rfl)]
  obtain⟨a',q1,q2⟩:=HU X (.inr ⟨.no,rfl⟩) hc he;exact⟨a',PD h1 g q1,by simpa using q2⟩
theorem Zp3 {a:AV}{L:Loc}(h:LocAV a L)(hok:LocOk L)(H:Hp):∃ a',Zh Dt [a] H=some (a',H)/\LocAV a' (Yh L):=by
 obtain⟨Y,S,T⟩:=h.close [] 0 5;have B:=fun H=>(ZkA T hok H).2;obtain⟨x,c,e,rfl,hx,W,X⟩:=T;obtain⟨d,E,F⟩:=KD [zA (L.cells x c e),.cells [(.str []),.nils,(.str []),(.str []),.nils,.nils]];unfold Yh;have U:Z3 true 6 (.ptr 0 0) [zA (L.cells x c e),.cells [(.str []),.nils,(.str []),(.str []),.nils,.nils]]=some (.agg (L.cells x c e)):=by simp[Z3,Go.Am.apart,Loc.cells]
 cases hb:(Wg L != 0) with
 |true =>
  obtain⟨w,j,u,rfl,M,I,K⟩:=F
  have g:Dt [.agg (L.cells x c e)] []=some (.agg (defL.cells w j u),[zA (L.cells x c e),.cells (defL.cells w j u)]):=by
   rw[Ii];unfold Av;have A:Za 6 (.ptr 1 0) (.agg (defL.cells w j u)) [zA (L.cells x c e),.cells [(.str []),.nils,(.str []),(.str []),.nils,.nils]]=some (.tuple [],[zA (L.cells x c e),.cells (defL.cells w j u)]):=by simp[Za,YX,yF,zV,Loc.cells,splice]
   have z:Z3 true 6 (.ptr 1 0) [zA (L.cells x c e),.cells (defL.cells w j u)]=some (.agg (defL.cells w j u)):=by simp[Z3,Go.Am.apart,Loc.cells]
   simp only[go_sem,zI,zJ,zL,zM,zF,U,B,hb,E,A,z]
  obtain⟨V,C,D⟩:=M.close (H:=[zA (L.cells x c e),.cells (defL.cells w j u)]) (n:=0) (f:=7) (fun y hy=>by obtain⟨m,_,rfl⟩:=zR.1 hy;rfl);obtain⟨a',Q,R⟩:=HU C D I K;exact⟨a',PD S g Q,by simpa using R⟩
 |false =>
  have g:Dt [.agg (L.cells x c e)] []=some (.agg (L.cells x c e),[zA (L.cells x c e),.cells (L.cells x c e)]):=by
   rw[Ii];unfold Av;have A:Za 6 (.ptr 1 0) (.agg (L.cells x c e)) [zA (L.cells x c e),.cells [(.str []),.nils,(.str []),(.str []),.nils,.nils]]=some (.tuple [],[zA (L.cells x c e),.cells (L.cells x c e)]):=by simp[Za,YX,yF,zV,Loc.cells,splice]
   have z:Z3 true 6 (.ptr 1 0) [zA (L.cells x c e),.cells (L.cells x c e)]=some (.agg (L.cells x c e)):=by simp[Z3,Go.Am.apart,Loc.cells]
   simp only[go_sem,zI,zJ,zL,zM,zF,U,B,hb,ZhA,A,z]
  obtain⟨Z,N,O⟩:=hx.close (H:=[zA (L.cells x c e),.cells (L.cells x c e)]) (n:=0) (f:=7) (fun y hy=>by obtain⟨m,_,rfl⟩:=zR.1 hy;rfl);obtain⟨a',Q,R⟩:=HU N O W X;exact⟨a',PD S g Q,by simpa using R⟩
def Jl (b:UInt8):AV:=.int .u8 b.toNat
def Vw (t s:List UInt8):List UInt8:=s.map fun b=>t.getD b.toNat 0
theorem ZfO:∀ s:List UInt8,V6 (s.map Jl)=some s:=by
 intro s
 induction s with
 |nil=>rfl
 |cons b l g =>
  show (match V6 (l.map Jl) with|some l=>some (yG (b.toNat:Int).toNat::l)|none=>none)=_;rw[g];simp
theorem ZpB {t:List UInt8}(g:t.length=256)(b:UInt8):Zy (.str t) (.int .u8 b.toNat)=some (.int .u8 (t.getD b.toNat 0).toNat):=by
 have hb:b.toNat<t.length:=by rw[g];exact b.toNat_lt
 simp[Zy,zC hb,yR]
theorem Zzy (o e n:Nat){i:Nat}(hi:i<n):Zo 1 (.ws false 1 o e n) (J wA (i:Int))=some (.wp o e i):=by
 simp[Zo,hi]
theorem Zug (e:Nat)(l:List AV)(i:Nat):Z3 false 1 (.wp 0 e i) [yI e l]=l[i]?:=by simp[Z3,Go.Am.apart]
theorem ZrH (e:Nat)(l:List AV){i:Nat}(hi:i<l.length)(v:AV)(hk:v.known=true)(g:v.cells.length=1):Za 1 (.wp 0 e i) v [yI e l]=some (.tuple [],[yI e (splice l i v.cells)]):=by
 unfold Za YX;simp only[zB];rw[if_pos ⟨trivial,hk,g,by omega⟩];rfl
theorem Zre (a:List AV)(x y:AV)(b:List AV):splice (a++x::b) a.length [y]=a++y::b:=by
 unfold splice;simp
theorem ZoS {t:List UInt8}(D:t.length=256)(s:List UInt8)(F:s.length<=4611686018427387904)(A:Hp):∀ (r done:List UInt8),s=done++r ->
 K1 (.str t) (.ws false 1 0 0 s.length) (J wA (s.length:Int)) (J wA (done.length:Int)) A [yI 0 ((Vw t done).map Jl++r.map Jl)]=some (.str (Vw t s),[yI 0 ((Vw t s).map Jl)]):=by
 intro r
 induction r with
 |nil =>
  intro done u;obtain rfl:done=s:=by rw[u,yA]
  rw[TU];have g:decide ((done.length:Int)<(done.length:Int))=false:=by simp
  have w:Jm (.ws false 1 0 0 done.length) [yI 0 ((Vw t done).map Jl)]=some ((Vw t done).map Jl):=by
   simp[Jm,elems,Vw];exact ZhV _ _ (by simp)
  have C:UX (.ws false 1 0 0 done.length) [yI 0 ((Vw t done).map Jl)]=some (.str (Vw t done)):=by
   unfold UX;simp only[Jw,w,ZfO]
  simp only[go_sem,g,ZbU,xY,yA,C]
 |cons b r E =>
  intro done u;rw[TU];have B:done.length<s.length:=by rw[u];simp
  have g:decide ((done.length:Int)<(s.length:Int))=true:=by simp;omega
  have hw:xZ.wrap ((done.length:Int)+1)=((done.length+1:Nat):Int):=by rw[Zp (by omega) (by omega)];omega
  have j:((Vw t done).map Jl).length=done.length:=by simp[Vw]
  have h:((Vw t done).map Jl++(b::r).map Jl)[done.length]?=some (.int .u8 b.toNat):=by
   rw[zZ (by omega),j];simp[Jl]
  have z:Za 1 (.wp 0 0 done.length) (.int .u8 (t.getD b.toNat 0).toNat) [yI 0 ((Vw t done).map Jl++(b::r).map Jl)]=some (.tuple [],[yI 0 ((Vw t (done++[b])).map Jl++r.map Jl)]):=by
   rw[ZrH 0 _ (by simp[Vw]) _ rfl rfl];have:=Zre ((Vw t done).map Jl) (Jl b) (.int .u8 (t.getD b.toNat 0).toNat) (r.map Jl);rw[j]at this;simp only[yT,zV];rw[this];simp[Vw,Jl]
  have:=E (done++[b]) (by rw[u];simp);rw[zY,zX]at this;simp only[go_sem,g,ZbV,Zzy 0 0 s.length B,Zug,h,ZpB D,z,ZbW,hw];exact this
theorem ZoR {t:List UInt8}(j:t.length=256)(s:List UInt8)(h:s.length<=4611686018427387904)(H:Hp):Zh Rq [.str t,.str s] H=some (.str (Vw t s),H):=by
 refine Fk (a':=.str t) (b':=.str s) (H1:=[yI 0 ((Vw t s).map Jl)]) rfl rfl ?_ rfl;rw[Zcy];unfold CN;have:=ZoS j s h [] s [] rfl;simp only[zJ,Vw,xY,zI]at this;have e:OV (.str s) []=some (.ws false 1 0 0 s.length,[yI 0 (s.map Jl)]):=rfl;have g:Zk (.slice 5) (.ws false 1 0 0 s.length)=some (J wA s.length):=rfl;simp only[e,g,go_sem];exact this
theorem Zzj (b:UInt8):(ZB 1 [(0,zN .u8 b.toNat)] [(.int .u8 0)]).map (AV.vs 1 .clip)=some (.vs 1 .clip [Jl b]):=rfl
theorem Zyt {n:Nat}{H:Hp}{x:AV}{s:List UInt8}(h:RowN n H 1 x (s.map Jl)):UX x H=some (.str s):=by
 rcases h with ⟨rfl,h⟩|⟨t,e,rfl,_⟩
 ·have:s=[]:=by cases s with
   |nil=>rfl
   |cons a l=>simp at h
  subst this;rfl
 ·unfold UX Jw;simp only[if_true,ZfO]
theorem Znu {t:List UInt8}(z:t.length=256)(s:List UInt8)(D:s.length<=1048576)(j:Hp):∀ (r done:List UInt8) (x:AV) (H:Hp),s=done++r->RowN 0 H 1 x ((Vw t done).map Jl) ->
 ∃ H',Ff (.str t) (.str s) x (J wA (done.length:Int)) j H=some (.str (Vw t s),H'):=by
 intro r
 induction r with
 |nil =>
  intro done x H h hx;rw[yA]at h;subst h;rw[EN];have g:decide ((s.length:Int)<(s.length:Int))=false:=by simp
  simp only[go_sem,YK,g,Zgo,Zyt hx];exact⟨_,rfl⟩
 |cons b r A =>
  intro done x H h hx;rw[EN];have C:done.length<s.length:=by rw[h];simp
  have g:decide ((done.length:Int)<(s.length:Int))=true:=by simp;omega
  have hw:xZ.wrap ((done.length:Int)+1)=((done.length+1:Nat):Int):=by rw[Zp (by omega) (by omega)];omega
  have hb:s[done.length]?=some b:=by rw[h,zZ (by omega)];simp
  obtain⟨B,H',u,w,_,_,_⟩:=hx.app (xC _) 1 (.vs 1 .clip [Jl (t.getD b.toNat 0)]) [Jl (t.getD b.toNat 0)] (by simp[elems]) (by simp[Vw];omega);simp only[go_sem,YK,g,Zgp,ZX hb,ZpB z,Zzj,u,Zgq,hw];have:=A (done++[b]) B H' (by rw[h];simp) (by simpa[Vw]using w);rw[zY,zX]at this;exact this
theorem Znt {t:List UInt8}(j:t.length=256)(s:List UInt8)(g:s.length<=1048576)(H:Hp):Zh Ef [.str t,.str s] H=some (.str (Vw t s),H):=by
 obtain⟨H',h⟩:=Znu j s g [] s [] .nils [] rfl (RowN.nil 0 [] 1);refine Fk (a':=.str t) (b':=.str s) (H1:=H') rfl rfl ?_ rfl;rw[Zhh];unfold Zcs;exact h
theorem Zpm:defL.up.length=256/\defL.w.length=256:=⟨by simp[defL],by simp[defL]⟩
theorem Zl6 (L:Loc):(Yh L).up.length=256:=by
 unfold Yh
 cases h:(Wg L != 0) with
 |true=>exact Zpm.1
 |false=>exact (checked h).2.2
theorem ZnT (L:Loc):(Yh L).w.length=256:=by
 unfold Yh
 cases h:(Wg L != 0) with
 |true=>exact Zpm.2
 |false=>exact (checked h).1
def upS (L:Loc)(s:List UInt8):List UInt8:=Vw (Yh L).up s
theorem ZrS {a:AV}{L:Loc}(h:LocAV a L)(hok:LocOk L)(s:List UInt8)(D:s.length<=1048576)(H:Hp):Zh Pk [a,.str s] H=some (.str (upS L s),H)/\Zh Zfq [a,.str s] H=some (.str (upS L s),H):=by
 obtain⟨F,B,u⟩:=h.close [] 0 5;have E:=fun H=>Zj5 u hok H;have z:=fun H=>Zp3 u hok H;obtain⟨x,c,e,rfl,hx,I,K⟩:=u;have C:Z3 true 6 (.ptr 0 0) [zA (L.cells x c e)]=some (.agg (L.cells x c e)):=by simp[Z3,Go.Am.apart,Loc.cells]
 constructor
 ·obtain⟨v,g,A,j,ev,rfl,_⟩:=E [zA (L.cells x c e)];have w:E1 false 1 3 (.agg ((Yh L).cells A j ev))=some (.str (Yh L).up):=rfl;refine Fk B (b':=.str s) rfl (H1:=[zA (L.cells x c e)]) ?_ rfl;rw[ZeW];unfold Is;simp only[go_sem,zI,zJ,C,g,w,ZoR (Zl6 L) s (by omega)];rfl
 ·obtain⟨v,g,A,j,ev,rfl,_⟩:=z [zA (L.cells x c e)];have w:E1 false 1 3 (.agg ((Yh L).cells A j ev))=some (.str (Yh L).up):=rfl;refine Fk B (b':=.str s) rfl (H1:=[zA (L.cells x c e)]) ?_ rfl;rw[Zjd];unfold Zfu;simp only[go_sem,zI,zJ,C,g,w,Znt (Zl6 L) s D];rfl
theorem Zsx {α:Type}{bad:α->Option Int}{key:α->List UInt8}(hb:∀ c e,bad c=some e->e≠0){l:List α}(h:M5 bad key l []=0):∀ i,i<=l.length->M5 bad key (l.drop i) ((l.take i).map key)=0:=by
 intro i
 induction i with
 |zero=>intro _;simpa using h
 |succ i u =>
  intro hi;have:=u (by omega);rw[zH (by omega),R6]at this
  cases g:bad l[i] with
  |some e=>rw[g]at this;exact absurd this (hb _ _ g)
  |none =>
   rw[g]at this;simp only at this;split at this
   ·cases this
   ·have j:(l.take (i+1)).map key=(l.take i).map key++[key l[i]]:=by
     rw[yC,zC (by omega),yE];rfl
    rw[j];exact this
theorem Zvd {α:Type}{bad:α->Option Int}{key:α->List UInt8}(hb:∀ c e,bad c=some e->e≠0){l:List α}(h:M5 bad key l []=0){i:Nat}(hi:i<l.length):((l.take i).map key).contains (key l[i])=false:=by
 have:=Zsx hb h i (by omega);rw[zH (by omega),R6]at this
 cases g:bad l[i] with
 |some e=>rw[g]at this;exact absurd this (hb _ _ g)
 |none =>
  rw[g]at this;simp only at this;split at this
  ·cases this
  ·rename_i hn;exact Bool.eq_false_iff.2 hn
theorem ZvB:∀ c e,Za4 c=some e->e≠0:=by
 intro c e h;unfold Za4 at h;split at h
 ·injection h with h;omega
 ·cases h
def ZlP (l:List (List UInt8×Int)):Prop:=∀ i (hi:i<l.length),((l.take i).map zK).contains l[i].1=false
theorem Zj4 (L:Loc):ZlP (Yh L).els:=by
 unfold Yh
 cases h:(Wg L != 0) with
 |true=>intro i hi;simp[defL]at hi
 |false =>
  simp only[Wg,bne_eq_false_iff_eq]at h
  have:Sd L.els=0:=by
   split at h
   ·split at h
    ·cases h
    ·split at h
     ·cases h
     ·unfold ZaY at h;split at h
      ·rename_i g;simp[h]at g
      ·exact h
   ·cases h
  unfold Sd at this;split at this
  ·cases this
  ·intro i hi;exact Zvd (key:=zK) ZvB this hi
def EK (g:List (AV×AV×Nat))(l:List (List UInt8×Int)):Prop:=g.map (fun e=>(e.1,e.2.1))=l.map fun e=>(xA e.1,zN .i64 e.2)
theorem Zkr (k:List UInt8):∀ (g:List (AV×AV×Nat)) (l:List (List UInt8×Int)) (i:Nat),EK g l ->
 match l.find? (fun e=>e.1==k) with
 |some e=>∃ j,YS (.str k) g i=some (some (j,J wA e.2))
 |none=>YS (.str k) g i=some none:=by
 intro g
 induction g with
 |nil =>
  intro l i h
  cases l with
  |nil=>simp[YS]
  |cons s r=>simp[EK]at h
 |cons e g z =>
  intro l i h
  cases l with
  |nil=>simp[EK]at h
  |cons s r =>
   obtain⟨a,b,c⟩:=e;simp only[EK,yT,List.cons.injEq,xS]at h;obtain⟨⟨rfl,rfl⟩,w⟩:=h;have:=z r (i+1) w;have u:(k==s.1)=(s.1==k):=by rw[zS,beq_iff_eq,beq_iff_eq];exact eq_comm
   simp only[YS,Jo,List.find?_cons,u]
   cases hk:(s.1==k) with
   |true=>exact⟨i,rfl⟩
   |false=>exact this
theorem ZvD {H:Hp}{m:Nat}{g:List (AV×AV×Nat)}{c:Nat}{l:List (List UInt8×Int)}(hm:H[m]?=some (.map g c))(w:EK g l)(k:List UInt8) :
 Y8 .string (J wA 0) true (.map m) (.str k) H=some (match l.find? (fun e=>e.1==k) with|some e=>.tuple [J wA e.2,.bool true]|none=>.tuple [J wA 0,.bool false]):=by
 have h:=Zkr k g l 0 w;unfold Y8;simp only[Wj,if_true,Xj,hm]
 cases hk:l.find? (fun e=>e.1==k) with
 |some e =>
  rw[hk]at h;obtain⟨j,u⟩:=h;simp[u]
 |none =>
  rw[hk]at h;simp at h;simp[h]
theorem Zt7 {l:List (List UInt8×Int)}{k:List UInt8}(h:(l.map zK).contains k=false):l.find? (fun e=>e.1==k)=none:=by
 rw[List.find?_eq_none];intro e he hk;have:k∈l.map zK:=zR.2 ⟨e,he,by simpa using hk⟩;simp at h
 exact h e.2 (by have : e.1 = k := by simpa using hk
                 subst this;exact he)
theorem ZxT {H:Hp}{m:Nat}{g:List (AV×AV×Nat)}{c:Nat}{l:List (List UInt8×Int)}(hm:H[m]?=some (.map g c))(j:EK g l){e:List UInt8×Int}(hk:(l.map zK).contains e.1=false) :
 Xv .string (.map m) (.str e.1) (J wA e.2) H=some (.tuple [],H.set m (.map (g++[(.str e.1,J wA e.2,c)]) (c+1)))/\EK (g++[(.str e.1,J wA e.2,c)]) (l++[e]):=by
 have h:=Zkr e.1 g l 0 j;rw[Zt7 hk]at h;constructor
 ·unfold Xv;simp only[hm,Wj,if_true,h]
 ·unfold EK at j ⊢;simp[j]
theorem ZvA {x:AV}{l:List (List UInt8×Int)}(h:Sl 2 x (l.map Df))(A:ZlP l)(V:l.length<=1048576)(E F:AV)(D:Hp):∀ (k i:Nat) (H:Hp) (w:List (AV×AV×Nat)) (c:Nat),l.length-i=k->i<=l.length ->
 H[2]?=some (.map w c)->EK w (l.take i)->3<=H.length ->
 ∃ H' g c',GZ E F (.ptr 1 0) (.map 2) x (J wA (l.length:Int)) (J wA (i:Int)) D H=PI E F (.ptr 1 0) (.map 2) D H'/\H'[0]?=H[0]?/\H'[1]?=H[1]?/\H'[2]?=some (.map g c')/\EK g l/\3<=H'.length:=by
 intro k
 induction k with
 |zero =>
  intro i H w c hk hi hm B hlen;rw[L0];have u:decide ((i:Int)<(l.length:Int))=false:=by simp;omega
  simp only[go_sem,u];exact⟨H,w,c,rfl,rfl,rfl,hm,by rw[List.take_of_length_le (by omega)]at B;exact B,hlen⟩
 |succ k S =>
  intro i H w c hk hi hm B hlen;rw[L0];have j:i<l.length:=by omega
  have u:decide ((i:Int)<(l.length:Int))=true:=by simp;omega
  have hw:xZ.wrap ((i:Int)+1)=((i+1:Nat):Int):=by rw[Zp (by omega) (by omega)];omega
  have C:=EQ H 2 [.str l[i].1,J wA l[i].2] [.str [],J wA 0] rfl rfl;have z:(H++[zA [xA l[i].1,zN .i64 l[i].2]])[2]?=some (.map w c):=Y3 hm _;obtain⟨T,U⟩:=ZxT z B (e:=l[i]) (A i j);simp only[go_sem,u,Zfh,h.els (zC j),Vr 2 [.str l[i].1,J wA l[i].2] rfl,C,zF,ZH,zB,zE,T,Zfi,hw];have R:l.take (i+1)=l.take i++[l[i]]:=by rw[yC,zC j];rfl
  obtain⟨H',g,c',I,K,M,N,O,Q⟩:=S (i+1) _ _ _ (by omega) (by omega) (Zq _ z) (by rw[R];exact U) (by simp;omega);refine⟨H',g,c',I,?_,?_,N,O,Q⟩
  ·rw[K,yJ (by omega),yV (by omega)]
  ·rw[M,yJ (by omega),yV (by omega)]
def wOf (L:Loc)(b:UInt8):Int:=L.w.getD b.toNat 0
def wS (L:Loc):List UInt8->List Int
 |[]=>[]
 |[b]=>[wOf L b]
 |b::c::r=>match L.els.find? (fun e=>e.1==[b,c]) with
  |some e=>e.2::wS L r
  |none=>wOf L b::wS L (c::r)
theorem Zyh (n:Int):(ZB 1 [(0,zN .i64 n)] [(J wA 0)]).map (AV.vs 1 .clip)=some (.vs 1 .clip [J wA n]):=rfl
theorem FF {s:List UInt8}{i j:Nat}(g:i<=j)(w:j<=s.length):ZU (.str s) (some (J wA (i:Int))) (some (J wA (j:Int))) none=some (.str ((s.take j).drop i)):=by
 have h:X8 (J wA (j:Int)) s.length=some j:=by simp[X8,w]
 have u:X8 (J wA (i:Int)) j=some i:=by simp[X8,g]
 unfold ZU Gz Ys;simp only[h,u]
theorem ZzO {x:AV}{L:Loc}(h:Sl 1 x (L.w.map (zN .i64)))(hw:L.w.length=256)(b:UInt8):Zo 1 x (.int .u8 b.toNat)=some (.vp [J wA (wOf L b)]):=by
 have hb:b.toNat<L.w.length:=by rw[hw];exact b.toNat_lt
 rcases h with ⟨rfl,h⟩|⟨tok,rfl⟩
 ·simp at h;simp[h]at hb
 ·simp[Zo,zC hb,wOf,yR,zV]
structure WSt (L:Loc)(x c e:AV)(es:List (AV×AV×Nat))(acc:List Int)(H:Hp):Prop where
 out:∃ y,H[0]?=some (.cells [y])/\RowN 3 H 1 y (acc.map (zN .i64))
 loc:H[1]?=some (.cells (L.cells x c e))
 mp:∃ k,H[2]?=some (.map es k)
 len:3<=H.length
theorem Zpk {L:Loc}{x c e:AV}{D:List (AV×AV×Nat)}{g:List Int}{H:Hp}(h:WSt L x c e D g H)(T:g.length<=1048576)(t:AV)(w:Int) :
 ∃ H',Yf cfg (Zb cfg) (.fn (.func 110) [] [.ptr 0 0]) [t,J wA w] H=some (.bool true,H')/\WSt L x c e D (g++[w]) H':=by
 obtain⟨⟨y,E,O⟩,I,⟨k,K⟩,M⟩:=h;obtain⟨j,H1,F,C,R,z,S⟩:=O.app M 8 (.vs 1 .clip [J wA w]) [J wA w] (by simp[elems]) (by simp;omega);have u:H1[0]?=some (.cells [y]):=by rw[z 0 (by omega)];exact E
 have B:Za 1 (.ptr 0 0) j H1=some (.tuple [],H1.set 0 (.cells [j])):=by
  have A:j.known=true/\j.cells=[j]:=by
   rcases C with ⟨rfl,_⟩|⟨t,e,rfl,_⟩ <;> exact⟨rfl,rfl⟩
  rw[WN (sz:=1) u A.1 (by rw[A.2];rfl) (by simp)];rw[A.2];rfl
 refine⟨H1.set 0 (.cells [j]),?_,⟨⟨j,Zq _ u,?_⟩,?_,⟨k,?_⟩,by simp;omega⟩⟩
 ·rw[OK];show JG [t,J wA w,.ptr 0 0] H=_;rw[Ci];unfold Rs;simp only[Y2 E,zB,go_sem,Zyh,F,B]
 ·rcases C with ⟨rfl,N⟩|⟨t,e,rfl,Q,hn⟩
  ·exact .inl ⟨rfl,by rw[yE];exact N⟩
  ·exact .inr ⟨t,e,by simp,Yd _ (by omega) Q,hn⟩
 ·rw[yJ (by omega),z 1 (by omega)];exact I
 ·rw[yJ (by omega),z 2 (by omega)];exact K
theorem ZsU {L:Loc}{x c e:AV}(hx:Sl 1 x (L.w.map (zN .i64)))(hw:L.w.length=256){D:List (AV×AV×Nat)}(R:EK D L.els)(s:List UInt8)(hs:s.length<=1048576)(V:Hp):∀ (n:Nat) (done r:List UInt8) (g:List Int) (H:Hp),r.length<=n->s=done++r->g.length<=done.length->WSt L x c e D g H ->
 ∃ H',GY (.str s) (.fn (.func 110) [] [.ptr 0 0]) (.ptr 1 0) (.map 2) (J wA (done.length:Int)) V H=some (.tuple [],H')/\WSt L x c e D (g++wS L r) H':=by
 intro n
 induction n with
 |zero =>
  intro done r g H S j ha h;have:r=[]:=yX.1 (by omega);subst this;rw[yA]at j;subst j;rw[Dh];have u:decide ((s.length:Int)<(s.length:Int))=false:=by simp
  simp only[go_sem,YK,u];exact⟨H,rfl,by simpa[wS]using h⟩
 |succ n Y =>
  intro done r g H S j ha h
  cases r with
  |nil =>
   rw[yA]at j;subst j;rw[Dh];have u:decide ((s.length:Int)<(s.length:Int))=false:=by simp
   simp only[go_sem,YK,u];exact⟨H,rfl,by simpa[wS]using h⟩
  |cons b r =>
   have hl:done.length<s.length:=by rw[j];simp
   have B:s.length=done.length+(r.length+1):=by rw[j];simp
   have u:decide ((done.length:Int)<(s.length:Int))=true:=by simp;omega
   have I:xZ.wrap ((done.length:Int)+1)=((done.length+1:Nat):Int):=by rw[Zp (by omega) (by omega)];omega
   have K:xZ.wrap ((done.length:Int)+2)=((done.length+2:Nat):Int):=by rw[Zp (by omega) (by omega)];omega
   have hb:s[done.length]?=some b:=by rw[j,zZ (by omega)];simp
   have T:(s.take (done.length+1)).drop done.length=[b]:=by rw[j,xO];simp
   have one:∀ H,WSt L x c e D g H->∃ H',Jp (.str s) (.fn (.func 110) [] [.ptr 0 0]) (.ptr 1 0) (.map 2) (J wA (done.length:Int)) (.str [b]) (J wA (wOf L b)) V H=some (.tuple [],H')/\WSt L x c e D (g++wOf L b::wS L r) H':=by
    intro H h;obtain⟨H1,N,O⟩:=Zpk h (by omega) (.str [b]) (wOf L b);obtain⟨M,E,Q⟩:=Y (done++[b]) r (g++[wOf L b]) H1 (by simp at S;omega) (by rw[j];simp) (by simp;omega) O;rw[zY,zX]at E;rw[MY];have z:(([b]:List UInt8).length:Int)=1:=rfl;simp only[N,go_sem,MZ,YK,z,I,E];exact⟨M,rfl,by simpa using Q⟩
   rw[Dh];obtain⟨⟨y,Z,F⟩,W,⟨k,X⟩,h3⟩:=h;have h:WSt L x c e D g H:=⟨⟨y,Z,F⟩,W,⟨k,X⟩,h3⟩;simp only[go_sem,YK,u,Zfg,I,FF (Nat.le_succ _) (show done.length+1<=s.length by omega),T,zF,Y2 W,Loc.cells,zB,zE,ZX hb,ZzO hx hw,Zx,K]
   cases r with
   |nil =>
    have A:decide (((done.length+2:Nat):Int)<=(s.length:Int))=false:=by simp at B ⊢;omega
    simp only[A,go_sem];have:=one H h;simpa[wS]using this
   |cons C r =>
    have A:decide (((done.length+2:Nat):Int)<=(s.length:Int))=true:=by simp at B ⊢;omega
    have U:(s.take (done.length+2)).drop done.length=[b,C]:=by rw[j,xO];simp
    simp only[A,go_sem,FF (show done.length<=done.length+2 by omega) (show done.length+2<=s.length by simp at B;omega),U,ZvD X R];unfold wS
    cases hf:L.els.find? (fun e=>e.1==[b,C]) with
    |none =>
     simp only[go_sem,zB,zE];exact one H h
    |some el =>
     simp only[go_sem,zB,zE];obtain⟨H1,N,O⟩:=Zpk h (by omega) (.str [b,C]) el.2;obtain⟨M,E,Q⟩:=Y (done++[b,C]) r (g++[el.2]) H1 (by simp at S;omega) (by rw[j];simp) (by simp;omega) O;rw[zY,show ([b,C]:List UInt8).length=2 from rfl]at E;rw[MY];have z:(([b,C]:List UInt8).length:Int)=2:=rfl;simp only[N,go_sem,MZ,YK,z,K,E];exact⟨M,rfl,by simpa using Q⟩
def LocCells (l:List AV)(L:Loc):Prop:=∃ x c e,l=L.cells x c e/\Sl 1 x (L.w.map (zN .i64))/\Sl 5 c (L.cls.map QS)/\Sl 2 e (L.els.map Df)
theorem LocCells.close {l:List AV}{L:Loc}(h:LocCells l L)(H:Hp)(n f:Nat):∃ C,l.mapM (Ze H n (f+3))=some C/\LocCells C L:=by
 obtain⟨x,c,e,rfl,hx,E,F⟩:=h;obtain⟨D,z,A⟩:=hx.close (H:=H) (n:=n) (f:=f+2) (fun y hy=>by obtain⟨m,_,rfl⟩:=zR.1 hy;rfl);obtain⟨c',g,j⟩:=E.close (H:=H) (n:=n) (f:=f+2) (fun y hy=>by obtain⟨m,_,rfl⟩:=zR.1 hy;exact Ho m H n f);obtain⟨B,u,w⟩:=F.close (H:=H) (n:=n) (f:=f+2) (fun y hy=>by obtain⟨m,_,rfl⟩:=zR.1 hy;exact Za5 m H n f);refine⟨L.cells D c' B,?_,D,c',B,rfl,A,j,w⟩;simp only[Loc.cells,xF,z,g,u,yU];rfl
theorem Qh (H:Hp)(n f:Nat)(l:List AV):Ze H n (f+1) (.vp l)=match l.mapM (Ze H n f) with
 |some l=>some (.vp l)
 |none=>none:=(Eq.refl _).trans (Eq.refl _)
theorem NH {f:List AV->Hp->Z5}{a a' b b' v v':AV}{H H1:Hp}(ha:Ze [] 0 9 a=some a')(hb:Ze [] 0 9 b=some b')(g:f [a',b'] []=some (v,H1))(h:Ze H1 0 9 v=some v'):Zh f [a,b] H=some (v',H):=by
 unfold Zh;simp[ha,hb,g,h]
theorem RowN.close {n:Nat}{H:Hp}{x:AV}{l:List Int}(h:RowN n H 1 x (l.map (zN .i64)))(H1:Hp):∃ g,Ze H1 0 9 x=some g/\Sl 1 g (l.map (zN .i64)) :=
 h.sl.close (f:=8) (fun y hy=>by obtain⟨m,_,rfl⟩:=zR.1 hy;rfl)
theorem Zez {l:List AV}{L:Loc}(h:LocCells l L)(hw:L.w.length=256)(g:ZlP L.els)(hn:L.els.length<=1048576)(s:List UInt8)(O:s.length<=1048576)(H:Hp) :
 ∃ v,Zh Qa [.str s,.vp l] H=some (v,H)/\Sl 1 v ((wS L s).map (zN .i64)):=by
 obtain⟨X,N,x,c,e,rfl,hx,W,D⟩:=h.close [] 0 5;have j:Ze [] 0 9 (.vp l)=some (.vp (L.cells x c e)):=by rw[Qh,N]
 have hlen:=D.len 189;rw[zP]at hlen;obtain⟨H1,M,k,E,Q,R,S,T,U⟩:=ZvA D g hn (.str s) (.fn (.func 110) [] [.ptr 0 0]) [zA [.nils]] L.els.length 0 [zA [.nils],.cells (L.cells x c e),.map [] 0] [] 0 (by omega) (by omega) rfl rfl (by simp);rw[show ((0:Nat):Int)=0 from rfl]at E;have z:WSt L x c e M [] H1:=⟨⟨.nils,by rw[Q];rfl,RowN.nil _ _ _⟩,by rw[R];rfl,⟨k,S⟩,U⟩;obtain⟨C,F,⟨⟨y,V,I⟩,_,_,_⟩⟩:=ZsU hx hw T s O [zA [.nils]] s.length [] s [] H1 (yS _) rfl (by simp) z;rw[zJ,show ((0:Nat):Int)=0 from rfl]at F;rw[zI]at I;obtain⟨v,A,B⟩:=I.close C;refine⟨v,NH (a':=.str s) rfl j ?_ A,B⟩;rw[Ir];unfold Ng
 have K:M1 [.agg (L.cells x c e),.str s,.fn (.func 110) [] [.ptr 0 0]] [zA [.nils]]=some (.tuple [],C):=by
  rw[Zgg];unfold Zb6;have u:Z3 false 1 (.ptr 1 5) [zA [.nils],.cells (L.cells x c e),.map [] 0]=some e:=by simp[Z3,Go.Am.apart,Loc.cells]
  simp only[go_sem,zL,zJ,zM,zI,zF,u,hlen,E,Zff,F]
 simp only[go_sem,zJ,zI,Vr 6 (L.cells x c e) rfl,K,Y2 V,zB]
def ZtA (r:List UInt8)(e:List UInt8×Int):Bool :=
 match r with
 |b::c::_=>e.1==[b,c]
 |_=>false
theorem Zzx (L:Loc)(b c:UInt8)(r:List UInt8):wS L (b::c::r)=match L.els.find? (ZtA (b::c::r)) with
 |some e=>e.2::wS L r
 |none=>wOf L b::wS L (c::r):=(Eq.refl _).trans (Eq.refl _)
set_option linter.unusedSectionVars false
def Ub:List Int->List Int->Int
 |[],[]=>0
 |[],_::_=>-1
 |_::_,[]=>1
 |a::l,b::m=>if a<b then -1 else if b<a then 1 else Ub l m
theorem JB (a b:Int)(l m:List Int):Ub (a::l) (b::m)=if a<b then -1 else if b<a then 1 else Ub l m:=(Eq.refl _).trans (Eq.refl _)
theorem ZtS {l m:List Int}(h:l=[]\/m=[]):Ub l m=if l.length<m.length then -1 else if m.length<l.length then 1 else 0:=by
 rcases h with rfl|rfl
 ·cases m <;> simp[Ub]
 ·cases l <;> simp[Ub]
theorem Zmj:∀ a b:List UInt8,Ub (a.map fun c=>(c.toNat:Int)) (b.map fun c=>(c.toNat:Int))=JN a b:=by
 intro a
 induction a with
 |nil=>intro b;cases b <;> simp[Ub,JN]
 |cons x a z =>
  intro b
  cases b with
  |nil=>simp[Ub,JN]
  |cons y b =>
   simp only[yT,JB,JN];by_cases h:x=y
   ·subst h;simp[z b]
   ·have w:x.toNat≠y.toNat:=fun e=>h (UInt8.toNat_inj.1 e);by_cases g:x<y
    ·have:(x.toNat:Int)<y.toNat:=by have:=xD.1 g;omega
     simp[h,g,this]
    ·have j:¬ (x.toNat:Int)<y.toNat:=by
      intro A;exact g (xD.2 (by omega))
     have u:(y.toNat:Int)<x.toNat:=by omega
     simp[h,g,j,u]
theorem Zui (a b:List UInt8)(H:Hp):Zh D5 [.str a,.str b] H=some (J wA (JN a b),H):=by
 have g:∀ H,Zh Wa [.str a,.str b] H=some (J wA (JN a b),H):=fun H=>by
  refine Fk (a':=.str a) (b':=.str b) (H1:=[]) rfl rfl ?_ rfl;rw[GU];rfl
 refine Fk (a':=.str a) (b':=.str b) (H1:=[]) rfl rfl ?_ rfl;rw[OF];unfold MJ;simp only[g,go_sem]
section
variable {x y:AV}{a b:List Int}(hx:Sl 1 x (a.map (zN .i64)))(hy:Sl 1 y (b.map (zN .i64)))(ha:a.length<=4611686018427387904)(hb:b.length<=4611686018427387904)
include hx hy ha hb
theorem ZtV (s t:List UInt8)(E H:Hp):∀ (k i:Nat),min a.length b.length-i=k->i<=min a.length b.length ->
 QX (.str s) (.str t) x y (J wA ((min a.length b.length:Nat):Int)) (J wA (i:Int)) E H=some (J wA (if (Ub (a.drop i) (b.drop i) != 0)=true then Ub (a.drop i) (b.drop i) else JN s t),H):=by
 have z:=hx.len 3;have A:=hy.len 3;rw[zP]at z A;intro k
 induction k with
 |zero =>
  intro i hk hi;rw[Th];have B:decide ((i:Int)<((min a.length b.length:Nat):Int))=false:=by simp;omega
  have F:a.drop i=[]\/b.drop i=[]:=by
   rcases Nat.le_total a.length b.length with h|h
   ·exact .inl (zG.2 (by omega))
   ·exact .inr (zG.2 (by omega))
  rw[ZtS F];simp only[yL,go_sem,B,Zap,z,A];by_cases K:a.length<b.length
  ·have c:decide ((a.length:Int)<(b.length:Int))=true:=by simp;omega
   have g:a.length-i<b.length-i:=by omega
   simp only[c,go_sem,g,if_true];rfl
  ·have c:decide ((a.length:Int)<(b.length:Int))=false:=by simp;omega
   have g:¬ a.length-i<b.length-i:=by omega
   simp only[c,go_sem,g,if_false,Zaq,z,A];by_cases M:b.length<a.length
   ·have c:decide ((b.length:Int)<(a.length:Int))=true:=by simp;omega
    have j:b.length-i<a.length-i:=by omega
    simp only[c,go_sem,j,if_true];rfl
   ·have c:decide ((b.length:Int)<(a.length:Int))=false:=by simp;omega
    have j:¬ b.length-i<a.length-i:=by omega
    simp only[c,go_sem,j,if_false,Zar,Zui];rfl
 |succ k I =>
  intro i hk hi;rw[Th];have u:i<a.length:=by omega
  have w:i<b.length:=by omega
  have B:decide ((i:Int)<((min a.length b.length:Nat):Int))=true:=by simp;omega
  have hw:xZ.wrap ((i:Int)+1)=((i+1:Nat):Int):=by rw[Zp (by omega) (by omega)];omega
  simp only[go_sem,B,Zas,hx.ints u,hy.ints w,Zx];rw[zH u,zH w,JB];by_cases C:a[i]<b[i]
  ·simp only[decide_eq_true C,go_sem,if_pos C];rfl
  ·simp only[decide_eq_false C,go_sem,if_neg C,Zau,hx.ints u,hy.ints w,Zx];by_cases D:b[i]<a[i]
   ·simp only[decide_eq_true D,go_sem,if_pos D];rfl
   ·simp only[decide_eq_false D,go_sem,if_neg D,Zat,hw];exact I (i+1) (by omega) (by omega)
end
theorem ZuC (L:Loc):∀ (n:Nat) (s:List UInt8),s.length<=n->(wS L s).length<=s.length:=by
 intro n
 induction n with
 |zero=>intro s h;have:s=[]:=yX.1 (by omega);subst this;simp[wS]
 |succ n g =>
  intro s h
  match s,h with
  |[],_=>simp[wS]
  |[b],_=>simp[wS]
  |b::c::r,h =>
   rw[Zzx];simp only[zL]at h
   cases L.els.find? (ZtA (b::c::r)) with
   |none=>have:=g (c::r) (by simp;omega);simp only[zL]at this ⊢;omega
   |some e=>have:=g r (by omega);simp only[zL];omega
theorem Zj3 (L:Loc):(Yh L).els.length<=64:=by
 unfold Yh
 cases h:(Wg L != 0) with
 |true=>simp[defL]
 |false =>
  simp only[Wg,bne_eq_false_iff_eq]at h
  have:Sd L.els=0:=by
   split at h
   ·split at h
    ·cases h
    ·split at h
     ·cases h
     ·unfold ZaY at h;split at h
      ·rename_i g;simp[h]at g
      ·exact h
   ·cases h
  unfold Sd at this;split at this
  ·cases this
  ·simp;omega
def D9 (L:Loc)(s t:List UInt8):Int:=if (Ub (wS (Yh L) s) (wS (Yh L) t) != 0)=true then Ub (wS (Yh L) s) (wS (Yh L) t) else JN s t
theorem ZkB {v:AV}{L:Loc}(h:LocAV v L)(hok:LocOk L)(s t:List UInt8)(V:s.length<=1048576)(W:t.length<=1048576)(H:Hp):Zh Ur [v,.str s,.str t] H=some (J wA (D9 L s t),H):=by
 obtain⟨K,R,M⟩:=h.close [] 0 5;have X:=fun H=>Zj5 M hok H;obtain⟨x,c,e,rfl,hx,hc,he⟩:=M;obtain⟨v',F,j,g,ev,rfl,I,B,C⟩:=X [zA (L.cells x c e)];have u:LocCells ((Yh L).cells j g ev) (Yh L):=⟨j,g,ev,rfl,I,B,C⟩;obtain⟨w1,Y,N⟩:=Zez u (ZnT L) (Zj4 L) (by have:=Zj3 L;omega) s V [xE];obtain⟨w2,Z,O⟩:=Zez u (ZnT L) (Zj4 L) (by have:=Zj3 L;omega) t W [xE];have T:=ZuC (Yh L) s.length s (yS _);have U:=ZuC (Yh L) t.length t (yS _)
 have A:Ur [.agg (L.cells x c e),.str s,.str t] []=some (J wA (D9 L s t),[xE]):=by
  rw[ZbF];unfold Er;have S:Z3 true 6 (.ptr 0 0) [zA (L.cells x c e)]=some (.agg (L.cells x c e)):=by simp[Z3,Go.Am.apart,Loc.cells]
  have E:Za 6 (.ptr 0 0) (.agg ((Yh L).cells j g ev)) [zA (L.cells x c e)]=some (.tuple [],[zA ((Yh L).cells j g ev)]):=by simp[Za,YX,yF,zV,Loc.cells,splice]
  have D:∀ k:AV->Hp->Z5,UZ (.ptr 0 0) [zA ((Yh L).cells j g ev)] k=k (.vp ((Yh L).cells j g ev)) [xE]:=fun k=>rfl;have K:Zk (.slice 3) w1=some (J wA (wS (Yh L) s).length):=by have:=N.len 3;rwa [zP]at this
  have Q:Zk (.slice 3) w2=some (J wA (wS (Yh L) t).length):=by have:=O.len 3;rwa [zP]at this
  have z:VE (J wA ((wS (Yh L) s).length:Int)) (J wA ((wS (Yh L) t).length:Int))=some (J wA ((min (wS (Yh L) s).length (wS (Yh L) t).length:Nat):Int)):=by
   unfold VE;simp only[if_true];congr 2;split <;> omega
  have w:=ZtV N O (by omega) (by omega) s t [] [xE] _ 0 rfl (xC _);rw[show ((0:Nat):Int)=0 from rfl,zQ,zQ]at w;simp only[go_sem,zJ,zI,S,F,E,D,ZcK,Zd8,zM,Y,Z,K,Q,z,w];rfl
 exact Wy (args':=[.agg (L.cells x c e),.str s,.str t]) (by simp[R];rfl) A rfl
def ZA6 (s:List UInt8):List Int:=s.map fun c=>(c.toNat:Int)
theorem ZmW {s done r:List UInt8}{b:UInt8}(h:s=done++b::r):Zy (.str s) (J wA (done.length:Int))=some (.int .u8 b.toNat) :=
 ZX (by rw[h,zZ (yS _)];simp)
def isD (b:UInt8):Bool:=decide (48<=(b.toNat:Int))&&decide ((b.toNat:Int)<=57)
def Zt (l:List UInt8):Nat:=(l.takeWhile isD).length
theorem Zuk:Zt []=0:=rfl
theorem ZiV (b:UInt8)(l:List UInt8):Zt (b::l)=if isD b then Zt l+1 else 0:=by
 unfold Zt;rw[List.takeWhile_cons];split <;> simp_all
theorem ZnC (l:List UInt8):Zt l<=l.length:=by
 induction l with
 |nil=>simp[Zt]
 |cons b l g=>rw[ZiV];split <;> simp <;> omega
theorem Zor {s:List UInt8}(C:s.length<=1048576)(w H:Hp):∀ (k p:Nat),s.length-p=k->p<=s.length ->
 QV (.str s) (J wA (p:Int)) w H=some (J wA ((p+Zt (s.drop p):Nat):Int),H):=by
 intro k
 induction k with
 |zero =>
  intro p hk A;rw[RY];have g:decide ((p:Int)<(s.length:Int))=false:=by simp;omega
  have z:s.drop p=[]:=zG.2 (by omega);simp only[go_sem,g,z,Zuk,xK,JO]
 |succ k B =>
  intro p hk A;rw[RY];have g:decide ((p:Int)<(s.length:Int))=true:=by simp;omega
  have h:p<s.length:=by omega
  have hw:xZ.wrap ((p:Int)+1)=((p+1:Nat):Int):=by rw[Zp (by omega) (by omega)];omega
  simp only[go_sem,g,ZX (zC h)];rw[Qj h,ZiV]
  cases j:decide (48<=((s[p].toNat:Int))) with
  |false=>simp only[isD,j,go_sem,yH,zD,if_false,xK,JO]
  |true =>
   cases u:decide (((s[p].toNat:Int))<=57) with
   |false=>simp only[isD,j,u,go_sem,ZX (zC h),Bool.and_false,zD,if_false,xK,JO]
   |true =>
    simp only[isD,j,u,go_sem,ZX (zC h),xR,if_true,Za0,hw];rw[B (p+1) (by omega) (by omega),show p+1+Zt (s.drop (p+1))=p+(Zt (s.drop (p+1))+1) by omega]
theorem ZfS (s:List UInt8)(g:s.length<=1048576)(H:Hp):Zh JF [.str s] H=some (J wA (Zt s:Int),H):=by
 refine XO (a':=.str s) (H1:=[]) rfl ?_ rfl;rw[ZbE];have:=Zor g [] [] s.length 0 rfl (by omega);rw[show ((0:Nat):Int)=0 from rfl,zQ,zF]at this;exact this
def dg (b:UInt8):Int:=IntKind.u8.wrap ((b.toNat:Int)-48)
theorem Wx (b:UInt8):0<=dg b/\dg b<=255:=by
 unfold dg;have h:=b.toNat_lt;show 0<=((b.toNat:Int)-48) % 256/\((b.toNat:Int)-48) % 256<=255;omega
theorem Zxg (b:UInt8):Yr .i64 (.int .u8 (IntKind.u8.wrap ((b.toNat:Int)-48)))=some (J wA (dg b)):=by
 have:=Wx b;show some (zN .i64 (xZ.wrap (dg b)))=_;rw[Zp (by omega) (by omega)]
def fr:Nat->List UInt8->Int->Int
 |0,_,d=>d
 |k+1,[],d=>fr k [] (d*10)
 |k+1,b::l,d=>fr k l (d*10+dg b)
theorem Zz3 (k:Nat)(d:Int):fr (k+1) [] d=fr k [] (d*10):=(Eq.refl _).trans (Eq.refl _)
theorem Zy0 (k:Nat)(b:UInt8)(l:List UInt8)(d:Int):fr (k+1) (b::l) d=fr k l (d*10+dg b):=(Eq.refl _).trans (Eq.refl _)
theorem Ztc (s:List UInt8)(Q:s.length<=1048576)(F H:Hp):∀ (k i:Nat) (d p:Int),i+k=4->0<=d->d+1000<=2000000000*p->p*10 ^ k<=10000 ->
 UL (.str s) (J wA d) (J wA (i:Int)) F H=some (J wA (fr k (s.drop i) d),H):=by
 intro k
 induction k with
 |zero =>
  intro i d p A I K D;rw[DG];have h:decide ((i:Int)<4)=false:=by simp;omega
  simp only[go_sem,h,AR,fr]
 |succ k E =>
  intro i d p A I K D;rw[DG];have h:decide ((i:Int)<4)=true:=by simp;omega
  have w:xZ.wrap ((i:Int)+1)=((i+1:Nat):Int):=by rw[Zp (by omega) (by omega)];omega
  have j:p*10*10 ^ k<=10000:=by rw[Int.mul_assoc,show (10:Int)*10 ^ k=10 ^ (k+1) by rw[Int.pow_succ,Int.mul_comm]];exact D
  have B:(1:Int)<=10 ^ k:=Int.add_one_le_iff.2 (Int.pow_pos (by decide))
  have O:p*10<=10000:=by
   by_cases N:0<=p
   ·have:=Int.mul_le_mul_of_nonneg_left B (show 0<=p*10 by omega);omega
   ·omega
  have C:xZ.wrap (d*10)=d*10:=Zp (by omega) (by omega);simp only[go_sem,h,AS,C,YK];by_cases hi:i<s.length
  ·have hb:=Wx s[i];have g:decide ((i:Int)<(s.length:Int))=true:=by simp;omega
   have u:xZ.wrap (d*10+dg s[i])=d*10+dg s[i]:=Zp (by omega) (by omega);simp only[g,go_sem,ZX (zC hi),Zxg,u,DF,w];rw[E (i+1) _ (p*10) (by omega) (by omega) (by omega) j,Qj hi,Zy0]
  ·have g:decide ((i:Int)<(s.length:Int))=false:=by simp;omega
   have M:s.drop i=[]:=zG.2 (by omega);have z:s.drop (i+1)=[]:=zG.2 (by omega);simp only[g,go_sem,DF,w];rw[E (i+1) _ (p*10) (by omega) (by omega) (by omega) j,M,z,Zz3]
theorem Ztb (s:List UInt8)(g:s.length<=1048576)(H:Hp):Zh Gs [.str s] H=some (J wA (fr 4 s 0),H):=by
 refine XO (a':=.str s) (H1:=[]) rfl ?_ rfl;rw[Ij];have:=Ztc s g [] [] 4 0 0 1 rfl (by omega) (by omega) (by decide);rw[show ((0:Nat):Int)=0 from rfl,zQ]at this;exact this
def Zey:List UInt8->Int->Option Int
 |[],d=>some d
 |b::l,d=>if 1000000000<d*10+dg b then none else Zey l (d*10+dg b)
theorem Zl5 (b:UInt8)(l:List UInt8)(d:Int):Zey (b::l) d=if 1000000000<d*10+dg b then none else Zey l (d*10+dg b):=(Eq.refl _).trans (Eq.refl _)
theorem Zkt (l:List UInt8):0<=fr 4 l 0/\fr 4 l 0<=1000000:=by
 match l with
 |[]=>simp[fr]
 |[a]=>have:=Wx a;simp[fr];omega
 |[a,b]=>have:=Wx a;have:=Wx b;simp[fr];omega
 |[a,b,c]=>have:=Wx a;have:=Wx b;have:=Wx c;simp[fr];omega
 |a::b::c::d::l=>have:=Wx a;have:=Wx b;have:=Wx c;have:=Wx d;simp[fr];omega
def Zrk (w f:List UInt8):Option Int:=match Zey w 0 with
 |none=>none
 |some d=>some (d*10000+fr 4 f 0)
def PW (w f:List UInt8):Int:=match Zrk w f with
 |none=>10000000000001
 |some n=>min 10000000000001 n
theorem Zs0 (s f:List UInt8)(I:s.length<=1048576)(D:f.length<=1048576)(A H:Hp):∀ (r done:List UInt8) (d:Int),s=done++r->0<=d->d<=1000000000 ->
 JQ (.str s) (.str f) (J wA d) (J wA (s.length:Int)) (J wA (done.length:Int)) A H=some (J wA (match Zey r d with
  |none=>10000000000001
  |some n=>min 10000000000001 (n*10000+fr 4 f 0)),H):=by
 intro r
 induction r with
 |nil =>
  intro done d u B C;rw[yA]at u;subst u;rw[TQ];have g:decide ((s.length:Int)<(s.length:Int))=false:=by simp
  have E:=Zkt f;have h:xZ.wrap (d*10000)=d*10000:=Zp (by omega) (by omega);have j:xZ.wrap (d*10000+fr 4 f 0)=d*10000+fr 4 f 0:=Zp (by omega) (by omega);simp only[go_sem,g,ZbN,h,Ztb f D,j,Zey]
 |cons b r F =>
  intro done d u B C;have hlen:s.length=done.length+(r.length+1):=by rw[u];simp
  have g:decide ((done.length:Int)<(s.length:Int))=true:=by simp;omega
  have z:xZ.wrap ((done.length:Int)+1)=((done.length+1:Nat):Int):=by rw[Zp (by omega) (by omega)];omega
  have hb:=Wx b;have h:xZ.wrap (10*d)=d*10:=by rw[Zp (by omega) (by omega)];omega
  have j:xZ.wrap (d*10+dg b)=d*10+dg b:=Zp (by omega) (by omega);rw[TQ,Zl5];simp only[go_sem,g,ZbO,h,ZmW u,Zxg,j];by_cases w:1000000000<d*10+dg b
  ·simp only[decide_eq_true w,go_sem,if_pos w]
  ·have:=F (done++[b]) (d*10+dg b) (by rw[u];simp) (by omega) (by omega);rw[zY,zX]at this;simp only[decide_eq_false w,go_sem,if_neg w,ZbP,z,this]
theorem ZrZ (s f:List UInt8)(h:s.length<=1048576)(g:f.length<=1048576)(H:Hp):Zh Ro [.str s,.str f] H=some (J wA (PW s f),H):=by
 refine Fk (a':=.str s) (b':=.str f) (H1:=[]) rfl rfl ?_ rfl;rw[Zcu];unfold CJ;have:=Zs0 s f h g [] [] s [] 0 rfl (by omega) (by omega);rw[zJ,show ((0:Nat):Int)=0 from rfl]at this;simp only[go_sem,this];unfold PW Zrk;cases Zey s 0 <;> rfl
def Zah (neg:Bool)(n:Nat)(w f:List UInt8):Int :=
 if n=0/\f=[] then 0 else if neg then -(min 10000000000000 (PW w f)) else min 10000000000000 (PW w f)
def I5 (neg:Bool)(r:List UInt8):Int :=
 match r.drop (Zt r) with
 |[]=>Zah neg (Zt r) (r.take (Zt r)) []
 |b::q=>if (((b.toNat:Int)==46)&&(decide (0<Zt r) || decide (0<Zt q)))=true then Zah neg (Zt r) (r.take (Zt r)) (q.take (Zt q)) else Zah neg (Zt r) (r.take (Zt r)) []
theorem ZwA {neg:Bool}{r:List UInt8}(h:r.drop (Zt r)=[]):I5 neg r=Zah neg (Zt r) (r.take (Zt r)) []:=by unfold I5;rw[h]
theorem ZtZ {neg:Bool}{r:List UInt8}{b:UInt8}{q:List UInt8}(h:r.drop (Zt r)=b::q):I5 neg r=if (((b.toNat:Int)==46)&&(decide (0<Zt r) || decide (0<Zt q)))=true then Zah neg (Zt r) (r.take (Zt r)) (q.take (Zt q)) else Zah neg (Zt r) (r.take (Zt r)) []:=by unfold I5;rw[h]
theorem ZrW:∀ (l:List UInt8) (d n:Int),0<=d->d<=1000000000->Zey l d=some n->0<=n/\n<=1000000000:=by
 intro l
 induction l with
 |nil=>intro d n g j h;injection h with h;subst h;exact⟨g,j⟩
 |cons b l u =>
  intro d n g j h;rw[Zl5]at h;have:=Wx b;split at h
  ·cases h
  ·exact u _ n (by omega) (by omega) h
theorem Zrl {w f:List UInt8}{n:Int}(h:Zrk w f=some n):0<=n/\n<=10000001000000:=by
 unfold Zrk at h;split at h
 ·cases h
 ·rename_i d g;injection h with h;have:=ZrW w 0 d (by omega) (by omega) g;have:=Zkt f;omega
theorem ZrV (w f:List UInt8):0<=PW w f/\PW w f<=10000000000001:=by
 unfold PW;split
 ·omega
 ·rename_i n h;have:=Zrl h;omega
theorem Zzz (x y:AV):ZJ (.tuple [x,y]) 0=some x:=rfl
theorem ZzA (x y:AV):ZJ (.tuple [x,y]) 1=some y:=rfl
theorem Zpi (n:Int):Xm .neg (J wA n)=some (J wA (xZ.wrap (0-n))):=(Eq.refl _).trans (Eq.refl _)
theorem ZiL (neg:Bool)(n:Nat)(w f:List UInt8)(hw:w.length<=1048576)(C:f.length<=1048576)(e:Int)(u H:Hp) :
 ∃ A,WK (.bool neg) (J wA (n:Int)) (.str w) (.str f) (J wA e) u H=some (.tuple [J wA (Zah neg n w f),J wA A],H):=by
 have D:=ZrV w f
 have h:VE (J wA 10000000000000) (J wA (PW w f))=some (J wA (min 10000000000000 (PW w f))):=by
  unfold VE;simp only[if_true];congr 2;split <;> omega
 have j:xZ.wrap (0-min 10000000000000 (PW w f))=-(min 10000000000000 (PW w f)):=by rw[Zp (by omega) (by omega)];omega
 have g:Db (.bool neg) (.str w) (.str f) (J wA e) u H=some (.tuple [J wA (if neg then -(min 10000000000000 (PW w f)) else min 10000000000000 (PW w f)),J wA e],H):=by
  rw[OZ];simp only[go_sem,ZrZ w f hw C,h]
  cases neg with
  |true=>simp only[go_sem,Zpi,j,RV,if_true]
  |false=>simp only[go_sem,RV,zD,if_false]
 have z:Yx .eql (.str f) (.str [])=some (.bool (f==[])):=rfl;rw[OY];unfold Zah
 cases n with
 |zero =>
  cases f with
  |nil=>exact⟨0,by simp[go_sem,Yx];rfl⟩
  |cons b f =>
   have z:Yx .eql (.str (b::f)) (.str [])=some (.bool false):=rfl;refine⟨e,?_⟩;simp[go_sem,z,g]
 |succ n =>
  refine⟨e,?_⟩
  have B:(((n+1:Nat):Int)==0)=false:=by
   rw[beq_eq_false_iff_ne];omega
  simp only[go_sem,B,g];simp
theorem ZnD {s:List UInt8}{i:Nat}(h:i<=s.length):ZU (.str s) (some (J wA (i:Int))) none none=some (.str (s.drop i)):=by
 rw[Ls .i64 (by omega) (by omega)];simp
theorem ZiK (s:List UInt8)(X:s.length<=1048576)(neg:Bool){i:Nat}(hi:i<=s.length)(K H:Hp) :
 ∃ e,QT (.str s) (J wA (i:Int)) (.bool neg) K H=some (.tuple [J wA (I5 neg (s.drop i)),J wA e],H):=by
 have W:(s.drop i).length=s.length-i:=yL;have hn:=ZnC (s.drop i);have S:xZ.wrap ((i:Int)+(Zt (s.drop i):Int))=((i+Zt (s.drop i):Nat):Int):=by rw[Zp (by omega) (by omega)];omega
 have R:(s.take (i+Zt (s.drop i))).drop i=(s.drop i).take (Zt (s.drop i)):=by rw[xQ];congr 1;omega
 rw[OX];simp only[go_sem,ZnD hi,ZfS _ (show (s.drop i).length<=1048576 by omega),S,FF (show i<=i+Zt (s.drop i) by omega) (show i+Zt (s.drop i)<=s.length by omega),R,YK];have w:((s.drop i).take (Zt (s.drop i))).length<=1048576:=by rw[yW];omega
 by_cases N:i+Zt (s.drop i)<s.length
 ·have O:decide (((i+Zt (s.drop i):Nat):Int)<(s.length:Int))=true:=by simp;omega
  have Q:(s.drop i).drop (Zt (s.drop i))=s[i+Zt (s.drop i)]::s.drop (i+Zt (s.drop i)+1):=by
   rw[List.drop_drop,Qj N]
  have j:xZ.wrap (((i+Zt (s.drop i):Nat):Int)+1)=((i+Zt (s.drop i)+1:Nat):Int):=by rw[Zp (by omega) (by omega)];omega
  have V:(s.drop (i+Zt (s.drop i)+1)).length=s.length-(i+Zt (s.drop i)+1):=yL;have hk:=ZnC (s.drop (i+Zt (s.drop i)+1));rw[ZtZ Q];simp only[O,go_sem,ZX (zC N)]
  cases T:((s[i+Zt (s.drop i)].toNat:Int)==46) with
  |false =>
   simp only[go_sem,yH,zD,if_false];exact ZiL neg _ _ _ w (by simp) _ K H
  |true =>
   have A:xZ.wrap (((i+Zt (s.drop i)+1:Nat):Int)+(Zt (s.drop (i+Zt (s.drop i)+1)):Int))=((i+Zt (s.drop i)+1+Zt (s.drop (i+Zt (s.drop i)+1)):Nat):Int):=by rw[Zp (by omega) (by omega)];omega
   have B:xZ.wrap ((1:Int)+(Zt (s.drop (i+Zt (s.drop i)+1)):Int))=((1+Zt (s.drop (i+Zt (s.drop i)+1)):Nat):Int):=by rw[Zp (by omega) (by omega)];omega
   have z:(s.take (i+Zt (s.drop i)+1+Zt (s.drop (i+Zt (s.drop i)+1)))).drop (i+Zt (s.drop i)+1)=(s.drop (i+Zt (s.drop i)+1)).take (Zt (s.drop (i+Zt (s.drop i)+1))):=by rw[xQ];congr 1;omega
   have hfl:((s.drop (i+Zt (s.drop i)+1)).take (Zt (s.drop (i+Zt (s.drop i)+1)))).length<=1048576:=by rw[yW];omega
   have h:∀ n:Nat,decide ((0:Int)<(n:Int))=decide (0<n):=fun n=>by simp
   simp only[go_sem,j,ZnD (show i+Zt (s.drop i)+1<=s.length by omega),ZfS _ (show (s.drop (i+Zt (s.drop i)+1)).length<=1048576 by omega),h,zW]
   have g:∃ e,(Z0 (Z4 .add (J wA ((i+Zt (s.drop i):Nat):Int)) (J wA 1)) fun C =>
    Z0 (Z4 .add (J wA ((i+Zt (s.drop i):Nat):Int)) (J wA 1)) fun D =>
    Z0 (Z4 .add D (J wA (Zt (s.drop (i+Zt (s.drop i)+1)):Int))) fun E =>
    Z0 (ZU (.str s) (some C) (some E) none) fun F =>
    Z0 (Z4 .add (J wA 1) (J wA (Zt (s.drop (i+Zt (s.drop i)+1)):Int))) fun I =>
    Z0 (Z4 .add (J wA ((i+Zt (s.drop i):Nat):Int)) I) fun u =>
    WK (.bool neg) (J wA (Zt (s.drop i):Int)) (.str ((s.drop i).take (Zt (s.drop i)))) F u K H)=some (.tuple [J wA (Zah neg (Zt (s.drop i)) ((s.drop i).take (Zt (s.drop i))) ((s.drop (i+Zt (s.drop i)+1)).take (Zt (s.drop (i+Zt (s.drop i)+1))))),J wA e],H):=by
    simp only[go_sem,j,A,B,FF (show i+Zt (s.drop i)+1<=i+Zt (s.drop i)+1+Zt (s.drop (i+Zt (s.drop i)+1)) by omega) (show i+Zt (s.drop i)+1+Zt (s.drop (i+Zt (s.drop i)+1))<=s.length by omega),z];exact ZiL neg _ _ _ w hfl _ K H
   simp only[go_sem,j,A,B,FF (show i+Zt (s.drop i)+1<=i+Zt (s.drop i)+1+Zt (s.drop (i+Zt (s.drop i)+1)) by omega) (show i+Zt (s.drop i)+1+Zt (s.drop (i+Zt (s.drop i)+1))<=s.length by omega),z]at g
   cases U:decide (0<Zt (s.drop i)) with
   |true =>
    simp only[go_sem,zO,if_true,j,A,B,FF (show i+Zt (s.drop i)+1<=i+Zt (s.drop i)+1+Zt (s.drop (i+Zt (s.drop i)+1)) by omega) (show i+Zt (s.drop i)+1+Zt (s.drop (i+Zt (s.drop i)+1))<=s.length by omega),z];exact g
   |false =>
    cases M:decide (0<Zt (s.drop (i+Zt (s.drop i)+1))) with
    |true =>
     simp only[go_sem,h,M,yY,if_true,j,A,B,FF (show i+Zt (s.drop i)+1<=i+Zt (s.drop i)+1+Zt (s.drop (i+Zt (s.drop i)+1)) by omega) (show i+Zt (s.drop i)+1+Zt (s.drop (i+Zt (s.drop i)+1))<=s.length by omega),z];exact g
    |false =>
     simp only[go_sem,h,M,xI,zD,if_false];exact ZiL neg _ _ _ w (by simp) _ K H
 ·have O:decide (((i+Zt (s.drop i):Nat):Int)<(s.length:Int))=false:=by simp;omega
  have Q:(s.drop i).drop (Zt (s.drop i))=[]:=zG.2 (by omega);rw[ZwA Q];simp only[O,go_sem];exact ZiL neg _ _ _ w (by simp) _ K H
def Zru:List UInt8->Int
 |[]=>I5 false []
 |b::r=>if (((b.toNat:Int)==45) || ((b.toNat:Int)==43))=true then I5 ((b.toNat:Int)==45) r else I5 ((b.toNat:Int)==45) (b::r)
theorem ZtY (b:UInt8)(r:List UInt8):Zru (b::r)=if (((b.toNat:Int)==45) || ((b.toNat:Int)==43))=true then I5 ((b.toNat:Int)==45) r else I5 ((b.toNat:Int)==45) (b::r):=(Eq.refl _).trans (Eq.refl _)
def Zrv (s:List UInt8):Int:=Zru (s.drop (YA s))
theorem Zu0 (s:List UInt8)(z:s.length<=1048576){i:Nat}(hi:i<=s.length)(u H:Hp) :
 ∃ e,Da (.str s) (J wA (i:Int)) u H=some (.tuple [J wA (Zru (s.drop i)),J wA e],H):=by
 rw[OW];by_cases h:i<s.length
 ·have j:decide ((i:Int)<(s.length:Int))=true:=by simp;omega
  have w:xZ.wrap ((i:Int)+1)=((i+1:Nat):Int):=by rw[Zp (by omega) (by omega)];omega
  have g:=ZX (zC h);rw[Qj h];simp only[YK,go_sem,j,g,ZtY]
  cases C:((s[i].toNat:Int)==45) with
  |true =>
   simp only[go_sem,j,g,w,zO,if_true];exact ZiK s z true (by omega) u H
  |false =>
   simp only[go_sem,YK,j,g]
   cases B:((s[i].toNat:Int)==43) with
   |true =>
    simp only[go_sem,j,g,w,yY,if_true];exact ZiK s z false (by omega) u H
   |false =>
    simp only[go_sem,xI,Bool.or_self,zD,if_false];rw[<-Qj h];exact ZiK s z false (by omega) u H
 ·have j:decide ((i:Int)<(s.length:Int))=false:=by simp;omega
  have A:s.drop i=[]:=zG.2 (by omega);simp only[YK,go_sem,j,A];have:=ZiK s z false hi u H;rw[A]at this;exact this
theorem Zzk (s:List UInt8)(F:s.length<=1048576)(C H:Hp):∀ (k i:Nat),s.length-i=k->i<=s.length ->
 ∃ e,QU (.str s) (J wA (i:Int)) C H=some (.tuple [J wA (Zru ((s.drop i).drop (YA (s.drop i)))),J wA e],H):=by
 intro k
 induction k with
 |zero =>
  intro i hk hi;have u:decide ((i:Int)<(s.length:Int))=false:=by simp;omega
  have I:s.drop i=[]:=zG.2 (by omega);rw[RX];simp only[YK,go_sem,u];have:=Zu0 s F hi C H;rw[I]at this ⊢;exact this
 |succ k K =>
  intro i hk hi;have D:i<s.length:=by omega
  have u:decide ((i:Int)<(s.length:Int))=true:=by simp;omega
  have A:xZ.wrap ((i:Int)+1)=((i+1:Nat):Int):=by rw[Zp (by omega) (by omega)];omega
  have z:=ZX (zC D);have B:=K (i+1) (by omega) (by omega)
  have g:Xr s[i]=true->(s.drop i).drop (YA (s.drop i))=(s.drop (i+1)).drop (YA (s.drop (i+1))):=fun h=>by
   rw[Qj D,Uc,h,if_pos rfl,List.drop_succ_cons]
  have w:Xr s[i]=false->(s.drop i).drop (YA (s.drop i))=s.drop i:=fun h=>by
   rw[Qj D,Uc,h];simp
  have hb:Xr s[i]=(((s[i].toNat:Int)==32) || ((s[i].toNat:Int)==9)):=by
   rw[Xr,(Hm s[i]).1,(Hm s[i]).2]
  rw[RX];simp only[YK,go_sem,u,z]
  cases j:((s[i].toNat:Int)==32) with
  |true =>
   simp only[go_sem,RW,A];rw[g (by rw[hb,j];rfl)];exact B
  |false =>
   simp only[go_sem,z]
   cases E:((s[i].toNat:Int)==9) with
   |true =>
    simp only[go_sem,RW,A];rw[g (by rw[hb,j,E];rfl)];exact B
   |false =>
    simp only[go_sem];rw[w (by rw[hb,j,E];rfl)];exact Zu0 s F hi C H
theorem Znh (s:List UInt8)(g:s.length<=1048576)(H:Hp):∃ e,Zh JE [.str s] H=some (.tuple [J wA (Zrv s),J wA e],H):=by
 obtain⟨e,h⟩:=Zzk s g [] [] _ 0 rfl (xC _);rw[show ((0:Nat):Int)=0 from rfl,zQ]at h;refine⟨e,XO (a':=.str s) (H1:=[]) rfl ?_ rfl⟩;rw[ZbD];exact h
def I6 (a b:Int):Int:=if a<b then -1 else if b<a then 1 else 0
theorem Zuj (a b:Int)(H:Hp):Zh Pm [J wA a,J wA b] H=some (J wA (I6 a b),H):=by
 refine Fk (a':=J wA a) (b':=J wA b) (H1:=[]) rfl rfl ?_ rfl;rw[Zf0];unfold Iz I6;by_cases h:a<b
 ·simp only[go_sem,decide_eq_true h,if_pos h]
 ·by_cases g:b<a
  ·simp only[go_sem,decide_eq_false h,if_neg h,decide_eq_true g,if_pos g]
  ·simp only[go_sem,decide_eq_false h,if_neg h,decide_eq_false g,if_neg g,Zet]
def ZeF (b:UInt8):Bool:=Xr b || Ztw b.toNat || N9 b.toNat
def Fj (s:List UInt8):List UInt8:=s.filter ZeF
theorem ZsP:((yQ 256).all fun n=>(RP (ZlJ (.bool (Xr (yG n))) (.int .u8 (n:Int)))==some (ZeF (yG n)))&&(RP (Zu6 (.bool (Xr (yG n))) (.int .u8 (n:Int)))==some (ZeF (yG n))))=true:=by kernel_rfl
theorem Zvv (b:UInt8):ZlJ (.bool (Xr b)) (.int .u8 b.toNat)=some (.bool (ZeF b))/\Zu6 (.bool (Xr b)) (.int .u8 b.toNat)=some (.bool (ZeF b)):=by
 have:=WM ZsP (ZeP b);rw[xN,yN,beq_iff_eq,beq_iff_eq]at this;exact⟨QG this.1,QG this.2⟩
theorem Zva (g:List UInt8)(b:UInt8)(h:g.length<=1048576):byteE.run [.ptr 0 0,.int .u8 b.toNat] [yZ 201 5 g]=some (.nili,[yZ 201 5 (g++[b])]):=by
 have hb:=b.toNat_lt;have u:g.length+1<=ZgT:=by unfold ZgT;omega
 have j:ZhU [.int .u8 b.toNat]=some fun l=>if l.length+1<=ZgT then some (.nili,l++[yG (b.toNat:Int).toNat]) else none:=by
  simp only[ZhU,if_pos (show (0:Int)<=(b.toNat:Int)/\(b.toNat:Int)<256 by omega)]
 simp only[byteE,Zxb,ZjA,ER,j,zB,Zgz,Pu,Pv,and_self,if_true,if_pos u,xJ,Int.toNat_natCast,xN]
theorem ZiX (g:List UInt8):stringE.run [.ptr 0 0] [yZ 201 5 g]=some (.str g,[yZ 201 5 g]):=rfl
theorem ZsR (s:List UInt8)(B:s.length<=1048576)(A:Hp):∀ (r done:List UInt8) (g:List UInt8),s=done++r->g.length<=done.length ->
 ∃ H',Gk (.str s) (.ptr 0 0) (J wA (s.length:Int)) (J wA (done.length:Int)) A [yZ 201 5 g]=some (.str (g++Fj r),H'):=by
 intro r
 induction r with
 |nil =>
  intro done g j ha;rw[yA]at j;subst j;have u:decide ((s.length:Int)<(s.length:Int))=false:=by simp
  refine⟨[yZ 201 5 g],?_⟩;rw[NX];simp only[go_sem,u,Zer,ZiX];simp[Fj]
 |cons b r z =>
  intro done g j ha;have hlen:s.length=done.length+(r.length+1):=by rw[j];simp
  have u:decide ((done.length:Int)<(s.length:Int))=true:=by simp;omega
  have w:xZ.wrap ((done.length:Int)+1)=((done.length+1:Nat):Int):=by rw[Zp (by omega) (by omega)];omega
  rw[NX];simp only[go_sem,u,ZaQ,ZmW j,OQ,(Zvv b).1]
  cases hb:ZeF b with
  |true =>
   obtain⟨H',h⟩:=z (done++[b]) (g++[b]) (by rw[j];simp) (by simp;omega);rw[zY,zX]at h;refine⟨H',?_⟩;simp only[go_sem,Zva g b (by omega),NW,w,h,Fj,xP,hb,if_true,List.append_assoc,List.singleton_append]
  |false =>
   obtain⟨H',h⟩:=z (done++[b]) g (by rw[j];simp) (by simp;omega);rw[zY,zX]at h;refine⟨H',?_⟩;simp only[go_sem,NW,w,h,Fj,xP,hb,zD,if_false]
theorem ZsQ (s:List UInt8)(g:s.length<=1048576)(H:Hp):Zh Pl [.str s] H=some (.str (Fj s),H):=by
 obtain⟨H',h⟩:=ZsR s g [] s [] [] rfl (yS _);rw[zJ,show ((0:Nat):Int)=0 from rfl,zI]at h;refine XO (a':=.str s) (H1:=H') rfl ?_ rfl;rw[ZeZ];unfold Iy;simp only[go_sem,zJ,zI,h]
theorem Px (s:List UInt8):(Fj s).length<=s.length:=List.length_filter_le _ _
def Xn (s:List UInt8):List UInt8:=s.drop (YA s)
theorem Za2 (s:List UInt8):(Xn s).length<=s.length:=by unfold Xn;rw[yL];omega
theorem Zos (b:UInt8)(s:List UInt8):Xn (b::s)=if Xr b then Xn s else b::s:=by
 unfold Xn;rw[Uc];split <;> simp
theorem ZrQ (s:List UInt8):Go.Lib.trimLeftS s [32,9]=Xn s:=by
 unfold Go.Lib.trimLeftS
 induction s with
 |nil=>rfl
 |cons b s g =>
  rw[Zos,List.dropWhile_cons]
  have:([32,9]:List UInt8).contains b=Xr b:=by
   rw[yD,yD,Xr];simp
  rw[this,g]
theorem Zuy (s:List UInt8)(H:Hp):Zh D3 [.str s] H=some (.str (Xn s),H):=by
 refine XO (a':=.str s) (H1:=[]) rfl ?_ rfl;rw[OD];unfold MH
 have:ZeO [.str s,.str [32,9]]=some (.str (Xn s)):=by
  unfold ZeO;dsimp only;rw[if_pos ⟨by decide,by decide⟩,ZrQ]
 simp only[go_sem,ZaX,this]
theorem Zzu (L:Loc)(s:List UInt8):(upS L s).length=s.length:=by simp[upS,Vw]
theorem Zt9 {l:List AV}{L:Loc}(h:LocCells l L)(hok:LocOk L)(s:List UInt8)(z:s.length<=1048576)(H:Hp):Zh D4 [.str s,.vp l] H=some (.str (upS L s),H):=by
 obtain⟨B,j,x,c,e,rfl,hx,u,w⟩:=h.close [] 0 5;have g:Ze [] 0 9 (.vp l)=some (.vp (L.cells x c e)):=by rw[Qh,j]
 refine Fk (a':=.str s) rfl g (H1:=[]) ?_ rfl;rw[OE];unfold MI;have A:=ZrS (L:=L) ⟨x,c,e,rfl,hx,u,w⟩ hok s z [];simp only[go_sem,Vr 6 (L.cells x c e) rfl,A.1]
def Qy (L:Loc)(n:Nat)(s:List UInt8):List UInt8 :=
 let s1:=if n.testBit 3 then Xn s else s
 let s2:=if n.testBit 4 then Fj s1 else s1
 if n.testBit 2 then upS L s2 else s2
theorem ZkV (L:Loc)(n:Nat)(s:List UInt8):(Qy L n s).length<=s.length:=by
 have g:=Za2 s;have h:=Px s;have j:=Px (Xn s);simp only[Qy];split <;> split <;> split <;> (try rw[Zzu]) <;> omega
theorem ZgY:∀ a b:List Int,Ub a b=-1\/Ub a b=0\/Ub a b=1:=by
 intro a
 induction a with
 |nil=>intro b;cases b <;> simp[Ub]
 |cons x a g =>
  intro b
  cases b with
  |nil=>simp[Ub]
  |cons y b =>
   rw[JB];split
   ·simp
   ·split
    ·simp
    ·exact g b
theorem Zvk (a b:List UInt8):JN a b=-1\/JN a b=0\/JN a b=1:=by rw[<-Zmj];exact ZgY _ _
theorem Zmk (L:Loc)(a b:List UInt8):D9 L a b=-1\/D9 L a b=0\/D9 L a b=1:=by
 unfold D9;split
 ·exact ZgY _ _
 ·exact Zvk _ _
theorem ZnA (a b:Int):I6 a b=-1\/I6 a b=0\/I6 a b=1:=by
 unfold I6;split
 ·simp
 ·split <;> simp
def NP (L:Loc)(n:Nat)(x y:List UInt8):Int:=if n.testBit 0 then I6 (Zrv x) (Zrv y) else D9 L (Qy L n x) (Qy L n y)
def Qw (L:Loc)(n:Nat)(x y:List UInt8):Int:=if n.testBit 1 then -NP L n x y else NP L n x y
theorem ZnO {c t:Int}(g:c=-1\/c=0\/c=1)(h:t=1\/t=-1):xZ.wrap (t*c)=if t=-1 then -c else c:=by
 rcases h with rfl|rfl <;> rcases g with rfl|rfl|rfl <;> decide
section
variable {n:Nat}(hn:n<32)
include hn
theorem ZyM:Z4 .and (J wA n) (J wA 1)=some (J wA (if n.testBit 0 then 1 else 0)):=Zde (j:=0) hn (by decide)
theorem ZuW:Z4 .and (J wA n) (J wA 2)=some (J wA (if n.testBit 1 then 2 else 0)):=Zde (j:=1) hn (by decide)
theorem ZA1:Z4 .and (J wA n) (J wA 4)=some (J wA (if n.testBit 2 then 4 else 0)):=Zde (j:=2) hn (by decide)
theorem ZA2:Z4 .and (J wA n) (J wA 8)=some (J wA (if n.testBit 3 then 8 else 0)):=Zde (j:=3) hn (by decide)
theorem ZzC:Z4 .and (J wA n) (J wA 16)=some (J wA (if n.testBit 4 then 16 else 0)):=Zde (j:=4) hn (by decide)
end
theorem Zih {f:List AV->Hp->Z5}{a a' b b' c c' d d' v:AV}{H H1:Hp}(ha:Ze [] 0 9 a=some a')(hb:Ze [] 0 9 b=some b')(h:Ze [] 0 9 c=some c')(j:Ze [] 0 9 d=some d')(g:f [a',b',c',d'] []=some (v,H1))(u:Fl 3 v=true):Zh f [a,b,c,d] H=some (v,H) :=
 Wy (args':=[a',b',c',d']) (by simp[ha,hb,h,j]) g u
theorem Zn5 (L:Loc)(x c e:AV)(r:List AObj):Z3 true 6 (.ptr 0 0) (zA (L.cells x c e)::r)=some (.agg (L.cells x c e)):=by simp[Z3,Go.Am.apart,Loc.cells]
theorem Zye {c:Int}(g:c=-1\/c=0\/c=1):xZ.wrap (0-c)=-c:=by rcases g with rfl|rfl|rfl <;> decide
def GL (z:AObj)(n:Nat)(x y:List UInt8):Hp:=[z,.cells [J wA n],.cells [.str x],.cells [.str y]]
theorem AK {z:AObj}{n:Nat}{x y:List UInt8}{fnv:AV}{g:List UInt8->List UInt8}{m:Int}{h:Bool}(j:Z4 .and (J wA n) (J wA m)=some (J wA (if h then m else 0)))(hm:(m != 0)=true)
 (u:∀ s:List UInt8,(s=x\/s=y)->∀ H,Xz cfg (Zb cfg) fnv [.str s] H=some (.str (g s),H)) :
 D2 [J wA m,fnv,.ptr 1 0,.ptr 2 0,.ptr 3 0] (GL z n x y)=some (.tuple [],GL z n (if h then g x else x) (if h then g y else y)):=by
 have w:Z3 false 1 (.ptr 1 0) (GL z n x y)=some (J wA n):=Y2 (l:=[J wA n]) rfl;have A:Z3 false 1 (.ptr 2 0) (GL z n x y)=some (.str x):=Y2 (l:=[.str x]) rfl;have B:Z3 false 1 (.ptr 3 0) (GL z n x y)=some (.str y):=Y2 (l:=[.str y]) rfl;have C:Za 1 (.ptr 2 0) (.str (g x)) (GL z n x y)=some (.tuple [],GL z n (g x) y):=by simp[Za,YX,GL,yF,zV,splice]
 have D:Za 1 (.ptr 3 0) (.str (g y)) (GL z n (g x) y)=some (.tuple [],GL z n (g x) (g y)):=by simp[Za,YX,GL,yF,zV,splice]
 rw[OC];unfold MF
 cases h with
 |true=>simp only[go_sem,w,j,if_true,hm,A,u x (.inl rfl),B,u y (.inr rfl),C,D]
 |false=>simp only[go_sem,w,j,zD,if_false,bne_self_eq_false]
theorem ZiI {a:AV}{L:Loc}(h:LocAV a L)(hok:LocOk L){n:Nat}(hn:n<32)(s t:List UInt8)(I:s.length<=1048576)(ht:t.length<=1048576)(H:Hp):Zh Qd [a,J wA n,.str s,.str t] H=some (J wA (Qw L n s t),H):=by
 obtain⟨a1,X,T⟩:=h.close [] 0 5;have C:=T;obtain⟨x,c,e,rfl,hx,Y,Z⟩:=T;have E:LocCells (L.cells x c e) L:=⟨x,c,e,rfl,hx,Y,Z⟩
 suffices I:∃ H1,Qd [.agg (L.cells x c e),J wA n,.str s,.str t] []=some (J wA (Qw L n s t),H1) by
  obtain⟨H1,w⟩:=I;exact Zih X (b':=J wA n) (c':=.str s) (d':=.str t) rfl rfl rfl w rfl
 have B:∀ z x y,Z3 false 1 (.ptr 1 0) (GL z n x y)=some (J wA n):=fun z x y=>Y2 (l:=[J wA n]) rfl;have U:∀ z x y,Z3 false 1 (.ptr 2 0) (GL z n x y)=some (.str x):=fun z x y=>Y2 (l:=[.str x]) rfl;have V:∀ z x y,Z3 false 1 (.ptr 3 0) (GL z n x y)=some (.str y):=fun z x y=>Y2 (l:=[.str y]) rfl
 have D:∀ (z:Int) (j:z=1\/z=-1),∃ H1,FO (.ptr 0 0) (.ptr 1 0) (.ptr 2 0) (.ptr 3 0) (J wA z) [] (GL (.cells (L.cells x c e)) n s t)=some (J wA (if z=-1 then -D9 L (Qy L n s) (Qy L n t) else D9 L (Qy L n s) (Qy L n t)),H1):=fun z j=>by
  have R:=AK (z:=.cells (L.cells x c e)) (n:=n) (x:=s) (y:=t) (fnv:=.fn (.func 115) [] []) (g:=Xn) (m:=8) (ZA2 hn) rfl (fun r _ H=>by rw[Zf1];exact Zuy r H);have d1:=Za2 s;have d2:=Za2 t
  have S:=AK (z:=.cells (L.cells x c e)) (n:=n) (x:=if n.testBit 3 then Xn s else s) (y:=if n.testBit 3 then Xn t else t) (fnv:=.fn (.func 117) [] []) (g:=Fj) (m:=16) (ZzC hn) rfl (fun r w H=>by
   rw[Zjv];refine ZsQ r ?_ H;rcases w with rfl|rfl <;> split <;> omega)
  have W:=AK (z:=.dead) (n:=n) (x:=if n.testBit 4 then Fj (if n.testBit 3 then Xn s else s) else (if n.testBit 3 then Xn s else s)) (y:=if n.testBit 4 then Fj (if n.testBit 3 then Xn t else t) else (if n.testBit 3 then Xn t else t)) (fnv:=.fn (.func 118) [] [.vp (L.cells x c e)]) (g:=upS L) (m:=4) (ZA1 hn) rfl (fun r w H=>by
   rw[Zf2];refine Zt9 E hok r ?_ H;have:=Px s;have:=Px t;have:=Px (Xn s);have:=Px (Xn t);rcases w with rfl|rfl <;> split <;> split <;> omega)
  have aa:=ZkV L n s;have ab:=ZkV L n t;have F:∀ (M N:List UInt8) (k:AV->Hp->Z5),UZ (.ptr 0 0) (GL (.cells (L.cells x c e)) n M N) k=k (.vp (L.cells x c e)) (GL .dead n M N):=fun M N k=>rfl;refine⟨GL .dead n (Qy L n s) (Qy L n t),?_⟩;rw[Zcj];simp only[go_sem,Zfc,zI,zM,R,S,F,W,Vr 6 (L.cells x c e) rfl,U,V];have K:∀ r,(if n.testBit 2=true then upS L (if n.testBit 4=true then Fj (if n.testBit 3=true then Xn r else r) else if n.testBit 3=true then Xn r else r) else if n.testBit 4=true then Fj (if n.testBit 3=true then Xn r else r) else if n.testBit 3=true then Xn r else r)=Qy L n r:=fun r=>rfl;simp only[K,ZkB C hok (Qy L n s) (Qy L n t) (by omega) (by omega),go_sem,ZnO (Zmk _ _ _) j]
 have u:∀ (z:Int) (j:z=1\/z=-1),∃ H1,Ki (.ptr 0 0) (.ptr 1 0) (.ptr 2 0) (.ptr 3 0) (J wA z) [] (GL (.cells (L.cells x c e)) n s t)=some (J wA (if z=-1 then -NP L n s t else NP L n s t),H1):=fun z j=>by
  rw[Zci];unfold NP
  cases hb:n.testBit 0 with
  |true =>
   obtain⟨R,p1⟩:=Znh s I (GL (.cells (L.cells x c e)) n s t);obtain⟨S,p2⟩:=Znh t ht (GL (.cells (L.cells x c e)) n s t);refine⟨GL (.cells (L.cells x c e)) n s t,?_⟩;simp only[go_sem,B,ZyM hn,hb,if_true,show ((1:Int) != 0)=true from rfl,U,V,p1,p2,Zzz,ZzA,Zuj,ZnO (ZnA _ _) j]
  |false =>
   obtain⟨H1,q⟩:=D z j;refine⟨H1,?_⟩;simp only[go_sem,B,ZyM hn,hb,zD,if_false,bne_self_eq_false];exact q
 have O:∀ (k:Int) (H:Hp),ZO (J wA k) H=some (.ptr H.length 0,H++[.cells [J wA k]]):=fun k H=>R4 rfl;have Q:∀ (k:List UInt8) (H:Hp),ZO (.str k) H=some (.ptr H.length 0,H++[.cells [.str k]]):=fun k H=>R4 rfl;rw[ZcH];unfold CS;have A:[zA (L.cells x c e),.cells [J wA n],.cells [.str s],.cells [.str t]]=GL (.cells (L.cells x c e)) n s t:=rfl;unfold Qw
 cases hb:n.testBit 1 with
 |true =>
  obtain⟨H1,q⟩:=u (-1) (.inr rfl);refine⟨H1,?_⟩;simp only[go_sem,O,Q,zJ,zL,zI,zM,zF,yO,A,B,ZuW hn,hb,if_true,show ((2:Int) != 0)=true from rfl];simpa using q
 |false =>
  obtain⟨H1,q⟩:=u 1 (.inl rfl);refine⟨H1,?_⟩;simp only[go_sem,O,Q,zJ,zL,zI,zM,zF,yO,A,B,ZuW hn,hb,zD,if_false,bne_self_eq_false];simpa using q
def plainP:Spec:=⟨[],-1,0,false,false⟩
def ZA (p:Spec):Spec:=if (ZM p != 0)=true then plainP else p
theorem Sl.known {k:Nat}{x:AV}{l:List AV}(h:Sl k x l):x.known=true:=by
 rcases h with ⟨rfl,_⟩|⟨tok,rfl⟩ <;> rfl
theorem Zj7 {a:AV}{p:Spec}(h:SpecAV a p)(H:Hp):∃ a',Zh VA [a] H=some (a',H)/\SpecAV a' (ZA p):=by
 obtain⟨F,C,D⟩:=h.close [] 0 5;have z:=fun H=>Lt D H;obtain⟨x,rfl,hx⟩:=D;have E:Z3 true 5 (.ptr 0 0) [zA (p.cells x),.cells [.nils,J wA 0,J wA 0,.bool false,.bool false]]=some (.agg (p.cells x)):=by simp[Z3,Go.Am.apart,Spec.cells]
 unfold ZA
 cases hb:(ZM p != 0) with
 |true =>
  have j:(YF [(1,1,(J wA (-1)))] [.nils,(J wA 0),(J wA 0),(.bool false),(.bool false)]).map AV.agg=some (.agg (plainP.cells .nils)):=rfl;have w:Za 5 (.ptr 1 0) (.agg (plainP.cells .nils)) [zA (p.cells x),.cells [.nils,J wA 0,J wA 0,.bool false,.bool false]]=some (.tuple [],[zA (p.cells x),.cells (plainP.cells .nils)]):=by simp[Za,YX,yF,zV,Spec.cells,splice]
  have u:Z3 true 5 (.ptr 1 0) [zA (p.cells x),.cells (plainP.cells .nils)]=some (.agg (plainP.cells .nils)):=by simp[Z3,Go.Am.apart,Spec.cells]
  have g:VA [.agg (p.cells x)] []=some (.agg (plainP.cells .nils),[zA (p.cells x),.cells (plainP.cells .nils)]):=by
   rw[Nk];unfold Rt;simp only[go_sem,zI,zJ,zL,zM,zF,E,z,hb,j,w,u]
  obtain⟨a',A,B⟩:=SpecAV.close (a:=.agg (plainP.cells .nils)) (p:=plainP) ⟨.nils,rfl,.inl ⟨rfl,rfl⟩⟩ [zA (p.cells x),.cells (plainP.cells .nils)] 0 5;exact⟨a',PD C g A,by simpa using B⟩
 |false =>
  have w:Za 5 (.ptr 1 0) (.agg (p.cells x)) [zA (p.cells x),.cells [.nils,J wA 0,J wA 0,.bool false,.bool false]]=some (.tuple [],[zA (p.cells x),.cells (p.cells x)]):=by simp[Za,YX,yF,zV,Spec.cells,splice]
  have u:Z3 true 5 (.ptr 1 0) [zA (p.cells x),.cells (p.cells x)]=some (.agg (p.cells x)):=by simp[Z3,Go.Am.apart,Spec.cells]
  have g:VA [.agg (p.cells x)] []=some (.agg (p.cells x),[zA (p.cells x),.cells (p.cells x)]):=by
   rw[Nk];unfold Rt;simp only[go_sem,zI,zJ,zL,zM,zF,E,z,hb,Zck,w,u]
  obtain⟨a',A,B⟩:=SpecAV.close (a:=.agg (p.cells x)) (p:=p) ⟨x,rfl,hx⟩ [zA (p.cells x),.cells (p.cells x)] 0 5;exact⟨a',PD C g A,by simpa using B⟩
theorem Zl7 (p:Spec):(0<=(ZA p).flags/\(ZA p).flags<=31)/\(ZA p).keys.length<=8/\∀ k∈(ZA p).keys,0<=k.fl/\k.fl<=31:=by
 unfold ZA
 cases hb:(ZM p != 0) with
 |true=>simp[plainP]
 |false =>
  rw[bne_eq_false_iff_eq]at hb;unfold ZM at hb;split at hb
  ·cases hb
  ·split at hb
   ·cases hb
   ·split at hb
    ·cases hb
    ·rename_i w g j;simp only[yP,decide_eq_true_eq,not_or]at g;simp only[zD,if_false];refine⟨by omega,by omega,fun k hk=>?_⟩;have u:¬ Kz k=true:=fun h=>j (List.any_eq_true.2 ⟨k,hk,h⟩);simp only[Kz,yP,decide_eq_true_eq,not_or]at u;omega
theorem Zg7 (p:Spec)(h:∀ k∈p.keys,KeOk k):∀ k∈(ZA p).keys,KeOk k:=by
 unfold ZA;split
 ·intro k hk;cases hk
 ·exact h
theorem ZsW (g:List UInt8)(fs:List (Nat×Nat))(k:Ke):(ex g fs k).length<=g.length:=by
 unfold ex;split
 ·dsimp only;split
  ·simp
  ·rw[yL,yW];omega
 ·simp
def Sr (p:Spec)(k:Ke):Nat:=if (k.fl==0)=true then p.flags.toNat else k.fl.toNat
def OT (L:Loc)(p:Spec)(a b:List UInt8):List Ke->Int
 |[]=>0
 |k::l=>if (Qw L (Sr p k) (ex a (fields a p.sep) k) (ex b (fields b p.sep) k) != 0)=true then Qw L (Sr p k) (ex a (fields a p.sep) k) (ex b (fields b p.sep) k) else OT L p a b l
theorem Zki (L:Loc)(p:Spec)(a b:List UInt8)(k:Ke)(l:List Ke):OT L p a b (k::l)=if (Qw L (Sr p k) (ex a (fields a p.sep) k) (ex b (fields b p.sep) k) != 0)=true then Qw L (Sr p k) (ex a (fields a p.sep) k) (ex b (fields b p.sep) k) else OT L p a b l:=(Eq.refl _).trans (Eq.refl _)
def Ziy (L:Loc)(p:Spec)(a b:List UInt8):Int:=if (p.keys.length==0)=true then Qw L p.flags.toNat a b else OT L p a b p.keys
def Wk (L:Loc)(p:Spec)(a b:List UInt8):Int:=Ziy L (ZA p) a b
def CSt (lc sc:List AV)(g h:AV)(H:Hp):Prop:=(g=.vp lc/\h=.vp sc)\/(g=.ptr 0 0/\h=.ptr 1 0/\H=[.cells lc,.cells sc])
theorem CSt.frz {lc sc:List AV}{z A:AV}{H:Hp}(h:CSt lc sc z A H)(w:List AV):∃ B,∀ K:AV->AV->AV->Hp->Z5,
 (UZ z (H++[.cells w]) fun z4 C=>UZ A C fun z5 D=>UZ (.ptr H.length 0) D fun j g=>K z4 z5 j g)=K (.vp lc) (.vp sc) (.vp w) B:=by
 rcases h with ⟨rfl,rfl⟩|⟨rfl,rfl,rfl⟩
 ·refine⟨H++[.dead],fun K=>?_⟩;have u:∀ (l:List AV) (H:Hp) (k:AV->Hp->Z5),UZ (.vp l) H k=k (.vp l) H:=fun l H k=>rfl;rw[u,u,ZvT]
 ·exact⟨[.dead,.dead,.dead],fun K=>rfl⟩
theorem CSt.fld {lc:List AV}{x:AV}{p:Spec}{j g:AV}{H:Hp}(h:CSt lc (p.cells x) j g H) :
 (∃ y,Z6 0 g=some y/\∀ r,Z3 false 1 y (H++r)=some x)/\(∃ y,Z6 2 g=some y/\∀ r,Z3 false 1 y (H++r)=some (J wA p.flags)):=by
 rcases h with ⟨rfl,rfl⟩|⟨rfl,rfl,rfl⟩
 ·exact⟨⟨.vp (p.cells x),rfl,fun r=>by simp only[Spec.cells,Zx]⟩,⟨.vp [J wA p.flags,.bool p.uniq,.bool p.stab],rfl,fun r=>by simp only[Zx]⟩⟩
 ·exact⟨⟨.ptr 1 0,rfl,fun r=>Y2 (l:=p.cells x) rfl⟩,⟨.ptr 1 2,rfl,fun r=>Y2 (l:=p.cells x) rfl⟩⟩
theorem vpf (x:AV)(p:Spec):Z6 1 (.vp (p.cells x))=some (.vp [J wA p.sep,J wA p.flags,.bool p.uniq,.bool p.stab]):=rfl
theorem Zq3 (L:Loc)(x c e:AV):Ji true 6 (.vp (L.cells x c e))=some (.agg (L.cells x c e)):=rfl
theorem Zsf (k:Ke):Ji true 5 (.vp k.cells)=some (.agg k.cells):=rfl
section
variable {L:Loc}{x c e:AV}(hav:LocAV (.agg (L.cells x c e)) L)(hok:LocOk L){p:Spec}{xk:AV}(hk:Sl 5 xk (p.keys.map Ke.av))(hlen:p.keys.length<=8)
 (hks:∀ k∈p.keys,KeOk k) (hkf:∀ k∈p.keys,0<=k.fl/\k.fl<=31) (hfl:0<=p.flags/\p.flags<=31) (a b:List UInt8) (ha:a.length<=1048576) (hb:b.length<=1048576)
include hav hok hk hlen hks hkf hfl ha hb
theorem Zvl:∀ (m i:Nat) (D E:AV) (H:Hp),p.keys.length-i=m->i<=p.keys.length->CSt (L.cells x c e) (p.cells xk) D E H ->
 ∃ H',QB (.str a) (.str b) D E xk (J wA (p.keys.length:Int)) (J wA (i:Int)) [] H=some (J wA (OT L p a b (p.keys.drop i)),H'):=by
 intro m
 induction m with
 |zero =>
  intro i D E H hm hi A;have z:decide ((i:Int)<(p.keys.length:Int))=false:=by simp;omega
  have W:p.keys.drop i=[]:=zG.2 (by omega);refine⟨H,?_⟩;rw[Rc];simp only[go_sem,z,Oi,W,OT]
 |succ m Y =>
  intro i D E H hm hi A;have u:i<p.keys.length:=by omega
  have z:decide ((i:Int)<(p.keys.length:Int))=true:=by simp;omega
  have hw:xZ.wrap ((i:Int)+1)=((i+1:Nat):Int):=by rw[Zp (by omega) (by omega)];omega
  have j:p.keys[i]∈p.keys:=yK u;have w:=hks _ j;have B:=hkf _ j;rw[zH u,Zki];have h:p.keys[i]?=some p.keys[i]:=zC u;generalize p.keys[i]=k at w B h;obtain⟨_,y,N,O⟩:=A.fld;obtain⟨R,K⟩:=A.frz k.cells;obtain⟨S,U,_⟩:=Zdw ha w p.sep R;obtain⟨F,V,_⟩:=Zdw hb w p.sep S;have l1:=ZsW a (fields a p.sep) k;have l2:=ZsW b (fields b p.sep) k;have hn:Sr p k<32:=by unfold Sr;split <;> omega
  have X:=ZiI hav hok hn (ex a (fields a p.sep) k) (ex b (fields b p.sep) k) (by omega) (by omega) F
  have g:∃ H',QA (.str a) (.str b) D E (.ptr H.length 0) (J wA (Sr p k:Int)) xk (J wA (p.keys.length:Int)) (J wA (i:Int)) [] (H++[.cells k.cells])=some (J wA (if (Qw L (Sr p k) (ex a (fields a p.sep) k) (ex b (fields b p.sep) k) != 0)=true then Qw L (Sr p k) (ex a (fields a p.sep) k) (ex b (fields b p.sep) k) else OT L p a b (p.keys.drop (i+1))),H'):=by
   rw[Ol,K];simp only[Zq3,Hl,vpf,Zx,Zq4,Zsf,go_sem,U,V,X]
   cases Z:(Qw L (Sr p k) (ex a (fields a p.sep) k) (ex b (fields b p.sep) k) != 0) with
   |true=>exact⟨F,by simp only[go_sem,if_true]⟩
   |false =>
    obtain⟨T,q⟩:=Y (i+1) (.vp (L.cells x c e)) (.vp (p.cells xk)) F (by omega) (by omega) (.inl ⟨rfl,rfl⟩);exact⟨T,by simp only[go_sem,zD,if_false,Ok,hw,q]⟩
  obtain⟨H',g⟩:=g;refine⟨H',?_⟩;have C:=Zdg H k [J wA 0,J wA 0,J wA 0,J wA 0,J wA 0] rfl;have M:Z3 false 1 (.ptr H.length (0+4)) (H++[.cells k.cells])=some (J wA k.fl):=ZH H k.cells 4;rw[Rc];simp only[go_sem,z,Oj,hk.key h,Hl,C,M]
  cases Q:(k.fl==0) with
  |true =>
   have I:(p.flags:Int)=((Sr p k:Nat):Int):=by unfold Sr;rw[Q,if_pos rfl];omega
   simp only[go_sem,N,O,I];exact g
  |false =>
   have I:(k.fl:Int)=((Sr p k:Nat):Int):=by unfold Sr;rw[Q,if_neg (by decide)];omega
   simp only[go_sem];rw[I];exact g
end
theorem Ze7 {a:AV}{L:Loc}(h:LocAV a L)(hok:LocOk L){q:AV}{p:Spec}(U:SpecAV q p)(hks:∀ k∈p.keys,KeOk k)(s t:List UInt8)(E:s.length<=1048576)(R:t.length<=1048576)(H:Hp) :
 Zh WI [a,q,.str s,.str t] H=some (J wA (Wk L p s t),H):=by
 obtain⟨Y,T,N⟩:=h.close [] 0 5;obtain⟨q1,S,K⟩:=U.close [] 0 5;have hav:=N;have W:=fun H=>Zj7 K H;obtain⟨x,c,e,rfl,hx,Z,he⟩:=N;obtain⟨xp,rfl,X⟩:=K;obtain⟨v',C,j,rfl,D⟩:=W [zA (L.cells x c e),.cells (p.cells xp)];obtain⟨hfl,hlen,hkf⟩:=Zl7 p;have z:=Zg7 p hks
 suffices E:∃ H1,WI [.agg (L.cells x c e),.agg (p.cells xp),.str s,.str t] []=some (J wA (Wk L p s t),H1) by
  obtain⟨H1,V⟩:=E;exact Zih T S (c':=.str s) (d':=.str t) rfl rfl V rfl
 have O:Z3 true 5 (.ptr 1 0) [zA (L.cells x c e),.cells (p.cells xp)]=some (.agg (p.cells xp)):=by simp[Z3,Go.Am.apart,Spec.cells]
 have B:Za 5 (.ptr 1 0) (.agg ((ZA p).cells j)) [zA (L.cells x c e),.cells (p.cells xp)]=some (.tuple [],[zA (L.cells x c e),.cells ((ZA p).cells j)]):=by simp[Za,YX,yF,zV,Spec.cells,splice]
 have w:Z3 false 1 (.ptr 1 (0+0)) [zA (L.cells x c e),.cells ((ZA p).cells j)]=some j:=Y2 (l:=(ZA p).cells j) rfl;have F:Z3 false 1 (.ptr 1 (0+2)) [zA (L.cells x c e),.cells ((ZA p).cells j)]=some (J wA (ZA p).flags):=Y2 (l:=(ZA p).cells j) rfl;have u:=D.len 119;rw[zP]at u;have A:=Zn5 L x c e [.cells ((ZA p).cells j)];have hn:(ZA p).flags.toNat<32:=by omega
 have I:((ZA p).flags:Int)=(((ZA p).flags.toNat:Nat):Int):=by omega
 have Q:=ZiI hav hok hn s t E R [zA (L.cells x c e),.cells ((ZA p).cells j)];rw[<-I]at Q
 have g:(((ZA p).keys.length:Int)==0)=((ZA p).keys.length==0):=by
  rw[zS,beq_iff_eq,beq_iff_eq];omega
 rw[OA];unfold MD Wk Ziy
 cases M:((ZA p).keys.length==0) with
 |true =>
  exact⟨[zA (L.cells x c e),.cells ((ZA p).cells j)],by simp only[go_sem,Yu,zI,zJ,zL,zM,O,C,B,w,u,g,M,A,F,Q,if_true,zF,yO]⟩
 |false =>
  obtain⟨H',r⟩:=Zvl hav hok D hlen z hkf hfl s t E R _ 0 (.ptr 0 0) (.ptr 1 0) _ rfl (xC _) (.inr ⟨rfl,rfl,rfl⟩);rw[zQ,show ((0:Nat):Int)=0 from rfl]at r;refine⟨H',?_⟩;simp only[go_sem,Yu,zI,zJ,zL,zM,O,C,B,w,u,g,M,Oh,r,zD,if_false,zF,yO]
def Y0 (L:Loc)(p:Spec)(s t:List UInt8):Int :=
 if (Wk L (ZA p) s t != 0 || (ZA p).stab || (ZA p).uniq)=true then Wk L (ZA p) s t else if (ZA p).flags.toNat.testBit 1 then -D9 L s t else D9 L s t
theorem Zne {a:AV}{L:Loc}(h:LocAV a L)(hok:LocOk L){q:AV}{p:Spec}(X:SpecAV q p)(hks:∀ k∈p.keys,KeOk k)(s t:List UInt8)(E:s.length<=1048576)(T:t.length<=1048576)(H:Hp) :
 Zh Qc [a,q,.str s,.str t] H=some (J wA (Y0 L p s t),H):=by
 obtain⟨a1,V,S⟩:=h.close [] 0 5;obtain⟨q1,U,R⟩:=X.close [] 0 5;have hav:=S;have Z:=fun H=>Zj7 R H;obtain⟨x,c,e,rfl,hx,hc,he⟩:=S;obtain⟨xp,rfl,aa⟩:=R;obtain⟨v',O,g,rfl,Q⟩:=Z [zA (L.cells x c e),.cells (p.cells xp)];obtain⟨hfl,hlen,hkf⟩:=Zl7 p;have C:=Zg7 p hks
 suffices E:∃ H1,Qc [.agg (L.cells x c e),.agg (p.cells xp),.str s,.str t] []=some (J wA (Y0 L p s t),H1) by
  obtain⟨H1,Y⟩:=E;exact Zih V U (c':=.str s) (d':=.str t) rfl rfl Y rfl
 have W:Z3 true 5 (.ptr 1 0) [zA (L.cells x c e),.cells (p.cells xp)]=some (.agg (p.cells xp)):=by simp[Z3,Go.Am.apart,Spec.cells]
 have N:Za 5 (.ptr 1 0) (.agg ((ZA p).cells g)) [zA (L.cells x c e),.cells (p.cells xp)]=some (.tuple [],[zA (L.cells x c e),.cells ((ZA p).cells g)]):=by simp[Za,YX,yF,zV,Spec.cells,splice]
 have M:Z3 true 5 (.ptr 1 0) [zA (L.cells x c e),.cells ((ZA p).cells g)]=some (.agg ((ZA p).cells g)):=by simp[Z3,Go.Am.apart,Spec.cells]
 have z:Z3 false 1 (.ptr 1 (0+2)) [zA (L.cells x c e),.cells ((ZA p).cells g)]=some (J wA (ZA p).flags):=Y2 (l:=(ZA p).cells g) rfl;have B:Z3 false 1 (.ptr 1 (0+3)) [zA (L.cells x c e),.cells ((ZA p).cells g)]=some (.bool (ZA p).uniq):=Y2 (l:=(ZA p).cells g) rfl;have I:Z3 false 1 (.ptr 1 (0+4)) [zA (L.cells x c e),.cells ((ZA p).cells g)]=some (.bool (ZA p).stab):=Y2 (l:=(ZA p).cells g) rfl;have u:=Zn5 L x c e [.cells ((ZA p).cells g)];have hn:(ZA p).flags.toNat<32:=by omega
 have K:((ZA p).flags:Int)=(((ZA p).flags.toNat:Nat):Int):=by omega
 have A:=Ze7 hav hok (q:=.agg ((ZA p).cells g)) ⟨g,rfl,Q⟩ C s t E T [zA (L.cells x c e),.cells ((ZA p).cells g)];have w:=ZkB hav hok s t E T [zA (L.cells x c e),.cells ((ZA p).cells g)];have D:=Zye (Zmk L s t);have j:=ZuW hn
 have F:FI (.str s) (.str t) (.ptr 0 0) (.ptr 1 0) [] [zA (L.cells x c e),.cells ((ZA p).cells g)]=some (J wA (if (ZA p).flags.toNat.testBit 1 then -D9 L s t else D9 L s t),[zA (L.cells x c e),.cells ((ZA p).cells g)]):=by
  rw[Zc5];rw[K]at z
  cases hb:(ZA p).flags.toNat.testBit 1 with
  |true =>
   rw[hb]at j;simp only[go_sem,u,w,z,j,Zpi,D,if_true,show ((2:Int) != 0)=true from rfl]
  |false =>
   rw[hb]at j;simp only[go_sem,u,w,z,j,Zc6,zD,if_false,bne_self_eq_false]
 refine⟨[zA (L.cells x c e),.cells ((ZA p).cells g)],?_⟩;rw[ZcE];unfold CP Y0;simp only[go_sem,Yu,zI,zJ,zL,zM,W,O,N,u,M,A,zF,yO]
 cases h0:(Wk L (ZA p) s t != 0) with
 |true=>simp only[go_sem,zO,if_true]
 |false =>
  simp only[go_sem,I,B]
  cases h4:(ZA p).stab with
  |true=>simp only[go_sem,zO,yY,if_true]
  |false =>
   simp only[go_sem,B]
   cases h3:(ZA p).uniq with
   |true=>simp only[go_sem,zO,yY,if_true]
   |false=>simp only[go_sem,F,xI,zD,if_false]
end Go.Am
