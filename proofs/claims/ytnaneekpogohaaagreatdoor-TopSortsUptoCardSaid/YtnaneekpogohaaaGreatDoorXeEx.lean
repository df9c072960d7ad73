/- Bytes told apart -/
import Derived.Test.YtnaneekpogohaaaGreatDoorXeSx
import Derived.Test.YtnaneekpogohaaaGreatDoorXeGCx
open Go.IntKind renaming i64->yL
open List renaming getElem?_cons_zero->zA,getElem?_cons_succ->zB,getElem?_eq_getElem->zC,drop_eq_getElem_cons->zF,drop_eq_nil_iff->zH,drop_zero->zM,length_map->zN,mem_map->zQ,take_add_one->zR,getElem_mem->zS,map_append->zT,take_zero->zV,contains_cons->zW,getElem?_eq_none->zY,all_cons->zZ,isEmpty_cons->yA,contains_nil->yB,any_cons->yE,all_nil->yF,any_nil->yI,range->yJ
open Nat renaming zero_add->zE,lt_or_ge->yG
open Bool renaming false_eq_true->zD,false_or->zI,not_false->zJ,true_or->zK,eq_iff_iff->zL,true_and->zO,not_true->zP,false_and->zU,and_eq_true->yC,not_not->yH
open Prod renaming fst->zG
open Go.Am.AObj renaming cells->yK
open Go.Am.AV renaming int->zX,str->yD
namespace Go.Am
set_option maxRecDepth 100000
theorem Nq {α β γ:Type}(x:Option α)(f:α->Option β)(g:β->Option γ):Z0 (Z0 x f) g=Z0 x fun a=>Z0 (f a) g:=by cases x <;> rfl
def LH (j Y:AV):Option AV :=
 Z0 (Z5 .eql j (.int .u8 95)) fun u =>
 Z0 (Z8 u false (.tuple []) (some j)) fun C =>
 Z0 (Z8 u false (.tuple []) (Z5 .geq C (.int .u8 97))) fun D =>
 Z0 (Z8 u false (.tuple []) (some D)) fun y =>
 Z0 (Z8 y true (.tuple []) (some j)) fun E =>
 Z0 (Z8 y true (.tuple []) (Z5 .leq E (.int .u8 122))) fun F =>
 Z0 (Z8 u false (.tuple []) (Zj y F (.bool false))) fun H =>
 Z0 (Zj u (.bool true) H) fun w =>
 Z0 (Z8 w false (.tuple []) (some j)) fun I =>
 Z0 (Z8 w false (.tuple []) (Z5 .geq I (.int .u8 65))) fun J =>
 Z0 (Z8 w false (.tuple []) (some J)) fun z =>
 Z0 (Z8 z true (.tuple []) (some j)) fun K =>
 Z0 (Z8 z true (.tuple []) (Z5 .leq K (.int .u8 90))) fun L =>
 Z0 (Z8 w false (.tuple []) (Zj z L (.bool false))) fun M =>
 Z0 (Zj w (.bool true) M) fun N =>
 Z0 (Xv .not N) fun g =>
 Z0 (Z8 g true (.tuple []) (some Y)) fun O =>
 Z0 (Z8 g true (.tuple []) (Z5 .eql O (.int .i64 0))) fun Q =>
 Z0 (Z8 g true (.tuple []) (some Q)) fun A =>
 Z0 (Z8 A false (.tuple []) (some j)) fun R =>
 Z0 (Z8 A false (.tuple []) (Z5 .lss R (.int .u8 48))) fun S =>
 Z0 (Z8 g true (.tuple []) (Zj A (.bool true) S)) fun T =>
 Z0 (Z8 g true (.tuple []) (some T)) fun B =>
 Z0 (Z8 B false (.tuple []) (some j)) fun U =>
 Z0 (Z8 B false (.tuple []) (Z5 .gtr U (.int .u8 57))) fun V =>
 Z0 (Z8 g true (.tuple []) (Zj B (.bool true) V)) fun W =>
 Z0 (Zj g W (.bool false)) fun X =>
 some X
theorem TH (w z u A:AV)(y H:Hp):PD w z u A y H =
 Z0 (Zz w u) fun j =>
 Z0 (LH j u) fun g =>
 Zk g (some ((.bool false),H)) (PE w z u y H):=by
 rw[Zf1];simp only[LH,Nq,Qg]
def Ziy (g:AV):Option AV :=
 Z0 (Z5 .geq g (.int .u8 97)) fun z =>
 Z0 (Z8 z true (.tuple []) (some g)) fun O =>
 Z0 (Z8 z true (.tuple []) (Z5 .leq O (.int .u8 122))) fun Q =>
 Z0 (Zj z Q (.bool false)) fun u =>
 Z0 (Z8 u false (.tuple []) (some g)) fun R =>
 Z0 (Z8 u false (.tuple []) (Z5 .geq R (.int .u8 65))) fun S =>
 Z0 (Z8 u false (.tuple []) (some S)) fun A =>
 Z0 (Z8 A true (.tuple []) (some g)) fun B =>
 Z0 (Z8 A true (.tuple []) (Z5 .leq B (.int .u8 90))) fun C =>
 Z0 (Z8 u false (.tuple []) (Zj A C (.bool false))) fun D =>
 Z0 (Zj u (.bool true) D) fun j =>
 Z0 (Z8 j false (.tuple []) (some g)) fun E =>
 Z0 (Z8 j false (.tuple []) (Z5 .geq E (.int .u8 48))) fun F =>
 Z0 (Z8 j false (.tuple []) (some F)) fun w =>
 Z0 (Z8 w true (.tuple []) (some g)) fun H =>
 Z0 (Z8 w true (.tuple []) (Z5 .leq H (.int .u8 57))) fun I =>
 Z0 (Z8 j false (.tuple []) (Zj w I (.bool false))) fun J =>
 Z0 (Zj j (.bool true) J) fun y =>
 Z0 (Z8 y false (.tuple []) (some g)) fun K =>
 Z0 (Z8 y false (.tuple []) (Z5 .eql K (.int .u8 95))) fun L =>
 Z0 (Zj y (.bool true) L) fun M =>
 Z0 (Xv .not M) fun N =>
 some N
theorem ZcF (u x3:AV)(w H:Hp):M2 u x3 w H =
 Z0 (Zz u x3) fun j =>
 Z0 (Ziy j) fun g =>
 Zk g (some ((.bool false),H)) (M3 u x3 w H):=by
 rw[ZfT];simp only[Ziy,Nq,Qg]
def Zun (g w:AV):Option AV :=
 Z0 (Z8 g false (.tuple []) (some w)) fun O =>
 Z0 (Z8 g false (.tuple []) (Z5 .geq O (.int .u8 48))) fun Q =>
 Z0 (Z8 g false (.tuple []) (some Q)) fun A =>
 Z0 (Z8 A true (.tuple []) (some w)) fun R =>
 Z0 (Z8 A true (.tuple []) (Z5 .leq R (.int .u8 57))) fun S =>
 Z0 (Z8 g false (.tuple []) (Zj A S (.bool false))) fun B =>
 Z0 (Zj g (.bool true) B) fun j =>
 Z0 (Z8 j false (.tuple []) (some w)) fun C =>
 Z0 (Z8 j false (.tuple []) (Z5 .geq C (.int .u8 97))) fun D =>
 Z0 (Z8 j false (.tuple []) (some D)) fun y =>
 Z0 (Z8 y true (.tuple []) (some w)) fun E =>
 Z0 (Z8 y true (.tuple []) (Z5 .leq E (.int .u8 122))) fun F =>
 Z0 (Z8 j false (.tuple []) (Zj y F (.bool false))) fun H =>
 Z0 (Zj j (.bool true) H) fun u =>
 Z0 (Z8 u false (.tuple []) (some w)) fun I =>
 Z0 (Z8 u false (.tuple []) (Z5 .geq I (.int .u8 65))) fun J =>
 Z0 (Z8 u false (.tuple []) (some J)) fun z =>
 Z0 (Z8 z true (.tuple []) (some w)) fun K =>
 Z0 (Z8 z true (.tuple []) (Z5 .leq K (.int .u8 90))) fun L =>
 Z0 (Z8 u false (.tuple []) (Zj z L (.bool false))) fun M =>
 Z0 (Zj u (.bool true) M) fun N =>
 some N
def Zle (g w:AV):Option AV :=
 Z0 (Z8 g false (.tuple []) (some w)) fun R =>
 Z0 (Z8 g false (.tuple []) (Z5 .geq R (.int .u8 97))) fun S =>
 Z0 (Z8 g false (.tuple []) (some S)) fun y =>
 Z0 (Z8 y true (.tuple []) (some w)) fun B =>
 Z0 (Z8 y true (.tuple []) (Z5 .leq B (.int .u8 122))) fun C =>
 Z0 (Z8 g false (.tuple []) (Zj y C (.bool false))) fun D =>
 Z0 (Zj g (.bool true) D) fun j =>
 Z0 (Z8 j false (.tuple []) (some w)) fun E =>
 Z0 (Z8 j false (.tuple []) (Z5 .geq E (.int .u8 65))) fun F =>
 Z0 (Z8 j false (.tuple []) (some F)) fun z =>
 Z0 (Z8 z true (.tuple []) (some w)) fun H =>
 Z0 (Z8 z true (.tuple []) (Z5 .leq H (.int .u8 90))) fun I =>
 Z0 (Z8 j false (.tuple []) (Zj z I (.bool false))) fun J =>
 Z0 (Zj j (.bool true) J) fun u =>
 Z0 (Z8 u false (.tuple []) (some w)) fun K =>
 Z0 (Z8 u false (.tuple []) (Z5 .geq K (.int .u8 48))) fun L =>
 Z0 (Z8 u false (.tuple []) (some L)) fun A =>
 Z0 (Z8 A true (.tuple []) (some w)) fun M =>
 Z0 (Z8 A true (.tuple []) (Z5 .leq M (.int .u8 57))) fun N =>
 Z0 (Z8 u false (.tuple []) (Zj A N (.bool false))) fun O =>
 Z0 (Zj u (.bool true) O) fun Q =>
 some Q
theorem Zau (y x3 B z C:AV)(A H:Hp):Th y x3 B z C A H =
 Z0 (Zz y z) fun j =>
 Z0 (Vf [j] H) fun g =>
 Z0 (Zle g.1 j) fun w =>
 Zk w (Z0 (byteE.run [x3,j] g.2) fun u=>Qa y x3 B z A u.2) (Qa y x3 B z A g.2):=by
 rw[Zea];simp only[Zle,Nq,Qg]
def RH:Option AV->Option Bool
 |some (.bool b)=>some b
 |_=>none
theorem Qh {x:Option AV}{b:Bool}(h:RH x=some b):x=some (.bool b):=by
 unfold RH at h;split at h
 ·injection h with h;subst h;rfl
 ·cases h
def ZtK (n:Nat):Bool:=(decide (97<=n)&&decide (n<=122)) || (decide (65<=n)&&decide (n<=90))
def N4 (n:Nat):Bool:=decide (48<=n)&&decide (n<=57)
def Wo (n:Nat):Bool:=n==95 || ZtK n || N4 n
theorem Zkn:((yJ 256).all fun n=>(RH (LH (.int .u8 (n:Int)) (.int .i64 1))==some (!Wo n))&&(RH (LH (.int .u8 (n:Int)) (.int .i64 0))==some (!Wo n || N4 n)))=true:=by kernel_rfl
theorem ZrE:((yJ 256).all fun n=>(RH (Ziy (.int .u8 (n:Int)))==some (!Wo n)))=true:=by kernel_rfl
theorem ZeB (b:UInt8):b.toNat<256:=b.toNat_lt
theorem ZfC (b:UInt8):LH (.int .u8 b.toNat) (.int .i64 0)=some (.bool (!Wo b.toNat || N4 b.toNat)):=by
 have h:=Va Zkn (ZeB b);simp only[yC,beq_iff_eq]at h;exact Qh h.2
theorem Zik (b:UInt8){i:Int}(hi:(i==0)=false):LH (.int .u8 b.toNat) (.int .i64 i)=some (.bool (!Wo b.toNat)):=by
 have h:=Va Zkn (ZeB b);simp only[yC,beq_iff_eq]at h;rw[<-Qh h.1];have e:Z5 .eql (.int .i64 i) (.int .i64 0)=Z5 .eql (.int .i64 1) (.int .i64 0):=by simp only[Z5,W5,XH,hi];rfl
 unfold LH
 iterate 16 refine congrArg (Z0 _) (funext fun t=>?_)
 cases t with
 |bool b =>
  cases b
  ·rfl
  ·simp only[Zmy,Qg,e]
 |_=>rfl
theorem Zuu (b:UInt8):Ziy (.int .u8 b.toNat)=some (.bool (!Wo b.toNat)):=by
 have h:=Va ZrE (ZeB b);simp only[beq_iff_eq]at h;exact Qh h
def Vm (s:List UInt8):Bool :=
 match s with
 |[]=>false
 |b::_=>decide (s.length<=32)&&!N4 b.toNat&&s.all fun c=>Wo c.toNat
theorem Zp9 (s:List UInt8)(j:s.length<=4611686018427387904)(g H:Hp):PC (.str s) g H=some (.bool (!s.isEmpty&&decide (s.length<=32)),H):=by
 rw[Zf0]
 cases s with
 |nil=>simp[go_sem,Xb,DH]
 |cons b l =>
  simp only[Xb,DH,go_sem,Zl];have:(!((b::l)==([]:List UInt8)))=true:=rfl;have c:decide (((b::l).length:Int)<=32)=decide ((b::l).length<=32):=by rw[zL];simp;omega
  simp only[this,go_sem,c,yA,zJ,zO]
theorem ZtW (s:List UInt8)(B:s.length<=4611686018427387904)(w H:Hp):∀ (k i:Nat),s.length-i=k->0<i->i<=s.length ->
 Gw (.str s) (.int .i64 s.length) (.int .i64 i) w H=some (.bool (((s.drop i).all fun c=>Wo c.toNat)&&(!s.isEmpty&&decide (s.length<=32))),H):=by
 intro k
 induction k with
 |zero =>
  intro i A y hi;rw[Qx];have g:decide ((i:Int)<(s.length:Int))=false:=by simp;omega
  have z:s.drop i=[]:=zH.2 (by omega);simp only[go_sem,g,Zp9 s B,z,yF,zO]
 |succ k C =>
  intro i A y hi;rw[Qx];have u:i<s.length:=by omega
  have g:decide ((i:Int)<(s.length:Int))=true:=by simp;omega
  have hw:yL.wrap ((i:Int)+1)=((i+1:Nat):Int):=by rw[Zr (by omega) (by omega)];omega
  have j:((i:Int)==0)=false:=by simp;omega
  simp only[go_sem,g,TH,Y8 (zC u),Zik _ j];rw[zF u,zZ]
  cases D:Wo s[i].toNat with
  |false=>simp only[go_sem,zJ,zU]
  |true =>
   simp only[go_sem,zP,zO,L4,hw];exact C (i+1) (by omega) (by omega) (by omega)
theorem ZtX (s:List UInt8)(w:s.length<=4611686018427387904)(H:Hp):JK [.str s] H=some (.bool (Vm s),H):=by
 rw[ZfO];unfold ZaK;simp only[go_sem,Zl]
 cases s with
 |nil=>rw[Qx];simp[go_sem,Zp9 [] (by simp),Vm]
 |cons b l =>
  rw[Qx];have u:decide ((0:Int)<((b::l).length:Int))=true:=by simp
  have hw:yL.wrap ((0:Int)+1)=((0+1:Nat):Int):=by decide
  have j:Zz (.str (b::l)) (.int .i64 0)=some (.int .u8 b.toNat):=by simp[Zz]
  simp only[go_sem,u,TH,j,ZfC]
  cases g:(!Wo b.toNat || N4 b.toNat) with
  |true =>
   have:Vm (b::l)=false:=by
    unfold Vm;simp only[Bool.or_eq_true,Bool.not_eq_true']at g;rcases g with g|g <;> simp[g]
   simp only[go_sem,this]
  |false =>
   simp only[Bool.or_eq_false_iff,Bool.not_eq_false']at g;simp only[go_sem,L4,hw];rw[ZtW (b::l) w H H l.length 1 (by simp) (by omega) (by simp)]
   have:Vm (b::l)=(((b::l).drop 1).all (fun c=>Wo c.toNat)&&(!(b::l).isEmpty&&decide ((b::l).length<=32))):=by
    unfold Vm;simp only[g.1,g.2,zZ,List.drop_one,List.tail_cons,yA,zJ,zO,Bool.and_true];rw[Bool.and_comm]
   rw[this]
theorem ZrF (s:List UInt8)(B:s.length<=4611686018427387904)(u H:Hp):∀ (k i:Nat),s.length-i=k->i<=s.length ->
 DX (.str s) (.int .i64 i) u H=some (.bool ((s.drop i).all fun c=>Wo c.toNat),H):=by
 intro k
 induction k with
 |zero =>
  intro i y hi;rw[En];have g:decide ((i:Int)<(s.length:Int))=false:=by simp;omega
  have w:s.drop i=[]:=zH.2 (by omega);simp only[go_sem,Zl,g,ZfS,w,yF]
 |succ k z =>
  intro i y hi;rw[En];have j:i<s.length:=by omega
  have g:decide ((i:Int)<(s.length:Int))=true:=by simp;omega
  have hw:yL.wrap ((i:Int)+1)=((i+1:Nat):Int):=by rw[Zr (by omega) (by omega)];omega
  simp only[go_sem,Zl,g,ZcF,Y8 (zC j),Zuu];rw[zF j,zZ]
  cases A:Wo s[i].toNat with
  |false=>simp only[go_sem,zJ,zU]
  |true =>
   simp only[go_sem,zP,zO,ZfU,hw];exact z (i+1) (by omega) (by omega)
theorem ZrG (s:List UInt8)(hs:s.length<=4611686018427387904)(H:Hp):KH [.str s] H=some (.bool (Vm s),H):=by
 rw[ZgW];unfold Zcc;simp only[go_sem,Zl]
 cases s with
 |nil=>simp[go_sem,Vm]
 |cons b l =>
  have h0:((((b::l).length:Nat):Int)==0)=false:=by simp;omega
  have hidx:Zz (.str (b::l)) (.int .i64 0)=some (.int .u8 b.toNat):=by simp[Zz]
  simp only[go_sem,h0];by_cases h32:32<(b::l).length
  ·have c1:decide ((32:Int)<((b::l).length:Int))=true:=by simp at h32 ⊢;omega
   have    : Vm (b :: l) = false := by unfold Vm; have : decide ((b :: l).length <= 32) = false := by simp at h32 ⊢; omega
                                       rw[this];rfl
   simp only[go_sem,c1,this]
  ·have c1:decide ((32:Int)<((b::l).length:Int))=false:=by simp at h32 ⊢;omega
   have c2:decide ((b::l).length<=32)=true:=by simp at h32 ⊢;omega
   have hl:=ZrF (b::l) hs H H (b::l).length 0 (by simp) (by omega);rw[show ((0:Nat):Int)=0 from rfl,zM]at hl;have hn:Vm (b::l)=(!N4 b.toNat&&(b::l).all fun c=>Wo c.toNat):=by unfold Vm;simp only[c2,zO]
   simp only[go_sem,c1,hidx,ZfR,hl,hn];have e1:decide ((48:Int)<=(b.toNat:Int))=decide (48<=b.toNat):=by rw[zL];simp;omega
   have e2:decide ((b.toNat:Int)<=(57:Int))=decide (b.toNat<=57):=by rw[zL];simp;omega
   unfold N4;simp only[e1,e2]
   cases h48:decide (48<=b.toNat) with
   |false=>simp only[go_sem,zU,zJ,zO]
   |true =>
    cases h57:decide (b.toNat<=57) with
    |false=>simp only[go_sem,hidx,e2,h57,zO,zJ]
    |true=>simp only[go_sem,hidx,e2,h57,zO,zP,zU]
theorem Zko (s:List UInt8)(g:s.length<=4611686018427387904)(H:Hp):Ze JK [.str s] H=some (.bool (Vm s),H):=XQ rfl (ZtX s g []) rfl
theorem Ziz (s:List UInt8)(g:s.length<=4611686018427387904)(H:Hp):Ze KH [.str s] H=some (.bool (Vm s),H):=XQ rfl (ZrG s g []) rfl
theorem ZE (a:AV)(l:List AV)(H:Hp):Z3 false 1 (.vp (a::l)) H=some a:=(Eq.refl _).trans (Eq.refl _)
theorem ZpO (a:AV)(l:List AV):XE false 1 (.vp (a::l))=some a:=(Eq.refl _).trans (Eq.refl _)
theorem Zwj (H:Hp)(l:List AV)(k:AV->Hp->Z4):XG (.ptr H.length 0) (H++[.cells l]) k=k (.vp l) (H++[.dead]):=by
 rw[IC (Vu _ _),Zxg]
def M4 {α:Type}(bad:α->Option Int)(key:α->List UInt8):List α->List (List UInt8)->Int
 |[],_=>0
 |c::r,seen=>match bad c with
  |some e=>e
  |none=>if seen.contains (key c) then 6 else M4 bad key r (seen++[key c])
theorem FU {α:Type}(bad:α->Option Int)(key:α->List UInt8)(c:α)(r:List α)(g:List (List UInt8)):M4 bad key (c::r) g=match bad c with
 |some e=>e
 |none=>if g.contains (key c) then 6 else M4 bad key r (g++[key c]):=(Eq.refl _).trans (Eq.refl _)
def Ah (j:List (AV×AV×Nat))(g:List (List UInt8)):Prop:=j.map (fun e=>(e.1,e.2.1))=g.map fun s=>(yD s,AV.bool true)
theorem ZhU (k:List UInt8):∀ (u:List (AV×AV×Nat)) (g:List (List UInt8)) (i:Nat),Ah u g ->
 if g.contains k then ∃ j,YS (.str k) u i=some (some (j,.bool true)) else YS (.str k) u i=some none:=by
 intro u
 induction u with
 |nil =>
  intro g i h
  cases g with
  |nil=>simp[YS]
  |cons s r=>simp[Ah]at h
 |cons e u y =>
  intro g i h
  cases g with
  |nil=>simp[Ah]at h
  |cons s r =>
   obtain⟨a,b,c⟩:=e;simp only[Ah,List.map_cons,List.cons.injEq,Prod.mk.injEq]at h;obtain⟨⟨rfl,rfl⟩,w⟩:=h;have:=y r (i+1) w;simp only[YS,QL,zW]
   cases z:(k==s) with
   |true=>simp
   |false=>simpa using this
theorem ZkA {H:Hp}{m:Nat}{u:List (AV×AV×Nat)}{c:Nat}{g:List (List UInt8)}(z:H[m]?=some (.map u c))(A:Ah u g)(k:List UInt8) :
 Yc .string (.bool false) false (.map m) (.str k) H=some (.bool (g.contains k)):=by
 have h:=ZhU k u g 0 A;unfold Yc;simp only[Wa,if_true,Xi,z]
 cases w:g.contains k with
 |true =>
  rw[w]at h;obtain⟨j,y⟩:=h;simp[y]
 |false =>
  rw[w]at h;simp at h;simp[h]
theorem Znf {H:Hp}{m:Nat}{j:List (AV×AV×Nat)}{c:Nat}{g:List (List UInt8)}(y:H[m]?=some (.map j c))(u:Ah j g){k:List UInt8}(w:g.contains k=false) :
 Xs .string (.map m) (.str k) (.bool true) H=some (.tuple [],H.set m (.map (j++[(.str k,.bool true,c)]) (c+1)))/\Ah (j++[(.str k,.bool true,c)]) (g++[k]):=by
 have h:=ZhU k j g 0 u;rw[w]at h;simp at h;constructor
 ·unfold Xs;simp only[y,Wa,if_true,h]
 ·unfold Ah at u ⊢;simp[u]
theorem Ll (l:List AV):Z7 0 (.vp l)=some (.vp l):=by simp[Z7]
def Qq (c:List UInt8×List Int):AV:=.agg (.str c.1::c.2.map (.int .u64))
def EA (c:List UInt8×List Int):Option Int:=if Vm c.1 then none else some 4
def Au (l:List (List UInt8×List Int)):Int:=if 24<l.length then 3 else M4 EA zG l []
def Zeg (l:List (List UInt8×List Int)):Prop:=∀ c∈l,c.2.length=4/\c.1.length<=4611686018427387904
theorem Sl.cls {x:AV}{l:List (List UInt8×List Int)}(h:Sl 5 x (l.map Qq)){i:Nat}{c:List UInt8×List Int}(hi:l[i]?=some c):Zn 5 x (.int .i64 (i:Int))=some (.vp (.str c.1::c.2.map (.int .u64))):=h.idx (c:=Qq c) (by simp[hi])
theorem Xl (n:Nat)(l:List AV)(g:l.length=n)(H:Hp):Z3 true n (.vp l) H=some (.agg l):=by
 subst g;simp[Z3,Go.Am.apart]
theorem Eu (H:Hp)(n:Nat)(l z:List AV)(g:l.length=n)(j:z.length=n):Zf n (.ptr H.length 0) (.agg l) (H++[.cells z])=some (.tuple [],H++[.cells l]):=by
 rw[VU (sz:=n) (v:=.agg l) (Vu _ _) rfl g (by omega)];simp[AV.cells,splice,j,g]
theorem ZvJ {x:AV}{l:List (List UInt8×List Int)}(h:Sl 5 x (l.map Qq))(R:l.length<=24)(A:Zeg l)(I:Hp)(m:Nat):∀ (k i:Nat) (H:Hp) (y:List (AV×AV×Nat)) (c:Nat),l.length-i=k->i<=l.length ->
 H[m]?=some (.map y c)->Ah y ((l.take i).map zG) ->
 ∃ H',V5 (.map m) x (.int .i64 (l.length:Int)) (.int .i64 (i:Int)) I H=some (.int .i64 (M4 EA zG (l.drop i) ((l.take i).map zG)),H'):=by
 intro k
 induction k with
 |zero =>
  intro i H y c M hi E B;rw[Kx];have u:decide ((i:Int)<(l.length:Int))=false:=by simp;omega
  have L:l.drop i=[]:=zH.2 (by omega);simp only[go_sem,u,LB,L];exact⟨_,rfl⟩
 |succ k N =>
  intro i H y c M hi E B;rw[Kx];have j:i<l.length:=by omega
  have u:decide ((i:Int)<(l.length:Int))=true:=by simp;omega
  have hw:yL.wrap ((i:Int)+1)=((i+1:Nat):Int):=by rw[Zr (by omega) (by omega)];omega
  obtain⟨J,z⟩:=A l[i] (zS j);have g:(yD l[i].1::l[i].2.map (zX .u64)).length=5:=by simp[J]
  have C:=Eu H 5 _ [.str [],.int .u64 0,.int .u64 0,.int .u64 0,.int .u64 0] g rfl;simp only[go_sem,u,LC,h.cls (zC j),Xl 5 _ g,C,zE,ZF,zA,Zko _ z];rw[zF j,FU];have w:(H++[yK (yD l[i].1::l[i].2.map (zX .u64))])[m]?=some (.map y c):=Yl E _
  cases D:Vm l[i].1 with
  |false =>
   simp only[go_sem,zJ,EA,D,zD,if_false];exact⟨_,rfl⟩
  |true =>
   simp only[go_sem,zP,EA,D,if_true,LE,zE,ZF,zA,ZkA w B]
   cases K:((l.take i).map zG).contains l[i].1 with
   |true =>
    simp only[go_sem,if_true];exact⟨_,rfl⟩
   |false =>
    obtain⟨O,Q⟩:=Znf w B K;simp only[go_sem,zD,if_false,LF,zE,ZF,zA,O,LD,hw]
    have F:(l.take (i+1)).map zG=(l.take i).map zG++[l[i].1]:=by
     rw[zR,zC j,zT];rfl
    rw[<-F];refine N (i+1) _ _ _ (by omega) (by omega) (Zt _ w) ?_;rw[F];exact Q
theorem ZvK {x:AV}{l:List (List UInt8×List Int)}(h:Sl 5 x (l.map Qq))(w:Zeg l)(y:l.length<=4611686018427387904)(H:Hp):∃ H',Ve [x] H=some (.int .i64 (Au l),H'):=by
 rw[Eb];unfold FI Au;have g:=h.len 246;rw[zN]at g;simp only[go_sem,g];by_cases j:24<l.length
 ·have u:decide ((24:Int)<(l.length:Int))=true:=by simp;omega
  simp only[u,go_sem,j,if_true];exact⟨_,rfl⟩
 ·have u:decide ((24:Int)<(l.length:Int))=false:=by simp;omega
  simp only[u,go_sem,j,if_false,LA,g];have:=ZvJ h (by omega) w H H.length l.length 0 (H++[.map [] 0]) [] 0 (by omega) (by omega) (Vu H _) rfl;rw[show ((0:Nat):Int)=0 from rfl,zM,zV]at this;exact this
theorem ZyY {x:AV}{l:List (List UInt8×List Int)}(h:Sl 5 x (l.map Qq))(K:l.length<=24)(A H:Hp){i:Nat}{n:List UInt8}{q:List Int}(hi:l[i]?=some (n,q)):∀ (k j:Nat),i-j=k->j<=i ->
 Ur x (.int .i64 (i:Int)) (.int .i64 (j:Int)) A H=if (((l.take i).map zG).drop j).contains n then some (.int .i64 6,H) else K9 x (.int .i64 (i:Int)) A H:=by
 intro k
 have C:i<l.length:=by
  rcases yG i l.length with u|u
  ·exact u
  ·rw[zY u]at hi;cases hi
 induction k with
 |zero =>
  intro j E D;rw[De];have g:decide ((j:Int)<(i:Int))=false:=by simp;omega
  have B:((l.take i).map zG).drop j=[]:=zH.2 (by simp;omega);simp only[go_sem,g,B,yB,zD,if_false]
 |succ k I =>
  intro j E D;rw[De];have y:j<l.length:=by omega
  have g:decide ((j:Int)<(i:Int))=true:=by simp;omega
  have hw:yL.wrap ((j:Int)+1)=((j+1:Nat):Int):=by rw[Zr (by omega) (by omega)];omega
  have w:((l.take i).map zG).drop j=l[j].1::((l.take i).map zG).drop (j+1):=by
   rw[zF (by simp;omega)];simp
  rw[w,zW];simp only[go_sem,g,Ao,h.cls (zC y),h.cls hi,ZE];have F:Xb .eql (.str l[j].1) (.str n)=some (.bool (l[j].1==n)):=rfl;have z:(n==l[j].1)=(l[j].1==n):=by rw[zL,beq_iff_eq,beq_iff_eq];exact eq_comm
  simp only[Ll,ZE,F,go_sem,z]
  cases J:(l[j].1==n) with
  |true=>simp only[go_sem,zK,if_true]
  |false =>
   simp only[go_sem,zI,Ap,hw];exact I (j+1) (by omega) (by omega)
theorem Zuk {x:AV}{l:List (List UInt8×List Int)}(h:Sl 5 x (l.map Qq))(E:l.length<=24)(z:Zeg l)(A H:Hp):∀ (k i:Nat),l.length-i=k->i<=l.length ->
 Uq x (.int .i64 (i:Int)) A H=some (.int .i64 (M4 EA zG (l.drop i) ((l.take i).map zG)),H):=by
 have j:=h.len 246;rw[zN]at j;intro k
 induction k with
 |zero =>
  intro i D hi;rw[Dd];have u:decide ((i:Int)<(l.length:Int))=false:=by simp;omega
  have C:l.drop i=[]:=zH.2 (by omega);simp only[go_sem,j,u,Aj,C];rfl
 |succ k I =>
  intro i D hi;rw[Dd];have g:i<l.length:=by omega
  have u:decide ((i:Int)<(l.length:Int))=true:=by simp;omega
  have hw:yL.wrap ((i:Int)+1)=((i+1:Nat):Int):=by rw[Zr (by omega) (by omega)];omega
  obtain⟨J,y⟩:=z l[i] (zS g);simp only[go_sem,j,u,Ak,h.cls (zC g),Ll,ZE,Ziz _ y];rw[zF g,FU]
  cases B:Vm l[i].1 with
  |false=>simp only[go_sem,zJ,EA,B,zD,if_false]
  |true =>
   have w:=ZyY h E A H (zC g) i 0 (by omega) (by omega);rw[zM,show ((0:Nat):Int)=0 from rfl]at w;simp only[go_sem,zP,EA,B,if_true,An,w]
   have F:(l.take (i+1)).map zG=(l.take i).map zG++[l[i].1]:=by
    rw[zR,zC g,zT];rfl
   cases K:((l.take i).map zG).contains l[i].1 with
   |true=>simp only[if_true]
   |false =>
    simp only[zD,if_false,Al,go_sem,hw];rw[I (i+1) (by omega) (by omega),F]
theorem Zul {x:AV}{l:List (List UInt8×List Int)}(h:Sl 5 x (l.map Qq))(w:Zeg l)(H:Hp):UQ [x] H=some (.int .i64 (Au l),H):=by
 rw[I4];unfold Nb Au;have g:=h.len 246;rw[zN]at g;simp only[go_sem,g];by_cases j:24<l.length
 ·have u:decide ((24:Int)<(l.length:Int))=true:=by simp;omega
  simp only[u,go_sem,j,if_true]
 ·have u:decide ((24:Int)<(l.length:Int))=false:=by simp;omega
  simp only[u,go_sem,j,if_false,Ai];have:=Zuk h (by omega) w H H l.length 0 (by omega) (by omega);rw[show ((0:Nat):Int)=0 from rfl,zM,zV]at this;exact this
def BP (c:List UInt8×Int):AV:=.agg [.str c.1,.int .i64 c.2]
def OV (c:List UInt8×Int):Option Int:=if (c.1.length != 2 || (decide (c.2<0) || decide (65535<c.2)))=true then some 2 else none
def EJ (l:List (List UInt8×Int)):Int:=if 64<l.length then 3 else M4 OV zG l []
def Zeh (l:List (List UInt8×Int)):Prop:=∀ c∈l,c.1.length<=4611686018427387904
theorem Sl.els {x:AV}{l:List (List UInt8×Int)}(h:Sl 2 x (l.map BP)){i:Nat}{c:List UInt8×Int}(hi:l[i]?=some c):Zn 2 x (.int .i64 (i:Int))=some (.vp [.str c.1,.int .i64 c.2]):=h.idx (c:=BP c) (by simp[hi])
theorem ZpG (a:AV)(l:List AV):Z7 1 (.vp (a::l))=some (.vp l):=by simp[Z7]
theorem Zr2 (n:Int)(H:Hp):D3 [.int .i64 n] H=some (.bool (!(decide (n<0) || decide (65535<n))),H):=by
 rw[ZiW];unfold Zfd;have g:decide ((0:Int)<=n)=!decide (n<0):=by rw[zL];simp
 have j:decide (n<=(65535:Int))=!decide (65535<n):=by rw[zL];simp
 simp only[go_sem,g]
 cases u:decide (n<0) with
 |true=>simp only[go_sem,zP,zK]
 |false=>simp only[go_sem,zJ,zI,j]
theorem Zic (n:Int)(H:Hp):Ze D3 [.int .i64 n] H=some (.bool (!(decide (n<0) || decide (65535<n))),H):=XQ rfl (Zr2 n []) rfl
theorem Zw1 {x:AV}{l:List (List UInt8×Int)}(h:Sl 2 x (l.map BP))(S:l.length<=64)(y:Zeh l)(D:Hp)(m:Nat):∀ (k i:Nat) (H:Hp) (w:List (AV×AV×Nat)) (c:Nat),l.length-i=k->i<=l.length ->
 H[m]?=some (.map w c)->Ah w ((l.take i).map zG) ->
 ∃ H',WJ (.map m) x (.int .i64 (l.length:Int)) (.int .i64 (i:Int)) D H=some (.int .i64 (M4 OV zG (l.drop i) ((l.take i).map zG)),H'):=by
 intro k
 induction k with
 |zero =>
  intro i H w c L hi B z;rw[JS];have j:decide ((i:Int)<(l.length:Int))=false:=by simp;omega
  have K:l.drop i=[]:=zH.2 (by omega);simp only[go_sem,j,Mm,K];exact⟨_,rfl⟩
 |succ k N =>
  intro i H w c L hi B z;rw[JS];have g:i<l.length:=by omega
  have j:decide ((i:Int)<(l.length:Int))=true:=by simp;omega
  have hw:yL.wrap ((i:Int)+1)=((i+1:Nat):Int):=by rw[Zr (by omega) (by omega)];omega
  have M:=y l[i] (zS g);have A:=Eu H 2 [.str l[i].1,.int .i64 l[i].2] [.str [],.int .i64 0] rfl rfl;simp only[go_sem,j,Mn,h.els (zC g),Xl 2 [.str l[i].1,.int .i64 l[i].2] rfl,A,zE,ZF,zA,zB,YI];rw[zF g,FU];have u:(H++[yK [yD l[i].1,zX .i64 l[i].2]])[m]?=some (.map w c):=Yl B _;have E:((l[i].1.length:Int) != 2)=(l[i].1.length != 2):=by rw[zL];simp;omega
  rw[E];unfold OV
  cases R:(l[i].1.length != 2) with
  |true=>simp only[go_sem,zK,if_true];exact⟨_,rfl⟩
  |false =>
  simp only[go_sem,zI,zE,ZF,zA,zB]
  cases F:decide (l[i].2<0) with
  |true=>simp only[go_sem,zK,if_true];exact⟨_,rfl⟩
  |false =>
  simp only[go_sem,zI,zE,ZF,zA,zB]
  cases I:decide (65535<l[i].2) with
  |true=>simp only[go_sem,if_true];exact⟨_,rfl⟩
  |false =>
   simp only[go_sem,zD,if_false,Mp,zE,ZF,zA,ZkA u z]
   cases J:((l.take i).map zG).contains l[i].1 with
   |true =>
    simp only[go_sem,if_true];exact⟨_,rfl⟩
   |false =>
    obtain⟨O,Q⟩:=Znf u z J;simp only[go_sem,zD,if_false,Mq,zE,ZF,zA,O,Mo,hw]
    have C:(l.take (i+1)).map zG=(l.take i).map zG++[l[i].1]:=by
     rw[zR,zC g,zT];rfl
    rw[<-C];refine N (i+1) _ _ _ (by omega) (by omega) (Zt _ u) ?_;rw[C];exact Q
theorem Zw2 {x:AV}{l:List (List UInt8×Int)}(h:Sl 2 x (l.map BP))(w:Zeh l)(y:l.length<=4611686018427387904)(H:Hp):∃ H',WY [x] H=some (.int .i64 (EJ l),H'):=by
 rw[Ld];unfold D8 EJ;have g:=h.len 189;rw[zN]at g;simp only[go_sem,g];by_cases j:64<l.length
 ·have u:decide ((64:Int)<(l.length:Int))=true:=by simp;omega
  simp only[u,go_sem,j,if_true];exact⟨_,rfl⟩
 ·have u:decide ((64:Int)<(l.length:Int))=false:=by simp;omega
  simp only[u,go_sem,j,if_false,Ml,g];have:=Zw1 h (by omega) w H H.length l.length 0 (H++[.map [] 0]) [] 0 (by omega) (by omega) (Vu H _) rfl;rw[show ((0:Nat):Int)=0 from rfl,zM,zV]at this;exact this
theorem Zz0 {x:AV}{l:List (List UInt8×Int)}(h:Sl 2 x (l.map BP))(K:l.length<=64)(A H:Hp){i:Nat}{n:List UInt8}{q:Int}(hi:l[i]?=some (n,q)):∀ (k j:Nat),i-j=k->j<=i ->
 VG x (.int .i64 (i:Int)) (.int .i64 (j:Int)) A H=if (((l.take i).map zG).drop j).contains n then some (.int .i64 6,H) else J5 x (.int .i64 (i:Int)) A H:=by
 intro k
 have C:i<l.length:=by
  rcases yG i l.length with u|u
  ·exact u
  ·rw[zY u]at hi;cases hi
 induction k with
 |zero =>
  intro j E D;rw[GU];have g:decide ((j:Int)<(i:Int))=false:=by simp;omega
  have B:((l.take i).map zG).drop j=[]:=zH.2 (by simp;omega);simp only[go_sem,g,B,yB,zD,if_false]
 |succ k I =>
  intro j E D;rw[GU];have y:j<l.length:=by omega
  have g:decide ((j:Int)<(i:Int))=true:=by simp;omega
  have hw:yL.wrap ((j:Int)+1)=((j+1:Nat):Int):=by rw[Zr (by omega) (by omega)];omega
  have w:((l.take i).map zG).drop j=l[j].1::((l.take i).map zG).drop (j+1):=by
   rw[zF (by simp;omega)];simp
  rw[w,zW];simp only[go_sem,g,Cf,h.els (zC y),h.els hi,ZE];have F:Xb .eql (.str l[j].1) (.str n)=some (.bool (l[j].1==n)):=rfl;have z:(n==l[j].1)=(l[j].1==n):=by rw[zL,beq_iff_eq,beq_iff_eq];exact eq_comm
  simp only[Ll,ZE,F,go_sem,z]
  cases J:(l[j].1==n) with
  |true=>simp only[go_sem,zK,if_true]
  |false =>
   simp only[go_sem,zI,Cg,hw];exact I (j+1) (by omega) (by omega)
theorem Zup {x:AV}{l:List (List UInt8×Int)}(h:Sl 2 x (l.map BP))(E:l.length<=64)(y:Zeh l)(z H:Hp):∀ (k i:Nat),l.length-i=k->i<=l.length ->
 VF x (.int .i64 (i:Int)) z H=some (.int .i64 (M4 OV zG (l.drop i) ((l.take i).map zG)),H):=by
 have j:=h.len 189;rw[zN]at j;intro k
 induction k with
 |zero =>
  intro i D hi;rw[GT];have u:decide ((i:Int)<(l.length:Int))=false:=by simp;omega
  have C:l.drop i=[]:=zH.2 (by omega);simp only[go_sem,j,u,Cb,C];rfl
 |succ k J =>
  intro i D hi;rw[GT];have g:i<l.length:=by omega
  have u:decide ((i:Int)<(l.length:Int))=true:=by simp;omega
  have hw:yL.wrap ((i:Int)+1)=((i+1:Nat):Int):=by rw[Zr (by omega) (by omega)];omega
  have F:=y l[i] (zS g);simp only[go_sem,j,u,Cc,h.els (zC g),Ll,ZE,YI];rw[zF g,FU];have A:((l[i].1.length:Int) != 2)=(l[i].1.length != 2):=by rw[zL];simp;omega
  rw[A];unfold OV
  cases K:(l[i].1.length != 2) with
  |true=>simp only[go_sem,zK,if_true]
  |false =>
  simp only[go_sem,zI,h.els (zC g),ZpG,ZE,Zic,yH]
  cases B:(decide (l[i].2<0) || decide (65535<l[i].2)) with
  |true=>simp only[go_sem,if_true]
  |false =>
   have w:=Zz0 h E z H (zC g) i 0 (by omega) (by omega);rw[zM,show ((0:Nat):Int)=0 from rfl]at w;simp only[go_sem,zD,if_false,Ce,w]
   have I:(l.take (i+1)).map zG=(l.take i).map zG++[l[i].1]:=by
    rw[zR,zC g,zT];rfl
   cases L:((l.take i).map zG).contains l[i].1 with
   |true=>simp only[if_true]
   |false =>
    simp only[zD,if_false,Cd,go_sem,hw];rw[J (i+1) (by omega) (by omega),I];rfl
theorem Zuq {x:AV}{l:List (List UInt8×Int)}(h:Sl 2 x (l.map BP))(w:Zeh l)(H:Hp):Um [x] H=some (.int .i64 (EJ l),H):=by
 rw[Ab];unfold To EJ;have g:=h.len 189;rw[zN]at g;simp only[go_sem,g];by_cases j:64<l.length
 ·have u:decide ((64:Int)<(l.length:Int))=true:=by simp;omega
  simp only[u,go_sem,j,if_true]
 ·have u:decide ((64:Int)<(l.length:Int))=false:=by simp;omega
  simp only[u,go_sem,j,if_false,Ca];have:=Zup h (by omega) w H H l.length 0 (by omega) (by omega);rw[show ((0:Nat):Int)=0 from rfl,zM,zV]at this;exact this
structure Loc where
 name:List UInt8
 w:List Int
 lo:List UInt8
 up:List UInt8
 cls:List (List UInt8×List Int)
 els:List (List UInt8×Int)
def Loc.cells (x c e:AV)(L:Loc):List AV:=[.str L.name,x,.str L.lo,.str L.up,c,e]
def LocAV (a:AV)(L:Loc):Prop:=∃ x c e,a=.agg (L.cells x c e)/\Sl 1 x (L.w.map (zX .i64))/\Sl 5 c (L.cls.map Qq)/\Sl 2 e (L.els.map BP)
structure LocOk (L:Loc):Prop where
 name:L.name.length<=4611686018427387904
 w:L.w.length<=4611686018427387904
 lo:L.lo.length<=4611686018427387904
 up:L.up.length<=4611686018427387904
 cls:Zeg L.cls
 els:Zeh L.els
 ncls:L.cls.length<=4611686018427387904
 nels:L.els.length<=4611686018427387904
theorem CU (c:List UInt8×List Int)(H:Hp)(n f:Nat):Zb H n (f+2) (Qq c)=some (Qq c):=by
 have:(yD c.1::c.2.map (zX .u64)).mapM (Zb H n (f+1))=some (yD c.1::c.2.map (zX .u64)):=Zew fun x g=>by
  rcases List.mem_cons.1 g with rfl|g
  ·rfl
  ·obtain⟨m,_,rfl⟩:=zQ.1 g;rfl
 rw[Qq,Dh,this]
theorem OW (c:List UInt8×Int)(H:Hp)(n f:Nat):Zb H n (f+2) (BP c)=some (BP c):=(Eq.refl _).trans (Eq.refl _)
theorem LocAV.close {a:AV}{L:Loc}(h:LocAV a L)(H:Hp)(n f:Nat):∃ a',Zb H n (f+4) a=some a'/\LocAV a' L:=by
 obtain⟨x,c,e,rfl,I,E,F⟩:=h;obtain⟨D,B,C⟩:=I.close (H:=H) (n:=n) (f:=f+2) (fun y g=>by obtain⟨m,_,rfl⟩:=zQ.1 g;rfl);obtain⟨c',u,w⟩:=E.close (H:=H) (n:=n) (f:=f+2) (fun y g=>by obtain⟨m,_,rfl⟩:=zQ.1 g;exact CU m H n f);obtain⟨j,z,A⟩:=F.close (H:=H) (n:=n) (f:=f+2) (fun y g=>by obtain⟨m,_,rfl⟩:=zQ.1 g;exact OW m H n f);refine⟨.agg (L.cells D c' j),?_,D,c',j,rfl,C,w,A⟩
 have:(L.cells x c e).mapM (Zb H n (f+3))=some (L.cells D c' j):=by
  simp only[Loc.cells,List.mapM_cons,B,u,z,List.mapM_nil];rfl
 rw[Dh,this]
theorem ZlS {x:AV}{l:List (List UInt8×List Int)}(h:Sl 5 x (l.map Qq))(g:Zeg l)(z:l.length<=4611686018427387904)(H:Hp):Ze Ve [x] H=some (.int .i64 (Au l),H)/\Ze UQ [x] H=some (.int .i64 (Au l),H):=by
 obtain⟨B,j,u⟩:=h.close (H:=[]) (n:=0) (f:=8) (fun y A=>by obtain⟨m,_,rfl⟩:=zQ.1 A;exact CU m [] 0 6);obtain⟨H',w⟩:=ZvK u g z [];exact⟨XQ j w rfl,XQ j (Zul u g []) rfl⟩
theorem Zmd {x:AV}{l:List (List UInt8×Int)}(h:Sl 2 x (l.map BP))(g:Zeh l)(z:l.length<=4611686018427387904)(H:Hp):Ze WY [x] H=some (.int .i64 (EJ l),H)/\Ze Um [x] H=some (.int .i64 (EJ l),H):=by
 obtain⟨B,j,u⟩:=h.close (H:=[]) (n:=0) (f:=8) (fun y A=>by obtain⟨m,_,rfl⟩:=zQ.1 A;exact OW m [] 0 6);obtain⟨H',w⟩:=Zw2 u g z [];exact⟨XQ j w rfl,XQ j (Zuq u g []) rfl⟩
def ZgV (n:Int):Bool:=decide (n<0) || decide (65535<n)
def ZaB (L:Loc):Int:=if (Au L.cls != 0)=true then Au L.cls else EJ L.els
def W6 (L:Loc):Int :=
 if Vm L.name then (if (L.w.length != 256 || (L.lo.length != 256 || L.up.length != 256))=true then 2 else if L.w.any ZgV then 2 else ZaB L) else 4
theorem Sl.ints {x:AV}{l:List Int}(h:Sl 1 x (l.map (zX .i64))){i:Nat}(hi:i<l.length):Zn 1 x (.int .i64 (i:Int))=some (.vp [.int .i64 l[i]]):=h.idx (c:=.int .i64 l[i]) (by simp[hi])
theorem Iv (n:Nat):((n:Int) != 256)=(n != 256):=by rw[zL];simp;omega
theorem ZtF {x c e:AV}{L:Loc}(I:Sl 1 x (L.w.map (zX .i64)))(B:Sl 5 c (L.cls.map Qq))(D:Sl 2 e (L.els.map BP))(g:LocOk L)(F:L.w.length=256)(z H:Hp){o:Nat}(y:H[o]?=some (.cells (L.cells x c e))):∀ (k i:Nat),L.w.length-i=k->i<=L.w.length ->
 Kw (.ptr o 0) x (.int .i64 (L.w.length:Int)) (.int .i64 (i:Int)) z H=some (.int .i64 (if (L.w.drop i).any ZgV then 2 else ZaB L),H):=by
 intro k
 induction k with
 |zero =>
  intro i E hi;rw[ND];have j:decide ((i:Int)<(L.w.length:Int))=false:=by simp;omega
  have C:L.w.drop i=[]:=zH.2 (by omega);simp only[go_sem,j,C,yI,zD,if_false,ZdT,zE,Y2 y,Loc.cells,zA,zB,(ZlS B g.cls g.ncls H).1];unfold ZaB
  cases A:(Au L.cls != 0) with
  |true=>simp only[go_sem,if_true]
  |false=>simp only[go_sem,zD,if_false,ZdU,zE,Y2 y,Loc.cells,zA,zB,(Zmd D g.els g.nels H).1]
 |succ k J =>
  intro i E hi;rw[ND];have u:i<L.w.length:=by omega
  have j:decide ((i:Int)<(L.w.length:Int))=true:=by simp;omega
  have hw:yL.wrap ((i:Int)+1)=((i+1:Nat):Int):=by rw[Zr (by omega) (by omega)];omega
  simp only[go_sem,j,ZdV,I.ints u,ZE];rw[zF u,yE];unfold ZgV
  cases A:decide (L.w[i]<0) with
  |true=>simp only[go_sem,zK,if_true]
  |false =>
   simp only[go_sem,zI]
   cases K:decide (65535<L.w[i]) with
   |true=>simp only[go_sem,zK,if_true]
   |false =>
    simp only[go_sem,zI,ZdW,hw];exact J (i+1) (by omega) (by omega)
theorem ZtG {a:AV}{L:Loc}(h:LocAV a L)(j:LocOk L)(H:Hp):∃ H',Ge [a] H=some (.int .i64 (W6 L),H'):=by
 obtain⟨x,c,e,rfl,y,A,B⟩:=h;rw[ZeG];unfold Ib W6;have g:=y.len 3;rw[zN]at g;have C:=Vu H (.cells (L.cells x c e));simp only[go_sem,zE,ZF,Loc.cells,zA,zB,Zko L.name j.name]
 cases F:Vm L.name with
 |false=>simp only[go_sem,zJ,zD,if_false];exact⟨_,rfl⟩
 |true =>
 simp only[go_sem,zP,if_true,ZdR,zE,ZF,zA,zB,g,Iv]
 cases z:(L.w.length != 256) with
 |true=>simp only[go_sem,zK,if_true];exact⟨_,rfl⟩
 |false =>
 simp only[go_sem,zI,zE,ZF,zA,zB,YI,Iv]
 cases D:(L.lo.length != 256) with
 |true=>simp only[go_sem,zK,if_true];exact⟨_,rfl⟩
 |false =>
 simp only[go_sem,zI,zE,ZF,zA,zB,YI,Iv]
 cases E:(L.up.length != 256) with
 |true=>simp only[go_sem,if_true];exact⟨_,rfl⟩
 |false =>
 have u:L.w.length=256:=by simpa using z
 have:=ZtF y A B j u H (H++[.cells (L.cells x c e)]) C L.w.length 0 (by omega) (by omega);rw[show ((0:Nat):Int)=0 from rfl,zM]at this;simp only[Loc.cells]at this;simp only[go_sem,zD,if_false,ZdS,zE,ZF,zA,zB,g,this];exact⟨_,rfl⟩
theorem ZrC {x c e:AV}{L:Loc}(I:Sl 1 x (L.w.map (zX .i64)))(B:Sl 5 c (L.cls.map Qq))(D:Sl 2 e (L.els.map BP))(g:LocOk L)(F:L.w.length=256)(z H:Hp){o:Nat}(y:H[o]?=some (.cells (L.cells x c e))):∀ (k i:Nat),256-i=k->i<=256 ->
 Rr (.ptr o 0) (.int .i64 (i:Int)) z H=some (.int .i64 (if (L.w.drop i).any ZgV then 2 else if (L.lo.length != 256 || L.up.length != 256)=true then 2 else ZaB L),H):=by
 intro k
 induction k with
 |zero =>
  intro i E hi;rw[CH];have j:decide ((i:Int)<256)=false:=by simp;omega
  have C:L.w.drop i=[]:=zH.2 (by omega);simp only[go_sem,j,C,yI,zD,if_false,Zh8,zE,Y2 y,Loc.cells,zA,zB,YI,Iv]
  cases K:(L.lo.length != 256) with
  |true=>simp only[go_sem,zK,if_true]
  |false =>
  simp only[go_sem,zI,zE,Y2 y,Loc.cells,zA,zB,YI,Iv]
  cases M:(L.up.length != 256) with
  |true=>simp only[go_sem,if_true]
  |false =>
  simp only[go_sem,zD,if_false,Zh9,zE,Y2 y,Loc.cells,zA,zB,(ZlS B g.cls g.ncls H).2];unfold ZaB
  cases A:(Au L.cls != 0) with
  |true=>simp only[go_sem,if_true]
  |false=>simp only[go_sem,zD,if_false,Zha,zE,Y2 y,Loc.cells,zA,zB,(Zmd D g.els g.nels H).2]
 |succ k J =>
  intro i E hi;rw[CH];have u:i<L.w.length:=by omega
  have j:decide ((i:Int)<256)=true:=by simp;omega
  have hw:yL.wrap ((i:Int)+1)=((i+1:Nat):Int):=by rw[Zr (by omega) (by omega)];omega
  simp only[go_sem,j,Zhb,zE,Y2 y,Loc.cells,zA,zB,I.ints u,ZE,Zic,yH];rw[zF u,yE];have e:(decide (L.w[i]<0) || decide (65535<L.w[i]))=ZgV L.w[i]:=rfl;rw[e]
  cases A:ZgV L.w[i] with
  |true=>simp only[go_sem,zK,if_true]
  |false =>
   simp only[go_sem,zI,Zhc,hw];exact J (i+1) (by omega) (by omega)
theorem ZrD {a:AV}{L:Loc}(h:LocAV a L)(j:LocOk L)(H:Hp):∃ H',PU [a] H=some (.int .i64 (W6 L),H'):=by
 obtain⟨x,c,e,rfl,y,A,B⟩:=h;rw[ZiU];unfold Zfb W6;have g:=y.len 3;rw[zN]at g;have C:=Vu H (.cells (L.cells x c e));simp only[go_sem,zE,ZF,Loc.cells,zA,zB,Ziz L.name j.name]
 cases F:Vm L.name with
 |false=>simp only[go_sem,zJ,zD,if_false];exact⟨_,rfl⟩
 |true =>
 simp only[go_sem,zP,if_true,Zh6,zE,ZF,zA,zB,g,Iv]
 cases z:(L.w.length != 256) with
 |true=>simp only[go_sem,zK,if_true];exact⟨_,rfl⟩
 |false =>
 have u:L.w.length=256:=by simpa using z
 have:=ZrC y A B j u H (H++[.cells (L.cells x c e)]) C 256 0 (by omega) (by omega);rw[show ((0:Nat):Int)=0 from rfl,zM]at this;simp only[Loc.cells]at this;simp only[go_sem,zI,Zh7,this];refine⟨_,congrArg some (Prod.ext (congrArg (zX .i64) ?_) rfl)⟩;cases D:(L.lo.length != 256 || L.up.length != 256) <;> cases E:L.w.any ZgV <;> simp
theorem Zkh {a:AV}{L:Loc}(h:LocAV a L)(g:LocOk L)(H:Hp):Ze Ge [a] H=some (.int .i64 (W6 L),H)/\Ze PU [a] H=some (.int .i64 (W6 L),H):=by
 obtain⟨a',j,u⟩:=h.close [] 0 5;obtain⟨H',y⟩:=ZtG u g [];obtain⟨w,z⟩:=ZrD u g [];exact⟨XQ j y rfl,XQ j z rfl⟩
end Go.Am
