/- Bytes told apart -/
import Derived.Test.YtnaneekpogohaaaGreatDoorXeSx
import Derived.Test.YtnaneekpogohaaaGreatDoorXeGCx
open Go.IntKind renaming i64->yL
open List renaming getElem?_cons_zero->zA,getElem?_cons_succ->zB,getElem?_eq_getElem->zC,drop_eq_getElem_cons->zF,drop_eq_nil_iff->zH,drop_zero->zM,length_map->zN,mem_map->zQ,take_add_one->zR,getElem_mem->zS,map_append->zT,take_zero->zV,contains_cons->zW,getElem?_eq_none->zY,all_cons->zZ,isEmpty_cons->yA,contains_nil->yB,any_cons->yE,all_nil->yF,any_nil->yI,range->yJ
open Nat renaming zero_add->zE,lt_or_ge->yG
open Bool renaming false_eq_true->zD,false_or->zI,not_false->zJ,true_or->zK,eq_iff_iff->zL,true_and->zO,not_true->zP,false_and->zU,and_eq_true->yC,not_not->yH
open Prod renaming fst->zG
open Go.Am.AObj renaming cells->yK
open Go.Am.AV renaming int->zX,str->yD
namespace Go.Am
set_option maxRecDepth 100000
theorem PS {α β γ:Type}(x:Option α)(f:α->Option β)(g:β->Option γ):Z0 (Z0 x f) g=Z0 x fun a=>Z0 (f a) g:=by cases x <;> rfl
def L7 (j Y:AV):Option AV :=
 Z0 (Z5 .eql j (.int .u8 95)) fun u =>
 Z0 (Z8 u false (.tuple []) (some j)) fun C =>
 Z0 (Z8 u false (.tuple []) (Z5 .geq C (.int .u8 97))) fun D =>
 Z0 (Z8 u false (.tuple []) (some D)) fun y =>
 Z0 (Z8 y true (.tuple []) (some j)) fun E =>
 Z0 (Z8 y true (.tuple []) (Z5 .leq E (.int .u8 122))) fun F =>
 Z0 (Z8 u false (.tuple []) (Zi y F (.bool false))) fun H =>
 Z0 (Zi u (.bool true) H) fun w =>
 Z0 (Z8 w false (.tuple []) (some j)) fun I =>
 Z0 (Z8 w false (.tuple []) (Z5 .geq I (.int .u8 65))) fun J =>
 Z0 (Z8 w false (.tuple []) (some J)) fun z =>
 Z0 (Z8 z true (.tuple []) (some j)) fun K =>
 Z0 (Z8 z true (.tuple []) (Z5 .leq K (.int .u8 90))) fun L =>
 Z0 (Z8 w false (.tuple []) (Zi z L (.bool false))) fun M =>
 Z0 (Zi w (.bool true) M) fun N =>
 Z0 (Xo .not N) fun g =>
 Z0 (Z8 g true (.tuple []) (some Y)) fun O =>
 Z0 (Z8 g true (.tuple []) (Z5 .eql O (.int .i64 0))) fun Q =>
 Z0 (Z8 g true (.tuple []) (some Q)) fun A =>
 Z0 (Z8 A false (.tuple []) (some j)) fun R =>
 Z0 (Z8 A false (.tuple []) (Z5 .lss R (.int .u8 48))) fun S =>
 Z0 (Z8 g true (.tuple []) (Zi A (.bool true) S)) fun T =>
 Z0 (Z8 g true (.tuple []) (some T)) fun B =>
 Z0 (Z8 B false (.tuple []) (some j)) fun U =>
 Z0 (Z8 B false (.tuple []) (Z5 .gtr U (.int .u8 57))) fun V =>
 Z0 (Z8 g true (.tuple []) (Zi B (.bool true) V)) fun W =>
 Z0 (Zi g W (.bool false)) fun X =>
 some X
theorem Tf (w z u A:AV)(y H:Hp):P4 w z u A y H =
 Z0 (Zw w u) fun j =>
 Z0 (L7 j u) fun g =>
 Zl g (some ((.bool false),H)) (P5 w z u y H):=by
 rw[ZdX];simp only[L7,PS,Qc]
def ZhA (g:AV):Option AV :=
 Z0 (Z5 .geq g (.int .u8 97)) fun z =>
 Z0 (Z8 z true (.tuple []) (some g)) fun O =>
 Z0 (Z8 z true (.tuple []) (Z5 .leq O (.int .u8 122))) fun Q =>
 Z0 (Zi z Q (.bool false)) fun u =>
 Z0 (Z8 u false (.tuple []) (some g)) fun R =>
 Z0 (Z8 u false (.tuple []) (Z5 .geq R (.int .u8 65))) fun S =>
 Z0 (Z8 u false (.tuple []) (some S)) fun A =>
 Z0 (Z8 A true (.tuple []) (some g)) fun B =>
 Z0 (Z8 A true (.tuple []) (Z5 .leq B (.int .u8 90))) fun C =>
 Z0 (Z8 u false (.tuple []) (Zi A C (.bool false))) fun D =>
 Z0 (Zi u (.bool true) D) fun j =>
 Z0 (Z8 j false (.tuple []) (some g)) fun E =>
 Z0 (Z8 j false (.tuple []) (Z5 .geq E (.int .u8 48))) fun F =>
 Z0 (Z8 j false (.tuple []) (some F)) fun w =>
 Z0 (Z8 w true (.tuple []) (some g)) fun H =>
 Z0 (Z8 w true (.tuple []) (Z5 .leq H (.int .u8 57))) fun I =>
 Z0 (Z8 j false (.tuple []) (Zi w I (.bool false))) fun J =>
 Z0 (Zi j (.bool true) J) fun y =>
 Z0 (Z8 y false (.tuple []) (some g)) fun K =>
 Z0 (Z8 y false (.tuple []) (Z5 .eql K (.int .u8 95))) fun L =>
 Z0 (Zi y (.bool true) L) fun M =>
 Z0 (Xo .not M) fun N =>
 some N
theorem ZbD (u w:AV)(y H:Hp):Ns u w y H =
 Z0 (Zw u w) fun j =>
 Z0 (ZhA j) fun g =>
 Zl g (some ((.bool false),H)) (Nt u w y H):=by
 rw[ZeU];simp only[ZhA,PS,Qc]
def ZtS (g w:AV):Option AV :=
 Z0 (Z8 g false (.tuple []) (some w)) fun O =>
 Z0 (Z8 g false (.tuple []) (Z5 .geq O (.int .u8 48))) fun Q =>
 Z0 (Z8 g false (.tuple []) (some Q)) fun A =>
 Z0 (Z8 A true (.tuple []) (some w)) fun R =>
 Z0 (Z8 A true (.tuple []) (Z5 .leq R (.int .u8 57))) fun S =>
 Z0 (Z8 g false (.tuple []) (Zi A S (.bool false))) fun B =>
 Z0 (Zi g (.bool true) B) fun j =>
 Z0 (Z8 j false (.tuple []) (some w)) fun C =>
 Z0 (Z8 j false (.tuple []) (Z5 .geq C (.int .u8 97))) fun D =>
 Z0 (Z8 j false (.tuple []) (some D)) fun y =>
 Z0 (Z8 y true (.tuple []) (some w)) fun E =>
 Z0 (Z8 y true (.tuple []) (Z5 .leq E (.int .u8 122))) fun F =>
 Z0 (Z8 j false (.tuple []) (Zi y F (.bool false))) fun H =>
 Z0 (Zi j (.bool true) H) fun u =>
 Z0 (Z8 u false (.tuple []) (some w)) fun I =>
 Z0 (Z8 u false (.tuple []) (Z5 .geq I (.int .u8 65))) fun J =>
 Z0 (Z8 u false (.tuple []) (some J)) fun z =>
 Z0 (Z8 z true (.tuple []) (some w)) fun K =>
 Z0 (Z8 z true (.tuple []) (Z5 .leq K (.int .u8 90))) fun L =>
 Z0 (Z8 u false (.tuple []) (Zi z L (.bool false))) fun M =>
 Z0 (Zi u (.bool true) M) fun N =>
 some N
def Zkq (g w:AV):Option AV :=
 Z0 (Z8 g false (.tuple []) (some w)) fun R =>
 Z0 (Z8 g false (.tuple []) (Z5 .geq R (.int .u8 97))) fun S =>
 Z0 (Z8 g false (.tuple []) (some S)) fun y =>
 Z0 (Z8 y true (.tuple []) (some w)) fun B =>
 Z0 (Z8 y true (.tuple []) (Z5 .leq B (.int .u8 122))) fun C =>
 Z0 (Z8 g false (.tuple []) (Zi y C (.bool false))) fun D =>
 Z0 (Zi g (.bool true) D) fun j =>
 Z0 (Z8 j false (.tuple []) (some w)) fun E =>
 Z0 (Z8 j false (.tuple []) (Z5 .geq E (.int .u8 65))) fun F =>
 Z0 (Z8 j false (.tuple []) (some F)) fun z =>
 Z0 (Z8 z true (.tuple []) (some w)) fun H =>
 Z0 (Z8 z true (.tuple []) (Z5 .leq H (.int .u8 90))) fun I =>
 Z0 (Z8 j false (.tuple []) (Zi z I (.bool false))) fun J =>
 Z0 (Zi j (.bool true) J) fun u =>
 Z0 (Z8 u false (.tuple []) (some w)) fun K =>
 Z0 (Z8 u false (.tuple []) (Z5 .geq K (.int .u8 48))) fun L =>
 Z0 (Z8 u false (.tuple []) (some L)) fun A =>
 Z0 (Z8 A true (.tuple []) (some w)) fun M =>
 Z0 (Z8 A true (.tuple []) (Z5 .leq M (.int .u8 57))) fun N =>
 Z0 (Z8 u false (.tuple []) (Zi A N (.bool false))) fun O =>
 Z0 (Zi u (.bool true) O) fun Q =>
 some Q
theorem OE (y z C A D:AV)(B H:Hp):RI y z C A D B H =
 Z0 (Zw y A) fun j =>
 Z0 (Vc [j] H) fun g =>
 Z0 (Zkq g.1 j) fun w =>
 Zl w (Z0 (byteE.run [z,j] g.2) fun u=>Q6 y z C A B u.2) (Q6 y z C A B g.2):=by
 rw[Zda];simp only[Zkq,PS,Qc]
def Re:Option AV->Option Bool
 |some (.bool b)=>some b
 |_=>none
theorem Qd {x:Option AV}{b:Bool}(h:Re x=some b):x=some (.bool b):=by
 unfold Re at h;split at h
 ·injection h with h;subst h;rfl
 ·cases h
def Ztg (n:Nat):Bool:=(decide (97<=n)&&decide (n<=122)) || (decide (65<=n)&&decide (n<=90))
def PA (n:Nat):Bool:=decide (48<=n)&&decide (n<=57)
def Wk (n:Nat):Bool:=n==95 || Ztg n || PA n
theorem Zjw:((yJ 256).all fun n=>(Re (L7 (.int .u8 (n:Int)) (.int .i64 1))==some (!Wk n))&&(Re (L7 (.int .u8 (n:Int)) (.int .i64 0))==some (!Wk n || PA n)))=true:=by kernel_rfl
theorem Zr5:((yJ 256).all fun n=>(Re (ZhA (.int .u8 (n:Int)))==some (!Wk n)))=true:=by kernel_rfl
theorem Zdz (b:UInt8):b.toNat<256:=b.toNat_lt
theorem ZeD (b:UInt8):L7 (.int .u8 b.toNat) (.int .i64 0)=some (.bool (!Wk b.toNat || PA b.toNat)):=by
 have h:=V6 Zjw (Zdz b);simp only[yC,beq_iff_eq]at h;exact Qd h.2
theorem Zhm (b:UInt8){i:Int}(hi:(i==0)=false):L7 (.int .u8 b.toNat) (.int .i64 i)=some (.bool (!Wk b.toNat)):=by
 have h:=V6 Zjw (Zdz b);simp only[yC,beq_iff_eq]at h;rw[<-Qd h.1];have e:Z5 .eql (.int .i64 i) (.int .i64 0)=Z5 .eql (.int .i64 1) (.int .i64 0):=by simp only[Z5,XX,XC,hi];rfl
 unfold L7
 iterate 16 refine congrArg (Z0 _) (funext fun t=>?_)
 cases t with
 |bool b =>
  cases b
  ·rfl
  ·simp only[ZlH,Qc,e]
 |_=>rfl
theorem ZtZ (b:UInt8):ZhA (.int .u8 b.toNat)=some (.bool (!Wk b.toNat)):=by
 have h:=V6 Zr5 (Zdz b);simp only[beq_iff_eq]at h;exact Qd h
def Vi (s:List UInt8):Bool :=
 match s with
 |[]=>false
 |b::_=>decide (s.length<=32)&&!PA b.toNat&&s.all fun c=>Wk c.toNat
theorem Zon (s:List UInt8)(j:s.length<=4611686018427387904)(g H:Hp):P3 (.str s) g H=some (.bool (!s.isEmpty&&decide (s.length<=32)),H):=by
 rw[ZdW]
 cases s with
 |nil=>simp[go_sem,YK,JO]
 |cons b l =>
  simp only[YK,JO,go_sem,Zk];have:(!((b::l)==([]:List UInt8)))=true:=rfl;have c:decide (((b::l).length:Int)<=32)=decide ((b::l).length<=32):=by rw[zL];simp;omega
  simp only[this,go_sem,c,yA,zJ,zO]
theorem Ztr (s:List UInt8)(B:s.length<=4611686018427387904)(w H:Hp):∀ (k i:Nat),s.length-i=k->0<i->i<=s.length ->
 Gf (.str s) (.int .i64 s.length) (.int .i64 i) w H=some (.bool (((s.drop i).all fun c=>Wk c.toNat)&&(!s.isEmpty&&decide (s.length<=32))),H):=by
 intro k
 induction k with
 |zero =>
  intro i A y hi;rw[Qu];have g:decide ((i:Int)<(s.length:Int))=false:=by simp;omega
  have z:s.drop i=[]:=zH.2 (by omega);simp only[go_sem,g,Zon s B,z,yF,zO]
 |succ k C =>
  intro i A y hi;rw[Qu];have u:i<s.length:=by omega
  have g:decide ((i:Int)<(s.length:Int))=true:=by simp;omega
  have hw:yL.wrap ((i:Int)+1)=((i+1:Nat):Int):=by rw[Zr (by omega) (by omega)];omega
  have j:((i:Int)==0)=false:=by simp;omega
  simp only[go_sem,g,Tf,Y1 (zC u),Zhm _ j];rw[zF u,zZ]
  cases D:Wk s[i].toNat with
  |false=>simp only[go_sem,zJ,zU]
  |true =>
   simp only[go_sem,zP,zO,Mp,hw];exact C (i+1) (by omega) (by omega) (by omega)
theorem Zts (s:List UInt8)(w:s.length<=4611686018427387904)(H:Hp):JC [.str s] H=some (.bool (Vi s),H):=by
 rw[ZeP];unfold OT;simp only[go_sem,Zk]
 cases s with
 |nil=>rw[Qu];simp[go_sem,Zon [] (by simp),Vi]
 |cons b l =>
  rw[Qu];have u:decide ((0:Int)<((b::l).length:Int))=true:=by simp
  have hw:yL.wrap ((0:Int)+1)=((0+1:Nat):Int):=by decide
  have j:Zw (.str (b::l)) (.int .i64 0)=some (.int .u8 b.toNat):=by simp[Zw]
  simp only[go_sem,u,Tf,j,ZeD]
  cases g:(!Wk b.toNat || PA b.toNat) with
  |true =>
   have:Vi (b::l)=false:=by
    unfold Vi;simp only[Bool.or_eq_true,Bool.not_eq_true']at g;rcases g with g|g <;> simp[g]
   simp only[go_sem,this]
  |false =>
   simp only[Bool.or_eq_false_iff,Bool.not_eq_false']at g;simp only[go_sem,Mp,hw];rw[Ztr (b::l) w H H l.length 1 (by simp) (by omega) (by simp)]
   have:Vi (b::l)=(((b::l).drop 1).all (fun c=>Wk c.toNat)&&(!(b::l).isEmpty&&decide ((b::l).length<=32))):=by
    unfold Vi;simp only[g.1,g.2,zZ,List.drop_one,List.tail_cons,yA,zJ,zO,Bool.and_true];rw[Bool.and_comm]
   rw[this]
theorem Zr6 (s:List UInt8)(B:s.length<=4611686018427387904)(u H:Hp):∀ (k i:Nat),s.length-i=k->i<=s.length ->
 DB (.str s) (.int .i64 i) u H=some (.bool ((s.drop i).all fun c=>Wk c.toNat),H):=by
 intro k
 induction k with
 |zero =>
  intro i y hi;rw[LK];have g:decide ((i:Int)<(s.length:Int))=false:=by simp;omega
  have w:s.drop i=[]:=zH.2 (by omega);simp only[go_sem,Zk,g,ZeT,w,yF]
 |succ k z =>
  intro i y hi;rw[LK];have j:i<s.length:=by omega
  have g:decide ((i:Int)<(s.length:Int))=true:=by simp;omega
  have hw:yL.wrap ((i:Int)+1)=((i+1:Nat):Int):=by rw[Zr (by omega) (by omega)];omega
  simp only[go_sem,Zk,g,ZbD,Y1 (zC j),ZtZ];rw[zF j,zZ]
  cases A:Wk s[i].toNat with
  |false=>simp only[go_sem,zJ,zU]
  |true =>
   simp only[go_sem,zP,zO,ZeV,hw];exact z (i+1) (by omega) (by omega)
theorem Zr7 (s:List UInt8)(hs:s.length<=4611686018427387904)(H:Hp):KD [.str s] H=some (.bool (Vi s),H):=by
 rw[ZfU];unfold Zbd;simp only[go_sem,Zk]
 cases s with
 |nil=>simp[go_sem,Vi]
 |cons b l =>
  have h0:((((b::l).length:Nat):Int)==0)=false:=by simp;omega
  have hidx:Zw (.str (b::l)) (.int .i64 0)=some (.int .u8 b.toNat):=by simp[Zw]
  simp only[go_sem,h0];by_cases h32:32<(b::l).length
  ·have c1:decide ((32:Int)<((b::l).length:Int))=true:=by simp at h32 ⊢;omega
   have    : Vi (b :: l) = false := by unfold Vi; have : decide ((b :: l).length <= 32) = false := by simp at h32 ⊢; omega
                                       rw[this];rfl
   simp only[go_sem,c1,this]
  ·have c1:decide ((32:Int)<((b::l).length:Int))=false:=by simp at h32 ⊢;omega
   have c2:decide ((b::l).length<=32)=true:=by simp at h32 ⊢;omega
   have hl:=Zr6 (b::l) hs H H (b::l).length 0 (by simp) (by omega);rw[show ((0:Nat):Int)=0 from rfl,zM]at hl;have hn:Vi (b::l)=(!PA b.toNat&&(b::l).all fun c=>Wk c.toNat):=by unfold Vi;simp only[c2,zO]
   simp only[go_sem,c1,hidx,ZeS,hl,hn];have e1:decide ((48:Int)<=(b.toNat:Int))=decide (48<=b.toNat):=by rw[zL];simp;omega
   have e2:decide ((b.toNat:Int)<=(57:Int))=decide (b.toNat<=57):=by rw[zL];simp;omega
   unfold PA;simp only[e1,e2]
   cases h48:decide (48<=b.toNat) with
   |false=>simp only[go_sem,zU,zJ,zO]
   |true =>
    cases h57:decide (b.toNat<=57) with
    |false=>simp only[go_sem,hidx,e2,h57,zO,zJ]
    |true=>simp only[go_sem,hidx,e2,h57,zO,zP,zU]
theorem Zjx (s:List UInt8)(g:s.length<=4611686018427387904)(H:Hp):Zf JC [.str s] H=some (.bool (Vi s),H):=Xy rfl (Zts s g []) rfl
theorem ZhB (s:List UInt8)(g:s.length<=4611686018427387904)(H:Hp):Zf KD [.str s] H=some (.bool (Vi s),H):=Xy rfl (Zr7 s g []) rfl
theorem ZC (a:AV)(l:List AV)(H:Hp):Z4 false 1 (.vp (a::l)) H=some a:=(Eq.refl _).trans (Eq.refl _)
theorem Zpf (a:AV)(l:List AV):U6 false 1 (.vp (a::l))=some a:=(Eq.refl _).trans (Eq.refl _)
theorem Zw0 (H:Hp)(l:List AV)(k:AV->Hp->Z3):V8 (.ptr H.length 0) (H++[.cells l]) k=k (.vp l) (H++[.dead]):=by
 rw[ZsT (Vo _ _),ZwZ]
def Nu {α:Type}(bad:α->Option Int)(key:α->List UInt8):List α->List (List UInt8)->Int
 |[],_=>0
 |c::r,seen=>match bad c with
  |some e=>e
  |none=>if seen.contains (key c) then 6 else Nu bad key r (seen++[key c])
theorem Fk {α:Type}(bad:α->Option Int)(key:α->List UInt8)(c:α)(r:List α)(g:List (List UInt8)):Nu bad key (c::r) g=match bad c with
 |some e=>e
 |none=>if g.contains (key c) then 6 else Nu bad key r (g++[key c]):=(Eq.refl _).trans (Eq.refl _)
def Hr (j:List (AV×AV×Nat))(g:List (List UInt8)):Prop:=j.map (fun e=>(e.1,e.2.1))=g.map fun s=>(yD s,AV.bool true)
theorem ZgV (k:List UInt8):∀ (u:List (AV×AV×Nat)) (g:List (List UInt8)) (i:Nat),Hr u g ->
 if g.contains k then ∃ j,YS (.str k) u i=some (some (j,.bool true)) else YS (.str k) u i=some none:=by
 intro u
 induction u with
 |nil =>
  intro g i h
  cases g with
  |nil=>simp[YS]
  |cons s r=>simp[Hr]at h
 |cons e u y =>
  intro g i h
  cases g with
  |nil=>simp[Hr]at h
  |cons s r =>
   obtain⟨a,b,c⟩:=e;simp only[Hr,List.map_cons,List.cons.injEq,Prod.mk.injEq]at h;obtain⟨⟨rfl,rfl⟩,w⟩:=h;have:=y r (i+1) w;simp only[YS,QK,zW]
   cases z:(k==s) with
   |true=>simp
   |false=>simpa using this
theorem ZjI {H:Hp}{m:Nat}{u:List (AV×AV×Nat)}{c:Nat}{g:List (List UInt8)}(z:H[m]?=some (.map u c))(A:Hr u g)(k:List UInt8) :
 Yd .string (.bool false) false (.map m) (.str k) H=some (.bool (g.contains k)):=by
 have h:=ZgV k u g 0 A;unfold Yd;simp only[W4,if_true,Xe,z]
 cases w:g.contains k with
 |true =>
  rw[w]at h;obtain⟨j,y⟩:=h;simp[y]
 |false =>
  rw[w]at h;simp at h;simp[h]
theorem Zmt {H:Hp}{m:Nat}{j:List (AV×AV×Nat)}{c:Nat}{g:List (List UInt8)}(y:H[m]?=some (.map j c))(u:Hr j g){k:List UInt8}(w:g.contains k=false) :
 Xp .string (.map m) (.str k) (.bool true) H=some (.tuple [],H.set m (.map (j++[(.str k,.bool true,c)]) (c+1)))/\Hr (j++[(.str k,.bool true,c)]) (g++[k]):=by
 have h:=ZgV k j g 0 u;rw[w]at h;simp at h;constructor
 ·unfold Xp;simp only[y,W4,if_true,h]
 ·unfold Hr at u ⊢;simp[u]
theorem MH (l:List AV):Z6 0 (.vp l)=some (.vp l):=by simp[Z6]
def Qm (c:List UInt8×List Int):AV:=.agg (.str c.1::c.2.map (.int .u64))
def LZ (c:List UInt8×List Int):Option Int:=if Vi c.1 then none else some 4
def HE (l:List (List UInt8×List Int)):Int:=if 24<l.length then 3 else Nu LZ zG l []
def Zdg (l:List (List UInt8×List Int)):Prop:=∀ c∈l,c.2.length=4/\c.1.length<=4611686018427387904
theorem Sl.cls {x:AV}{l:List (List UInt8×List Int)}(h:Sl 5 x (l.map Qm)){i:Nat}{c:List UInt8×List Int}(hi:l[i]?=some c):Zo 5 x (.int .i64 (i:Int))=some (.vp (.str c.1::c.2.map (.int .u64))):=h.idx (c:=Qm c) (by simp[hi])
theorem V7 (n:Nat)(l:List AV)(g:l.length=n)(H:Hp):Z4 true n (.vp l) H=some (.agg l):=by
 subst g;simp[Z4,Go.Am.apart]
theorem LS (H:Hp)(n:Nat)(l z:List AV)(g:l.length=n)(j:z.length=n):Ze n (.ptr H.length 0) (.agg l) (H++[.cells z])=some (.tuple [],H++[.cells l]):=by
 rw[VP (sz:=n) (v:=.agg l) (Vo _ _) rfl g (by omega)];simp[AV.cells,splice,j,g]
theorem Zvp {x:AV}{l:List (List UInt8×List Int)}(h:Sl 5 x (l.map Qm))(R:l.length<=24)(A:Zdg l)(I:Hp)(m:Nat):∀ (k i:Nat) (H:Hp) (y:List (AV×AV×Nat)) (c:Nat),l.length-i=k->i<=l.length ->
 H[m]?=some (.map y c)->Hr y ((l.take i).map zG) ->
 ∃ H',V2 (.map m) x (.int .i64 (l.length:Int)) (.int .i64 (i:Int)) I H=some (.int .i64 (Nu LZ zG (l.drop i) ((l.take i).map zG)),H'):=by
 intro k
 induction k with
 |zero =>
  intro i H y c M hi E B;rw[Ks];have u:decide ((i:Int)<(l.length:Int))=false:=by simp;omega
  have L:l.drop i=[]:=zH.2 (by omega);simp only[go_sem,u,L1,L];exact⟨_,rfl⟩
 |succ k N =>
  intro i H y c M hi E B;rw[Ks];have j:i<l.length:=by omega
  have u:decide ((i:Int)<(l.length:Int))=true:=by simp;omega
  have hw:yL.wrap ((i:Int)+1)=((i+1:Nat):Int):=by rw[Zr (by omega) (by omega)];omega
  obtain⟨J,z⟩:=A l[i] (zS j);have g:(yD l[i].1::l[i].2.map (zX .u64)).length=5:=by simp[J]
  have C:=LS H 5 _ [.str [],.int .u64 0,.int .u64 0,.int .u64 0,.int .u64 0] g rfl;simp only[go_sem,u,L2,h.cls (zC j),V7 5 _ g,C,zE,ZF,zA,Zjx _ z];rw[zF j,Fk];have w:(H++[yK (yD l[i].1::l[i].2.map (zX .u64))])[m]?=some (.map y c):=Yg E _
  cases D:Vi l[i].1 with
  |false =>
   simp only[go_sem,zJ,LZ,D,zD,if_false];exact⟨_,rfl⟩
  |true =>
   simp only[go_sem,zP,LZ,D,if_true,L4,zE,ZF,zA,ZjI w B]
   cases K:((l.take i).map zG).contains l[i].1 with
   |true =>
    simp only[go_sem,if_true];exact⟨_,rfl⟩
   |false =>
    obtain⟨O,Q⟩:=Zmt w B K;simp only[go_sem,zD,if_false,L5,zE,ZF,zA,O,L3,hw]
    have F:(l.take (i+1)).map zG=(l.take i).map zG++[l[i].1]:=by
     rw[zR,zC j,zT];rfl
    rw[<-F];refine N (i+1) _ _ _ (by omega) (by omega) (Zt _ w) ?_;rw[F];exact Q
theorem Zvq {x:AV}{l:List (List UInt8×List Int)}(h:Sl 5 x (l.map Qm))(w:Zdg l)(y:l.length<=4611686018427387904)(H:Hp):∃ H',Vb [x] H=some (.int .i64 (HE l),H'):=by
 rw[LA];unfold Fa HE;have g:=h.len 246;rw[zN]at g;simp only[go_sem,g];by_cases j:24<l.length
 ·have u:decide ((24:Int)<(l.length:Int))=true:=by simp;omega
  simp only[u,go_sem,j,if_true];exact⟨_,rfl⟩
 ·have u:decide ((24:Int)<(l.length:Int))=false:=by simp;omega
  simp only[u,go_sem,j,if_false,L0,g];have:=Zvp h (by omega) w H H.length l.length 0 (H++[.map [] 0]) [] 0 (by omega) (by omega) (Vo H _) rfl;rw[show ((0:Nat):Int)=0 from rfl,zM,zV]at this;exact this
theorem Zz0 {x:AV}{l:List (List UInt8×List Int)}(h:Sl 5 x (l.map Qm))(K:l.length<=24)(A H:Hp){i:Nat}{n:List UInt8}{q:List Int}(hi:l[i]?=some (n,q)):∀ (k j:Nat),i-j=k->j<=i ->
 Um x (.int .i64 (i:Int)) (.int .i64 (j:Int)) A H=if (((l.take i).map zG).drop j).contains n then some (.int .i64 6,H) else K3 x (.int .i64 (i:Int)) A H:=by
 intro k
 have C:i<l.length:=by
  rcases yG i l.length with u|u
  ·exact u
  ·rw[zY u]at hi;cases hi
 induction k with
 |zero =>
  intro j E D;rw[BX];have g:decide ((j:Int)<(i:Int))=false:=by simp;omega
  have B:((l.take i).map zG).drop j=[]:=zH.2 (by simp;omega);simp only[go_sem,g,B,yB,zD,if_false]
 |succ k I =>
  intro j E D;rw[BX];have y:j<l.length:=by omega
  have g:decide ((j:Int)<(i:Int))=true:=by simp;omega
  have hw:yL.wrap ((j:Int)+1)=((j+1:Nat):Int):=by rw[Zr (by omega) (by omega)];omega
  have w:((l.take i).map zG).drop j=l[j].1::((l.take i).map zG).drop (j+1):=by
   rw[zF (by simp;omega)];simp
  rw[w,zW];simp only[go_sem,g,Hx,h.cls (zC y),h.cls hi,ZC];have F:YK .eql (.str l[j].1) (.str n)=some (.bool (l[j].1==n)):=rfl;have z:(n==l[j].1)=(l[j].1==n):=by rw[zL,beq_iff_eq,beq_iff_eq];exact eq_comm
  simp only[MH,ZC,F,go_sem,z]
  cases J:(l[j].1==n) with
  |true=>simp only[go_sem,zK,if_true]
  |false =>
   simp only[go_sem,zI,Hy,hw];exact I (j+1) (by omega) (by omega)
theorem ZtP {x:AV}{l:List (List UInt8×List Int)}(h:Sl 5 x (l.map Qm))(E:l.length<=24)(z:Zdg l)(A H:Hp):∀ (k i:Nat),l.length-i=k->i<=l.length ->
 Ul x (.int .i64 (i:Int)) A H=some (.int .i64 (Nu LZ zG (l.drop i) ((l.take i).map zG)),H):=by
 have j:=h.len 246;rw[zN]at j;intro k
 induction k with
 |zero =>
  intro i D hi;rw[BW];have u:decide ((i:Int)<(l.length:Int))=false:=by simp;omega
  have C:l.drop i=[]:=zH.2 (by omega);simp only[go_sem,j,u,Ht,C];rfl
 |succ k I =>
  intro i D hi;rw[BW];have g:i<l.length:=by omega
  have u:decide ((i:Int)<(l.length:Int))=true:=by simp;omega
  have hw:yL.wrap ((i:Int)+1)=((i+1:Nat):Int):=by rw[Zr (by omega) (by omega)];omega
  obtain⟨J,y⟩:=z l[i] (zS g);simp only[go_sem,j,u,Hu,h.cls (zC g),MH,ZC,ZhB _ y];rw[zF g,Fk]
  cases B:Vi l[i].1 with
  |false=>simp only[go_sem,zJ,LZ,B,zD,if_false]
  |true =>
   have w:=Zz0 h E A H (zC g) i 0 (by omega) (by omega);rw[zM,show ((0:Nat):Int)=0 from rfl]at w;simp only[go_sem,zP,LZ,B,if_true,Hw,w]
   have F:(l.take (i+1)).map zG=(l.take i).map zG++[l[i].1]:=by
    rw[zR,zC g,zT];rfl
   cases K:((l.take i).map zG).contains l[i].1 with
   |true=>simp only[if_true]
   |false =>
    simp only[zD,if_false,Hv,go_sem,hw];rw[I (i+1) (by omega) (by omega),F]
theorem ZtQ {x:AV}{l:List (List UInt8×List Int)}(h:Sl 5 x (l.map Qm))(w:Zdg l)(H:Hp):UJ [x] H=some (.int .i64 (HE l),H):=by
 rw[Ag];unfold PG HE;have g:=h.len 246;rw[zN]at g;simp only[go_sem,g];by_cases j:24<l.length
 ·have u:decide ((24:Int)<(l.length:Int))=true:=by simp;omega
  simp only[u,go_sem,j,if_true]
 ·have u:decide ((24:Int)<(l.length:Int))=false:=by simp;omega
  simp only[u,go_sem,j,if_false,Hs];have:=ZtP h (by omega) w H H l.length 0 (by omega) (by omega);rw[show ((0:Nat):Int)=0 from rfl,zM,zV]at this;exact this
def Bz (c:List UInt8×Int):AV:=.agg [.str c.1,.int .i64 c.2]
def O5 (c:List UInt8×Int):Option Int:=if (c.1.length != 2 || (decide (c.2<0) || decide (65535<c.2)))=true then some 2 else none
def E6 (l:List (List UInt8×Int)):Int:=if 64<l.length then 3 else Nu O5 zG l []
def Zdh (l:List (List UInt8×Int)):Prop:=∀ c∈l,c.1.length<=4611686018427387904
theorem Sl.els {x:AV}{l:List (List UInt8×Int)}(h:Sl 2 x (l.map Bz)){i:Nat}{c:List UInt8×Int}(hi:l[i]?=some c):Zo 2 x (.int .i64 (i:Int))=some (.vp [.str c.1,.int .i64 c.2]):=h.idx (c:=Bz c) (by simp[hi])
theorem Zp7 (a:AV)(l:List AV):Z6 1 (.vp (a::l))=some (.vp l):=by simp[Z6]
theorem Zqt (n:Int)(H:Hp):BM [.int .i64 n] H=some (.bool (!(decide (n<0) || decide (65535<n))),H):=by
 rw[ZhZ];unfold Zea;have g:decide ((0:Int)<=n)=!decide (n<0):=by rw[zL];simp
 have j:decide (n<=(65535:Int))=!decide (65535<n):=by rw[zL];simp
 simp only[go_sem,g]
 cases u:decide (n<0) with
 |true=>simp only[go_sem,zP,zK]
 |false=>simp only[go_sem,zJ,zI,j]
theorem Zhf (n:Int)(H:Hp):Zf BM [.int .i64 n] H=some (.bool (!(decide (n<0) || decide (65535<n))),H):=Xy rfl (Zqt n []) rfl
theorem ZvI {x:AV}{l:List (List UInt8×Int)}(h:Sl 2 x (l.map Bz))(S:l.length<=64)(y:Zdh l)(D:Hp)(m:Nat):∀ (k i:Nat) (H:Hp) (w:List (AV×AV×Nat)) (c:Nat),l.length-i=k->i<=l.length ->
 H[m]?=some (.map w c)->Hr w ((l.take i).map zG) ->
 ∃ H',WG (.map m) x (.int .i64 (l.length:Int)) (.int .i64 (i:Int)) D H=some (.int .i64 (Nu O5 zG (l.drop i) ((l.take i).map zG)),H'):=by
 intro k
 induction k with
 |zero =>
  intro i H w c L hi B z;rw[JK];have j:decide ((i:Int)<(l.length:Int))=false:=by simp;omega
  have K:l.drop i=[]:=zH.2 (by omega);simp only[go_sem,j,NM,K];exact⟨_,rfl⟩
 |succ k N =>
  intro i H w c L hi B z;rw[JK];have g:i<l.length:=by omega
  have j:decide ((i:Int)<(l.length:Int))=true:=by simp;omega
  have hw:yL.wrap ((i:Int)+1)=((i+1:Nat):Int):=by rw[Zr (by omega) (by omega)];omega
  have M:=y l[i] (zS g);have A:=LS H 2 [.str l[i].1,.int .i64 l[i].2] [.str [],.int .i64 0] rfl rfl;simp only[go_sem,j,NN,h.els (zC g),V7 2 [.str l[i].1,.int .i64 l[i].2] rfl,A,zE,ZF,zA,zB,YI];rw[zF g,Fk];have u:(H++[yK [yD l[i].1,zX .i64 l[i].2]])[m]?=some (.map w c):=Yg B _;have E:((l[i].1.length:Int) != 2)=(l[i].1.length != 2):=by rw[zL];simp;omega
  rw[E];unfold O5
  cases R:(l[i].1.length != 2) with
  |true=>simp only[go_sem,zK,if_true];exact⟨_,rfl⟩
  |false =>
  simp only[go_sem,zI,zE,ZF,zA,zB]
  cases F:decide (l[i].2<0) with
  |true=>simp only[go_sem,zK,if_true];exact⟨_,rfl⟩
  |false =>
  simp only[go_sem,zI,zE,ZF,zA,zB]
  cases I:decide (65535<l[i].2) with
  |true=>simp only[go_sem,if_true];exact⟨_,rfl⟩
  |false =>
   simp only[go_sem,zD,if_false,NP,zE,ZF,zA,ZjI u z]
   cases J:((l.take i).map zG).contains l[i].1 with
   |true =>
    simp only[go_sem,if_true];exact⟨_,rfl⟩
   |false =>
    obtain⟨O,Q⟩:=Zmt u z J;simp only[go_sem,zD,if_false,NQ,zE,ZF,zA,O,NO,hw]
    have C:(l.take (i+1)).map zG=(l.take i).map zG++[l[i].1]:=by
     rw[zR,zC g,zT];rfl
    rw[<-C];refine N (i+1) _ _ _ (by omega) (by omega) (Zt _ u) ?_;rw[C];exact Q
theorem ZvJ {x:AV}{l:List (List UInt8×Int)}(h:Sl 2 x (l.map Bz))(w:Zdh l)(y:l.length<=4611686018427387904)(H:Hp):∃ H',WV [x] H=some (.int .i64 (E6 l),H'):=by
 rw[My];unfold BR E6;have g:=h.len 189;rw[zN]at g;simp only[go_sem,g];by_cases j:64<l.length
 ·have u:decide ((64:Int)<(l.length:Int))=true:=by simp;omega
  simp only[u,go_sem,j,if_true];exact⟨_,rfl⟩
 ·have u:decide ((64:Int)<(l.length:Int))=false:=by simp;omega
  simp only[u,go_sem,j,if_false,NL,g];have:=ZvI h (by omega) w H H.length l.length 0 (H++[.map [] 0]) [] 0 (by omega) (by omega) (Vo H _) rfl;rw[show ((0:Nat):Int)=0 from rfl,zM,zV]at this;exact this
theorem Zz2 {x:AV}{l:List (List UInt8×Int)}(h:Sl 2 x (l.map Bz))(K:l.length<=64)(A H:Hp){i:Nat}{n:List UInt8}{q:Int}(hi:l[i]?=some (n,q)):∀ (k j:Nat),i-j=k->j<=i ->
 Vz x (.int .i64 (i:Int)) (.int .i64 (j:Int)) A H=if (((l.take i).map zG).drop j).contains n then some (.int .i64 6,H) else QZ x (.int .i64 (i:Int)) A H:=by
 intro k
 have C:i<l.length:=by
  rcases yG i l.length with u|u
  ·exact u
  ·rw[zY u]at hi;cases hi
 induction k with
 |zero =>
  intro j E D;rw[GE];have g:decide ((j:Int)<(i:Int))=false:=by simp;omega
  have B:((l.take i).map zG).drop j=[]:=zH.2 (by simp;omega);simp only[go_sem,g,B,yB,zD,if_false]
 |succ k I =>
  intro j E D;rw[GE];have y:j<l.length:=by omega
  have g:decide ((j:Int)<(i:Int))=true:=by simp;omega
  have hw:yL.wrap ((j:Int)+1)=((j+1:Nat):Int):=by rw[Zr (by omega) (by omega)];omega
  have w:((l.take i).map zG).drop j=l[j].1::((l.take i).map zG).drop (j+1):=by
   rw[zF (by simp;omega)];simp
  rw[w,zW];simp only[go_sem,g,Sq,h.els (zC y),h.els hi,ZC];have F:YK .eql (.str l[j].1) (.str n)=some (.bool (l[j].1==n)):=rfl;have z:(n==l[j].1)=(l[j].1==n):=by rw[zL,beq_iff_eq,beq_iff_eq];exact eq_comm
  simp only[MH,ZC,F,go_sem,z]
  cases J:(l[j].1==n) with
  |true=>simp only[go_sem,zK,if_true]
  |false =>
   simp only[go_sem,zI,Sr,hw];exact I (j+1) (by omega) (by omega)
theorem ZtU {x:AV}{l:List (List UInt8×Int)}(h:Sl 2 x (l.map Bz))(E:l.length<=64)(y:Zdh l)(z H:Hp):∀ (k i:Nat),l.length-i=k->i<=l.length ->
 Vy x (.int .i64 (i:Int)) z H=some (.int .i64 (Nu O5 zG (l.drop i) ((l.take i).map zG)),H):=by
 have j:=h.len 189;rw[zN]at j;intro k
 induction k with
 |zero =>
  intro i D hi;rw[GD];have u:decide ((i:Int)<(l.length:Int))=false:=by simp;omega
  have C:l.drop i=[]:=zH.2 (by omega);simp only[go_sem,j,u,Sm,C];rfl
 |succ k J =>
  intro i D hi;rw[GD];have g:i<l.length:=by omega
  have u:decide ((i:Int)<(l.length:Int))=true:=by simp;omega
  have hw:yL.wrap ((i:Int)+1)=((i+1:Nat):Int):=by rw[Zr (by omega) (by omega)];omega
  have F:=y l[i] (zS g);simp only[go_sem,j,u,Sn,h.els (zC g),MH,ZC,YI];rw[zF g,Fk];have A:((l[i].1.length:Int) != 2)=(l[i].1.length != 2):=by rw[zL];simp;omega
  rw[A];unfold O5
  cases K:(l[i].1.length != 2) with
  |true=>simp only[go_sem,zK,if_true]
  |false =>
  simp only[go_sem,zI,h.els (zC g),Zp7,ZC,Zhf,yH]
  cases B:(decide (l[i].2<0) || decide (65535<l[i].2)) with
  |true=>simp only[go_sem,if_true]
  |false =>
   have w:=Zz2 h E z H (zC g) i 0 (by omega) (by omega);rw[zM,show ((0:Nat):Int)=0 from rfl]at w;simp only[go_sem,zD,if_false,Sp,w]
   have I:(l.take (i+1)).map zG=(l.take i).map zG++[l[i].1]:=by
    rw[zR,zC g,zT];rfl
   cases L:((l.take i).map zG).contains l[i].1 with
   |true=>simp only[if_true]
   |false =>
    simp only[zD,if_false,So,go_sem,hw];rw[J (i+1) (by omega) (by omega),I];rfl
theorem ZtV {x:AV}{l:List (List UInt8×Int)}(h:Sl 2 x (l.map Bz))(w:Zdh l)(H:Hp):Uh [x] H=some (.int .i64 (E6 l),H):=by
 rw[Hi];unfold RT E6;have g:=h.len 189;rw[zN]at g;simp only[go_sem,g];by_cases j:64<l.length
 ·have u:decide ((64:Int)<(l.length:Int))=true:=by simp;omega
  simp only[u,go_sem,j,if_true]
 ·have u:decide ((64:Int)<(l.length:Int))=false:=by simp;omega
  simp only[u,go_sem,j,if_false,Sk];have:=ZtU h (by omega) w H H l.length 0 (by omega) (by omega);rw[show ((0:Nat):Int)=0 from rfl,zM,zV]at this;exact this
structure Loc where
 name:List UInt8
 w:List Int
 lo:List UInt8
 up:List UInt8
 cls:List (List UInt8×List Int)
 els:List (List UInt8×Int)
def Loc.cells (x c e:AV)(L:Loc):List AV:=[.str L.name,x,.str L.lo,.str L.up,c,e]
def LocAV (a:AV)(L:Loc):Prop:=∃ x c e,a=.agg (L.cells x c e)/\Sl 1 x (L.w.map (zX .i64))/\Sl 5 c (L.cls.map Qm)/\Sl 2 e (L.els.map Bz)
structure LocOk (L:Loc):Prop where
 name:L.name.length<=4611686018427387904
 w:L.w.length<=4611686018427387904
 lo:L.lo.length<=4611686018427387904
 up:L.up.length<=4611686018427387904
 cls:Zdg L.cls
 els:Zdh L.els
 ncls:L.cls.length<=4611686018427387904
 nels:L.els.length<=4611686018427387904
theorem C8 (c:List UInt8×List Int)(H:Hp)(n f:Nat):Zb H n (f+2) (Qm c)=some (Qm c):=by
 have:(yD c.1::c.2.map (zX .u64)).mapM (Zb H n (f+1))=some (yD c.1::c.2.map (zX .u64)):=AW fun x g=>by
  rcases List.mem_cons.1 g with rfl|g
  ·rfl
  ·obtain⟨m,_,rfl⟩:=zQ.1 g;rfl
 rw[Qm,JU,this]
theorem O6 (c:List UInt8×Int)(H:Hp)(n f:Nat):Zb H n (f+2) (Bz c)=some (Bz c):=(Eq.refl _).trans (Eq.refl _)
theorem LocAV.close {a:AV}{L:Loc}(h:LocAV a L)(H:Hp)(n f:Nat):∃ a',Zb H n (f+4) a=some a'/\LocAV a' L:=by
 obtain⟨x,c,e,rfl,I,E,F⟩:=h;obtain⟨D,B,C⟩:=I.close (H:=H) (n:=n) (f:=f+2) (fun y g=>by obtain⟨m,_,rfl⟩:=zQ.1 g;rfl);obtain⟨c',u,w⟩:=E.close (H:=H) (n:=n) (f:=f+2) (fun y g=>by obtain⟨m,_,rfl⟩:=zQ.1 g;exact C8 m H n f);obtain⟨j,z,A⟩:=F.close (H:=H) (n:=n) (f:=f+2) (fun y g=>by obtain⟨m,_,rfl⟩:=zQ.1 g;exact O6 m H n f);refine⟨.agg (L.cells D c' j),?_,D,c',j,rfl,C,w,A⟩
 have:(L.cells x c e).mapM (Zb H n (f+3))=some (L.cells D c' j):=by
  simp only[Loc.cells,List.mapM_cons,B,u,z,List.mapM_nil];rfl
 rw[JU,this]
theorem Zl2 {x:AV}{l:List (List UInt8×List Int)}(h:Sl 5 x (l.map Qm))(g:Zdg l)(z:l.length<=4611686018427387904)(H:Hp):Zf Vb [x] H=some (.int .i64 (HE l),H)/\Zf UJ [x] H=some (.int .i64 (HE l),H):=by
 obtain⟨B,j,u⟩:=h.close (H:=[]) (n:=0) (f:=8) (fun y A=>by obtain⟨m,_,rfl⟩:=zQ.1 A;exact C8 m [] 0 6);obtain⟨H',w⟩:=Zvq u g z [];exact⟨Xy j w rfl,Xy j (ZtQ u g []) rfl⟩
theorem Zlm {x:AV}{l:List (List UInt8×Int)}(h:Sl 2 x (l.map Bz))(g:Zdh l)(z:l.length<=4611686018427387904)(H:Hp):Zf WV [x] H=some (.int .i64 (E6 l),H)/\Zf Uh [x] H=some (.int .i64 (E6 l),H):=by
 obtain⟨B,j,u⟩:=h.close (H:=[]) (n:=0) (f:=8) (fun y A=>by obtain⟨m,_,rfl⟩:=zQ.1 A;exact O6 m [] 0 6);obtain⟨H',w⟩:=ZvJ u g z [];exact⟨Xy j w rfl,Xy j (ZtV u g []) rfl⟩
def ZfQ (n:Int):Bool:=decide (n<0) || decide (65535<n)
def OL (L:Loc):Int:=if (HE L.cls != 0)=true then HE L.cls else E6 L.els
def XY (L:Loc):Int :=
 if Vi L.name then (if (L.w.length != 256 || (L.lo.length != 256 || L.up.length != 256))=true then 2 else if L.w.any ZfQ then 2 else OL L) else 4
theorem Sl.ints {x:AV}{l:List Int}(h:Sl 1 x (l.map (zX .i64))){i:Nat}(hi:i<l.length):Zo 1 x (.int .i64 (i:Int))=some (.vp [.int .i64 l[i]]):=h.idx (c:=.int .i64 l[i]) (by simp[hi])
theorem AE (n:Nat):((n:Int) != 256)=(n != 256):=by rw[zL];simp;omega
theorem Zt8 {x c e:AV}{L:Loc}(I:Sl 1 x (L.w.map (zX .i64)))(B:Sl 5 c (L.cls.map Qm))(D:Sl 2 e (L.els.map Bz))(g:LocOk L)(F:L.w.length=256)(z H:Hp){o:Nat}(y:H[o]?=some (.cells (L.cells x c e))):∀ (k i:Nat),L.w.length-i=k->i<=L.w.length ->
 Kr (.ptr o 0) x (.int .i64 (L.w.length:Int)) (.int .i64 (i:Int)) z H=some (.int .i64 (if (L.w.drop i).any ZfQ then 2 else OL L),H):=by
 intro k
 induction k with
 |zero =>
  intro i E hi;rw[N6];have j:decide ((i:Int)<(L.w.length:Int))=false:=by simp;omega
  have C:L.w.drop i=[]:=zH.2 (by omega);simp only[go_sem,j,C,yI,zD,if_false,ZcS,zE,Y5 y,Loc.cells,zA,zB,(Zl2 B g.cls g.ncls H).1];unfold OL
  cases A:(HE L.cls != 0) with
  |true=>simp only[go_sem,if_true]
  |false=>simp only[go_sem,zD,if_false,ZcT,zE,Y5 y,Loc.cells,zA,zB,(Zlm D g.els g.nels H).1]
 |succ k J =>
  intro i E hi;rw[N6];have u:i<L.w.length:=by omega
  have j:decide ((i:Int)<(L.w.length:Int))=true:=by simp;omega
  have hw:yL.wrap ((i:Int)+1)=((i+1:Nat):Int):=by rw[Zr (by omega) (by omega)];omega
  simp only[go_sem,j,ZcU,I.ints u,ZC];rw[zF u,yE];unfold ZfQ
  cases A:decide (L.w[i]<0) with
  |true=>simp only[go_sem,zK,if_true]
  |false =>
   simp only[go_sem,zI]
   cases K:decide (65535<L.w[i]) with
   |true=>simp only[go_sem,zK,if_true]
   |false =>
    simp only[go_sem,zI,ZcV,hw];exact J (i+1) (by omega) (by omega)
theorem Zt9 {a:AV}{L:Loc}(h:LocAV a L)(j:LocOk L)(H:Hp):∃ H',G2 [a] H=some (.int .i64 (XY L),H'):=by
 obtain⟨x,c,e,rfl,y,A,B⟩:=h;rw[ZdE];unfold Ao XY;have g:=y.len 3;rw[zN]at g;have C:=Vo H (.cells (L.cells x c e));simp only[go_sem,zE,ZF,Loc.cells,zA,zB,Zjx L.name j.name]
 cases F:Vi L.name with
 |false=>simp only[go_sem,zJ,zD,if_false];exact⟨_,rfl⟩
 |true =>
 simp only[go_sem,zP,if_true,ZcQ,zE,ZF,zA,zB,g,AE]
 cases z:(L.w.length != 256) with
 |true=>simp only[go_sem,zK,if_true];exact⟨_,rfl⟩
 |false =>
 simp only[go_sem,zI,zE,ZF,zA,zB,YI,AE]
 cases D:(L.lo.length != 256) with
 |true=>simp only[go_sem,zK,if_true];exact⟨_,rfl⟩
 |false =>
 simp only[go_sem,zI,zE,ZF,zA,zB,YI,AE]
 cases E:(L.up.length != 256) with
 |true=>simp only[go_sem,if_true];exact⟨_,rfl⟩
 |false =>
 have u:L.w.length=256:=by simpa using z
 have:=Zt8 y A B j u H (H++[.cells (L.cells x c e)]) C L.w.length 0 (by omega) (by omega);rw[show ((0:Nat):Int)=0 from rfl,zM]at this;simp only[Loc.cells]at this;simp only[go_sem,zD,if_false,ZcR,zE,ZF,zA,zB,g,this];exact⟨_,rfl⟩
theorem Zr3 {x c e:AV}{L:Loc}(I:Sl 1 x (L.w.map (zX .i64)))(B:Sl 5 c (L.cls.map Qm))(D:Sl 2 e (L.els.map Bz))(g:LocOk L)(F:L.w.length=256)(z H:Hp){o:Nat}(y:H[o]?=some (.cells (L.cells x c e))):∀ (k i:Nat),256-i=k->i<=256 ->
 FX (.ptr o 0) (.int .i64 (i:Int)) z H=some (.int .i64 (if (L.w.drop i).any ZfQ then 2 else if (L.lo.length != 256 || L.up.length != 256)=true then 2 else OL L),H):=by
 intro k
 induction k with
 |zero =>
  intro i E hi;rw[SV];have j:decide ((i:Int)<256)=false:=by simp;omega
  have C:L.w.drop i=[]:=zH.2 (by omega);simp only[go_sem,j,C,yI,zD,if_false,Zg9,zE,Y5 y,Loc.cells,zA,zB,YI,AE]
  cases K:(L.lo.length != 256) with
  |true=>simp only[go_sem,zK,if_true]
  |false =>
  simp only[go_sem,zI,zE,Y5 y,Loc.cells,zA,zB,YI,AE]
  cases M:(L.up.length != 256) with
  |true=>simp only[go_sem,if_true]
  |false =>
  simp only[go_sem,zD,if_false,Zga,zE,Y5 y,Loc.cells,zA,zB,(Zl2 B g.cls g.ncls H).2];unfold OL
  cases A:(HE L.cls != 0) with
  |true=>simp only[go_sem,if_true]
  |false=>simp only[go_sem,zD,if_false,Zgb,zE,Y5 y,Loc.cells,zA,zB,(Zlm D g.els g.nels H).2]
 |succ k J =>
  intro i E hi;rw[SV];have u:i<L.w.length:=by omega
  have j:decide ((i:Int)<256)=true:=by simp;omega
  have hw:yL.wrap ((i:Int)+1)=((i+1:Nat):Int):=by rw[Zr (by omega) (by omega)];omega
  simp only[go_sem,j,Zgc,zE,Y5 y,Loc.cells,zA,zB,I.ints u,ZC,Zhf,yH];rw[zF u,yE];have e:(decide (L.w[i]<0) || decide (65535<L.w[i]))=ZfQ L.w[i]:=rfl;rw[e]
  cases A:ZfQ L.w[i] with
  |true=>simp only[go_sem,zK,if_true]
  |false =>
   simp only[go_sem,zI,Zgd,hw];exact J (i+1) (by omega) (by omega)
theorem Zr4 {a:AV}{L:Loc}(h:LocAV a L)(j:LocOk L)(H:Hp):∃ H',Pl [a] H=some (.int .i64 (XY L),H'):=by
 obtain⟨x,c,e,rfl,y,A,B⟩:=h;rw[ZhX];unfold Ze8 XY;have g:=y.len 3;rw[zN]at g;have C:=Vo H (.cells (L.cells x c e));simp only[go_sem,zE,ZF,Loc.cells,zA,zB,ZhB L.name j.name]
 cases F:Vi L.name with
 |false=>simp only[go_sem,zJ,zD,if_false];exact⟨_,rfl⟩
 |true =>
 simp only[go_sem,zP,if_true,Zg7,zE,ZF,zA,zB,g,AE]
 cases z:(L.w.length != 256) with
 |true=>simp only[go_sem,zK,if_true];exact⟨_,rfl⟩
 |false =>
 have u:L.w.length=256:=by simpa using z
 have:=Zr3 y A B j u H (H++[.cells (L.cells x c e)]) C 256 0 (by omega) (by omega);rw[show ((0:Nat):Int)=0 from rfl,zM]at this;simp only[Loc.cells]at this;simp only[go_sem,zI,Zg8,this];refine⟨_,congrArg some (Prod.ext (congrArg (zX .i64) ?_) rfl)⟩;cases D:(L.lo.length != 256 || L.up.length != 256) <;> cases E:L.w.any ZfQ <;> simp
theorem Zjp {a:AV}{L:Loc}(h:LocAV a L)(g:LocOk L)(H:Hp):Zf G2 [a] H=some (.int .i64 (XY L),H)/\Zf Pl [a] H=some (.int .i64 (XY L),H):=by
 obtain⟨a',j,u⟩:=h.close [] 0 5;obtain⟨H',y⟩:=Zt9 u g [];obtain⟨w,z⟩:=Zr4 u g [];exact⟨Xy j y rfl,Xy j z rfl⟩
end Go.Am
