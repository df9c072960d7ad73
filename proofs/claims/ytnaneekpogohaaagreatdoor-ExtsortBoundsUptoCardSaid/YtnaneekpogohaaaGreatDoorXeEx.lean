/- Bytes told apart -/
import Derived.Test.YtnaneekpogohaaaGreatDoorXeSx
import Derived.Test.YtnaneekpogohaaaGreatDoorXeGCx
open Go.IntKind renaming i64->yL
open List renaming getElem?_cons_zero->zA,getElem?_cons_succ->zB,getElem?_eq_getElem->zC,drop_eq_getElem_cons->zF,drop_eq_nil_iff->zH,drop_zero->zM,length_map->zN,mem_map->zQ,take_add_one->zR,getElem_mem->zS,map_append->zT,take_zero->zV,contains_cons->zW,getElem?_eq_none->zY,all_cons->zZ,isEmpty_cons->yA,contains_nil->yB,any_cons->yE,all_nil->yF,any_nil->yI,range->yJ
open Nat renaming zero_add->zE,lt_or_ge->yG
open Bool renaming false_eq_true->zD,false_or->zI,not_false->zJ,true_or->zK,eq_iff_iff->zL,true_and->zO,not_true->zP,false_and->zU,and_eq_true->yC,not_not->yH
open Prod renaming fst->zG
open Go.Am.AObj renaming cells->yK
open Go.Am.AV renaming int->zX,str->yD
namespace Go.Am
set_option maxRecDepth 100000
theorem PN {α β γ:Type}(x:Option α)(f:α->Option β)(g:β->Option γ):Z0 (Z0 x f) g=Z0 x fun a=>Z0 (f a) g:=by cases x <;> rfl
def L5 (j Y:AV):Option AV :=
 Z0 (Z5 .eql j (.int .u8 95)) fun u =>
 Z0 (Z8 u false (.tuple []) (some j)) fun C =>
 Z0 (Z8 u false (.tuple []) (Z5 .geq C (.int .u8 97))) fun D =>
 Z0 (Z8 u false (.tuple []) (some D)) fun y =>
 Z0 (Z8 y true (.tuple []) (some j)) fun E =>
 Z0 (Z8 y true (.tuple []) (Z5 .leq E (.int .u8 122))) fun F =>
 Z0 (Z8 u false (.tuple []) (Zj y F (.bool false))) fun H =>
 Z0 (Zj u (.bool true) H) fun w =>
 Z0 (Z8 w false (.tuple []) (some j)) fun I =>
 Z0 (Z8 w false (.tuple []) (Z5 .geq I (.int .u8 65))) fun J =>
 Z0 (Z8 w false (.tuple []) (some J)) fun z =>
 Z0 (Z8 z true (.tuple []) (some j)) fun K =>
 Z0 (Z8 z true (.tuple []) (Z5 .leq K (.int .u8 90))) fun L =>
 Z0 (Z8 w false (.tuple []) (Zj z L (.bool false))) fun M =>
 Z0 (Zj w (.bool true) M) fun N =>
 Z0 (Xk .not N) fun g =>
 Z0 (Z8 g true (.tuple []) (some Y)) fun O =>
 Z0 (Z8 g true (.tuple []) (Z5 .eql O (.int .i64 0))) fun Q =>
 Z0 (Z8 g true (.tuple []) (some Q)) fun A =>
 Z0 (Z8 A false (.tuple []) (some j)) fun R =>
 Z0 (Z8 A false (.tuple []) (Z5 .lss R (.int .u8 48))) fun S =>
 Z0 (Z8 g true (.tuple []) (Zj A (.bool true) S)) fun T =>
 Z0 (Z8 g true (.tuple []) (some T)) fun B =>
 Z0 (Z8 B false (.tuple []) (some j)) fun U =>
 Z0 (Z8 B false (.tuple []) (Z5 .gtr U (.int .u8 57))) fun V =>
 Z0 (Z8 g true (.tuple []) (Zj B (.bool true) V)) fun W =>
 Z0 (Zj g W (.bool false)) fun X =>
 some X
theorem Ti (w x7 u z:AV)(y H:Hp):P4 w x7 u z y H =
 Z0 (Zz w u) fun j =>
 Z0 (L5 j u) fun g =>
 Zk g (some ((.bool false),H)) (P5 w x7 u y H):=by
 rw[Zeb];simp only[L5,PN,Qb]
def ZhL (g:AV):Option AV :=
 Z0 (Z5 .geq g (.int .u8 97)) fun z =>
 Z0 (Z8 z true (.tuple []) (some g)) fun O =>
 Z0 (Z8 z true (.tuple []) (Z5 .leq O (.int .u8 122))) fun Q =>
 Z0 (Zj z Q (.bool false)) fun u =>
 Z0 (Z8 u false (.tuple []) (some g)) fun R =>
 Z0 (Z8 u false (.tuple []) (Z5 .geq R (.int .u8 65))) fun S =>
 Z0 (Z8 u false (.tuple []) (some S)) fun A =>
 Z0 (Z8 A true (.tuple []) (some g)) fun B =>
 Z0 (Z8 A true (.tuple []) (Z5 .leq B (.int .u8 90))) fun C =>
 Z0 (Z8 u false (.tuple []) (Zj A C (.bool false))) fun D =>
 Z0 (Zj u (.bool true) D) fun j =>
 Z0 (Z8 j false (.tuple []) (some g)) fun E =>
 Z0 (Z8 j false (.tuple []) (Z5 .geq E (.int .u8 48))) fun F =>
 Z0 (Z8 j false (.tuple []) (some F)) fun w =>
 Z0 (Z8 w true (.tuple []) (some g)) fun H =>
 Z0 (Z8 w true (.tuple []) (Z5 .leq H (.int .u8 57))) fun I =>
 Z0 (Z8 j false (.tuple []) (Zj w I (.bool false))) fun J =>
 Z0 (Zj j (.bool true) J) fun y =>
 Z0 (Z8 y false (.tuple []) (some g)) fun K =>
 Z0 (Z8 y false (.tuple []) (Z5 .eql K (.int .u8 95))) fun L =>
 Z0 (Zj y (.bool true) L) fun M =>
 Z0 (Xk .not M) fun N =>
 some N
theorem ZbM (u w:AV)(y H:Hp):Np u w y H =
 Z0 (Zz u w) fun j =>
 Z0 (ZhL j) fun g =>
 Zk g (some ((.bool false),H)) (Nq u w y H):=by
 rw[Zf4];simp only[ZhL,PN,Qb]
def ZtX (g w:AV):Option AV :=
 Z0 (Z8 g false (.tuple []) (some w)) fun O =>
 Z0 (Z8 g false (.tuple []) (Z5 .geq O (.int .u8 48))) fun Q =>
 Z0 (Z8 g false (.tuple []) (some Q)) fun A =>
 Z0 (Z8 A true (.tuple []) (some w)) fun R =>
 Z0 (Z8 A true (.tuple []) (Z5 .leq R (.int .u8 57))) fun S =>
 Z0 (Z8 g false (.tuple []) (Zj A S (.bool false))) fun B =>
 Z0 (Zj g (.bool true) B) fun j =>
 Z0 (Z8 j false (.tuple []) (some w)) fun C =>
 Z0 (Z8 j false (.tuple []) (Z5 .geq C (.int .u8 97))) fun D =>
 Z0 (Z8 j false (.tuple []) (some D)) fun y =>
 Z0 (Z8 y true (.tuple []) (some w)) fun E =>
 Z0 (Z8 y true (.tuple []) (Z5 .leq E (.int .u8 122))) fun F =>
 Z0 (Z8 j false (.tuple []) (Zj y F (.bool false))) fun H =>
 Z0 (Zj j (.bool true) H) fun u =>
 Z0 (Z8 u false (.tuple []) (some w)) fun I =>
 Z0 (Z8 u false (.tuple []) (Z5 .geq I (.int .u8 65))) fun J =>
 Z0 (Z8 u false (.tuple []) (some J)) fun z =>
 Z0 (Z8 z true (.tuple []) (some w)) fun K =>
 Z0 (Z8 z true (.tuple []) (Z5 .leq K (.int .u8 90))) fun L =>
 Z0 (Z8 u false (.tuple []) (Zj z L (.bool false))) fun M =>
 Z0 (Zj u (.bool true) M) fun N =>
 some N
def Zkt (g w:AV):Option AV :=
 Z0 (Z8 g false (.tuple []) (some w)) fun R =>
 Z0 (Z8 g false (.tuple []) (Z5 .geq R (.int .u8 97))) fun S =>
 Z0 (Z8 g false (.tuple []) (some S)) fun y =>
 Z0 (Z8 y true (.tuple []) (some w)) fun B =>
 Z0 (Z8 y true (.tuple []) (Z5 .leq B (.int .u8 122))) fun C =>
 Z0 (Z8 g false (.tuple []) (Zj y C (.bool false))) fun D =>
 Z0 (Zj g (.bool true) D) fun j =>
 Z0 (Z8 j false (.tuple []) (some w)) fun E =>
 Z0 (Z8 j false (.tuple []) (Z5 .geq E (.int .u8 65))) fun F =>
 Z0 (Z8 j false (.tuple []) (some F)) fun z =>
 Z0 (Z8 z true (.tuple []) (some w)) fun H =>
 Z0 (Z8 z true (.tuple []) (Z5 .leq H (.int .u8 90))) fun I =>
 Z0 (Z8 j false (.tuple []) (Zj z I (.bool false))) fun J =>
 Z0 (Zj j (.bool true) J) fun u =>
 Z0 (Z8 u false (.tuple []) (some w)) fun K =>
 Z0 (Z8 u false (.tuple []) (Z5 .geq K (.int .u8 48))) fun L =>
 Z0 (Z8 u false (.tuple []) (some L)) fun A =>
 Z0 (Z8 A true (.tuple []) (some w)) fun M =>
 Z0 (Z8 A true (.tuple []) (Z5 .leq M (.int .u8 57))) fun N =>
 Z0 (Z8 u false (.tuple []) (Zj A N (.bool false))) fun O =>
 Z0 (Zj u (.bool true) O) fun Q =>
 some Q
theorem OI (y z x7 A C:AV)(B H:Hp):RO y z x7 A C B H =
 Z0 (Zz y A) fun j =>
 Z0 (Vd [j] H) fun g =>
 Z0 (Zkt g.1 j) fun w =>
 Zk w (Z0 (byteE.run [z,j] g.2) fun u=>Q4 y z x7 A B u.2) (Q4 y z x7 A B g.2):=by
 rw[Zdn];simp only[Zkt,PN,Qb]
def Ri:Option AV->Option Bool
 |some (.bool b)=>some b
 |_=>none
theorem Qc {x:Option AV}{b:Bool}(h:Ri x=some b):x=some (.bool b):=by
 unfold Ri at h;split at h
 ·injection h with h;subst h;rfl
 ·cases h
def Ztg (n:Nat):Bool:=(decide (97<=n)&&decide (n<=122)) || (decide (65<=n)&&decide (n<=90))
def Pw (n:Nat):Bool:=decide (48<=n)&&decide (n<=57)
def Wl (n:Nat):Bool:=n==95 || Ztg n || Pw n
theorem ZjC:((yJ 256).all fun n=>(Ri (L5 (.int .u8 (n:Int)) (.int .i64 1))==some (!Wl n))&&(Ri (L5 (.int .u8 (n:Int)) (.int .i64 0))==some (!Wl n || Pw n)))=true:=by kernel_rfl
theorem Zr8:((yJ 256).all fun n=>(Ri (ZhL (.int .u8 (n:Int)))==some (!Wl n)))=true:=by kernel_rfl
theorem ZdM (b:UInt8):b.toNat<256:=b.toNat_lt
theorem ZeN (b:UInt8):L5 (.int .u8 b.toNat) (.int .i64 0)=some (.bool (!Wl b.toNat || Pw b.toNat)):=by
 have h:=V6 ZjC (ZdM b);simp only[yC,beq_iff_eq]at h;exact Qc h.2
theorem Zhx (b:UInt8){i:Int}(hi:(i==0)=false):L5 (.int .u8 b.toNat) (.int .i64 i)=some (.bool (!Wl b.toNat)):=by
 have h:=V6 ZjC (ZdM b);simp only[yC,beq_iff_eq]at h;rw[<-Qc h.1];have e:Z5 .eql (.int .i64 i) (.int .i64 0)=Z5 .eql (.int .i64 1) (.int .i64 0):=by simp only[Z5,XG,Xz,hi];rfl
 unfold L5
 iterate 16 refine congrArg (Z0 _) (funext fun t=>?_)
 cases t with
 |bool b =>
  cases b
  ·rfl
  ·simp only[ZlI,Qb,e]
 |_=>rfl
theorem Zu4 (b:UInt8):ZhL (.int .u8 b.toNat)=some (.bool (!Wl b.toNat)):=by
 have h:=V6 Zr8 (ZdM b);simp only[beq_iff_eq]at h;exact Qc h
def Vj (s:List UInt8):Bool :=
 match s with
 |[]=>false
 |b::_=>decide (s.length<=32)&&!Pw b.toNat&&s.all fun c=>Wl c.toNat
theorem Zon (s:List UInt8)(j:s.length<=4611686018427387904)(g H:Hp):P3 (.str s) g H=some (.bool (!s.isEmpty&&decide (s.length<=32)),H):=by
 rw[Zea]
 cases s with
 |nil=>simp[go_sem,Xe,Dr]
 |cons b l =>
  simp only[Xe,Dr,go_sem,Zl];have:(!((b::l)==([]:List UInt8)))=true:=rfl;have c:decide (((b::l).length:Int)<=32)=decide ((b::l).length<=32):=by rw[zL];simp;omega
  simp only[this,go_sem,c,yA,zJ,zO]
theorem Zts (s:List UInt8)(B:s.length<=4611686018427387904)(w H:Hp):∀ (k i:Nat),s.length-i=k->0<i->i<=s.length ->
 Gi (.str s) (.int .i64 s.length) (.int .i64 i) w H=some (.bool (((s.drop i).all fun c=>Wl c.toNat)&&(!s.isEmpty&&decide (s.length<=32))),H):=by
 intro k
 induction k with
 |zero =>
  intro i A y hi;rw[Qt];have g:decide ((i:Int)<(s.length:Int))=false:=by simp;omega
  have z:s.drop i=[]:=zH.2 (by omega);simp only[go_sem,g,Zon s B,z,yF,zO]
 |succ k C =>
  intro i A y hi;rw[Qt];have u:i<s.length:=by omega
  have g:decide ((i:Int)<(s.length:Int))=true:=by simp;omega
  have hw:yL.wrap ((i:Int)+1)=((i+1:Nat):Int):=by rw[Zo (by omega) (by omega)];omega
  have j:((i:Int)==0)=false:=by simp;omega
  simp only[go_sem,g,Ti,Y9 (zC u),Zhx _ j];rw[zF u,zZ]
  cases D:Wl s[i].toNat with
  |false=>simp only[go_sem,zJ,zU]
  |true =>
   simp only[go_sem,zP,zO,Mo,hw];exact C (i+1) (by omega) (by omega) (by omega)
theorem Ztt (s:List UInt8)(w:s.length<=4611686018427387904)(H:Hp):Jz [.str s] H=some (.bool (Vj s),H):=by
 rw[Zf0];unfold OX;simp only[go_sem,Zl]
 cases s with
 |nil=>rw[Qt];simp[go_sem,Zon [] (by simp),Vj]
 |cons b l =>
  rw[Qt];have u:decide ((0:Int)<((b::l).length:Int))=true:=by simp
  have hw:yL.wrap ((0:Int)+1)=((0+1:Nat):Int):=by decide
  have j:Zz (.str (b::l)) (.int .i64 0)=some (.int .u8 b.toNat):=by simp[Zz]
  simp only[go_sem,u,Ti,j,ZeN]
  cases g:(!Wl b.toNat || Pw b.toNat) with
  |true =>
   have:Vj (b::l)=false:=by
    unfold Vj;simp only[Bool.or_eq_true,Bool.not_eq_true']at g;rcases g with g|g <;> simp[g]
   simp only[go_sem,this]
  |false =>
   simp only[Bool.or_eq_false_iff,Bool.not_eq_false']at g;simp only[go_sem,Mo,hw];rw[Zts (b::l) w H H l.length 1 (by simp) (by omega) (by simp)]
   have:Vj (b::l)=(((b::l).drop 1).all (fun c=>Wl c.toNat)&&(!(b::l).isEmpty&&decide ((b::l).length<=32))):=by
    unfold Vj;simp only[g.1,g.2,zZ,List.drop_one,List.tail_cons,yA,zJ,zO,Bool.and_true];rw[Bool.and_comm]
   rw[this]
theorem Zr9 (s:List UInt8)(B:s.length<=4611686018427387904)(u H:Hp):∀ (k i:Nat),s.length-i=k->i<=s.length ->
 DE (.str s) (.int .i64 i) u H=some (.bool ((s.drop i).all fun c=>Wl c.toNat),H):=by
 intro k
 induction k with
 |zero =>
  intro i y hi;rw[LK];have g:decide ((i:Int)<(s.length:Int))=false:=by simp;omega
  have w:s.drop i=[]:=zH.2 (by omega);simp only[go_sem,Zl,g,Zf3,w,yF]
 |succ k z =>
  intro i y hi;rw[LK];have j:i<s.length:=by omega
  have g:decide ((i:Int)<(s.length:Int))=true:=by simp;omega
  have hw:yL.wrap ((i:Int)+1)=((i+1:Nat):Int):=by rw[Zo (by omega) (by omega)];omega
  simp only[go_sem,Zl,g,ZbM,Y9 (zC j),Zu4];rw[zF j,zZ]
  cases A:Wl s[i].toNat with
  |false=>simp only[go_sem,zJ,zU]
  |true =>
   simp only[go_sem,zP,zO,Zf5,hw];exact z (i+1) (by omega) (by omega)
theorem Zra (s:List UInt8)(hs:s.length<=4611686018427387904)(H:Hp):KA [.str s] H=some (.bool (Vj s),H):=by
 rw[Zg4];unfold Zbl;simp only[go_sem,Zl]
 cases s with
 |nil=>simp[go_sem,Vj]
 |cons b l =>
  have h0:((((b::l).length:Nat):Int)==0)=false:=by simp;omega
  have hidx:Zz (.str (b::l)) (.int .i64 0)=some (.int .u8 b.toNat):=by simp[Zz]
  simp only[go_sem,h0];by_cases h32:32<(b::l).length
  ·have c1:decide ((32:Int)<((b::l).length:Int))=true:=by simp at h32 ⊢;omega
   have    : Vj (b :: l) = false := by unfold Vj; have : decide ((b :: l).length <= 32) = false := by simp at h32 ⊢; omega
                                       rw[this];rfl
   simp only[go_sem,c1,this]
  ·have c1:decide ((32:Int)<((b::l).length:Int))=false:=by simp at h32 ⊢;omega
   have c2:decide ((b::l).length<=32)=true:=by simp at h32 ⊢;omega
   have hl:=Zr9 (b::l) hs H H (b::l).length 0 (by simp) (by omega);rw[show ((0:Nat):Int)=0 from rfl,zM]at hl;have hn:Vj (b::l)=(!Pw b.toNat&&(b::l).all fun c=>Wl c.toNat):=by unfold Vj;simp only[c2,zO]
   simp only[go_sem,c1,hidx,Zf2,hl,hn];have e1:decide ((48:Int)<=(b.toNat:Int))=decide (48<=b.toNat):=by rw[zL];simp;omega
   have e2:decide ((b.toNat:Int)<=(57:Int))=decide (b.toNat<=57):=by rw[zL];simp;omega
   unfold Pw;simp only[e1,e2]
   cases h48:decide (48<=b.toNat) with
   |false=>simp only[go_sem,zU,zJ,zO]
   |true =>
    cases h57:decide (b.toNat<=57) with
    |false=>simp only[go_sem,hidx,e2,h57,zO,zJ]
    |true=>simp only[go_sem,hidx,e2,h57,zO,zP,zU]
theorem ZjD (s:List UInt8)(g:s.length<=4611686018427387904)(H:Hp):Zf Jz [.str s] H=some (.bool (Vj s),H):=XO rfl (Ztt s g []) rfl
theorem ZhM (s:List UInt8)(g:s.length<=4611686018427387904)(H:Hp):Zf KA [.str s] H=some (.bool (Vj s),H):=XO rfl (Zra s g []) rfl
theorem ZB (a:AV)(l:List AV)(H:Hp):Z3 false 1 (.vp (a::l)) H=some a:=(Eq.refl _).trans (Eq.refl _)
theorem Zpj (a:AV)(l:List AV):Wf false 1 (.vp (a::l))=some a:=(Eq.refl _).trans (Eq.refl _)
theorem Zw5 (H:Hp)(l:List AV)(k:AV->Hp->Z4):WS (.ptr H.length 0) (H++[.cells l]) k=k (.vp l) (H++[.dead]):=by
 rw[ZlH (Vq _ _),Zx6]
def Nr {α:Type}(bad:α->Option Int)(key:α->List UInt8):List α->List (List UInt8)->Int
 |[],_=>0
 |c::r,seen=>match bad c with
  |some e=>e
  |none=>if seen.contains (key c) then 6 else Nr bad key r (seen++[key c])
theorem Fq {α:Type}(bad:α->Option Int)(key:α->List UInt8)(c:α)(r:List α)(g:List (List UInt8)):Nr bad key (c::r) g=match bad c with
 |some e=>e
 |none=>if g.contains (key c) then 6 else Nr bad key r (g++[key c]):=(Eq.refl _).trans (Eq.refl _)
def Hv (j:List (AV×AV×Nat))(g:List (List UInt8)):Prop:=j.map (fun e=>(e.1,e.2.1))=g.map fun s=>(yD s,AV.bool true)
theorem Zh6 (k:List UInt8):∀ (u:List (AV×AV×Nat)) (g:List (List UInt8)) (i:Nat),Hv u g ->
 if g.contains k then ∃ j,YT (.str k) u i=some (some (j,.bool true)) else YT (.str k) u i=some none:=by
 intro u
 induction u with
 |nil =>
  intro g i h
  cases g with
  |nil=>simp[YT]
  |cons s r=>simp[Hv]at h
 |cons e u y =>
  intro g i h
  cases g with
  |nil=>simp[Hv]at h
  |cons s r =>
   obtain⟨a,b,c⟩:=e;simp only[Hv,List.map_cons,List.cons.injEq,Prod.mk.injEq]at h;obtain⟨⟨rfl,rfl⟩,w⟩:=h;have:=y r (i+1) w;simp only[YT,QJ,zW]
   cases z:(k==s) with
   |true=>simp
   |false=>simpa using this
theorem ZjO {H:Hp}{m:Nat}{u:List (AV×AV×Nat)}{c:Nat}{g:List (List UInt8)}(z:H[m]?=some (.map u c))(A:Hv u g)(k:List UInt8) :
 Ye .string (.bool false) false (.map m) (.str k) H=some (.bool (g.contains k)):=by
 have h:=Zh6 k u g 0 A;unfold Ye;simp only[W5,if_true,Xg,z]
 cases w:g.contains k with
 |true =>
  rw[w]at h;obtain⟨j,y⟩:=h;simp[y]
 |false =>
  rw[w]at h;simp at h;simp[h]
theorem Zmq {H:Hp}{m:Nat}{j:List (AV×AV×Nat)}{c:Nat}{g:List (List UInt8)}(y:H[m]?=some (.map j c))(u:Hv j g){k:List UInt8}(w:g.contains k=false) :
 Xr .string (.map m) (.str k) (.bool true) H=some (.tuple [],H.set m (.map (j++[(.str k,.bool true,c)]) (c+1)))/\Hv (j++[(.str k,.bool true,c)]) (g++[k]):=by
 have h:=Zh6 k j g 0 u;rw[w]at h;simp at h;constructor
 ·unfold Xr;simp only[y,W5,if_true,h]
 ·unfold Hv at u ⊢;simp[u]
theorem MH (l:List AV):Z6 0 (.vp l)=some (.vp l):=by simp[Z6]
def Qm (c:List UInt8×List Int):AV:=.agg (.str c.1::c.2.map (.int .u64))
def LZ (c:List UInt8×List Int):Option Int:=if Vj c.1 then none else some 4
def HI (l:List (List UInt8×List Int)):Int:=if 24<l.length then 3 else Nr LZ zG l []
def Zdt (l:List (List UInt8×List Int)):Prop:=∀ c∈l,c.2.length=4/\c.1.length<=4611686018427387904
theorem Sl.cls {x:AV}{l:List (List UInt8×List Int)}(h:Sl 5 x (l.map Qm)){i:Nat}{c:List UInt8×List Int}(hi:l[i]?=some c):Zp 5 x (.int .i64 (i:Int))=some (.vp (.str c.1::c.2.map (.int .u64))):=h.idx (c:=Qm c) (by simp[hi])
theorem V7 (n:Nat)(l:List AV)(g:l.length=n)(H:Hp):Z3 true n (.vp l) H=some (.agg l):=by
 subst g;simp[Z3,Go.Am.apart]
theorem LS (H:Hp)(n:Nat)(l z:List AV)(g:l.length=n)(j:z.length=n):Ze n (.ptr H.length 0) (.agg l) (H++[.cells z])=some (.tuple [],H++[.cells l]):=by
 rw[UL (sz:=n) (v:=.agg l) (Vq _ _) rfl g (by omega)];simp[AV.cells,splice,j,g]
theorem Zvv {x:AV}{l:List (List UInt8×List Int)}(h:Sl 5 x (l.map Qm))(R:l.length<=24)(A:Zdt l)(I:Hp)(m:Nat):∀ (k i:Nat) (H:Hp) (y:List (AV×AV×Nat)) (c:Nat),l.length-i=k->i<=l.length ->
 H[m]?=some (.map y c)->Hv y ((l.take i).map zG) ->
 ∃ H',V2 (.map m) x (.int .i64 (l.length:Int)) (.int .i64 (i:Int)) I H=some (.int .i64 (Nr LZ zG (l.drop i) ((l.take i).map zG)),H'):=by
 intro k
 induction k with
 |zero =>
  intro i H y c M hi E B;rw[Ko];have u:decide ((i:Int)<(l.length:Int))=false:=by simp;omega
  have L:l.drop i=[]:=zH.2 (by omega);simp only[go_sem,u,MZ,L];exact⟨_,rfl⟩
 |succ k N =>
  intro i H y c M hi E B;rw[Ko];have j:i<l.length:=by omega
  have u:decide ((i:Int)<(l.length:Int))=true:=by simp;omega
  have hw:yL.wrap ((i:Int)+1)=((i+1:Nat):Int):=by rw[Zo (by omega) (by omega)];omega
  obtain⟨J,z⟩:=A l[i] (zS j);have g:(yD l[i].1::l[i].2.map (zX .u64)).length=5:=by simp[J]
  have C:=LS H 5 _ [.str [],.int .u64 0,.int .u64 0,.int .u64 0,.int .u64 0] g rfl;simp only[go_sem,u,L0,h.cls (zC j),V7 5 _ g,C,zE,ZF,zA,ZjD _ z];rw[zF j,Fq];have w:(H++[yK (yD l[i].1::l[i].2.map (zX .u64))])[m]?=some (.map y c):=Yl E _
  cases D:Vj l[i].1 with
  |false =>
   simp only[go_sem,zJ,LZ,D,zD,if_false];exact⟨_,rfl⟩
  |true =>
   simp only[go_sem,zP,LZ,D,if_true,L2,zE,ZF,zA,ZjO w B]
   cases K:((l.take i).map zG).contains l[i].1 with
   |true =>
    simp only[go_sem,if_true];exact⟨_,rfl⟩
   |false =>
    obtain⟨O,Q⟩:=Zmq w B K;simp only[go_sem,zD,if_false,L3,zE,ZF,zA,O,L1,hw]
    have F:(l.take (i+1)).map zG=(l.take i).map zG++[l[i].1]:=by
     rw[zR,zC j,zT];rfl
    rw[<-F];refine N (i+1) _ _ _ (by omega) (by omega) (Zt _ w) ?_;rw[F];exact Q
theorem Zvw {x:AV}{l:List (List UInt8×List Int)}(h:Sl 5 x (l.map Qm))(w:Zdt l)(y:l.length<=4611686018427387904)(H:Hp):∃ H',Vc [x] H=some (.int .i64 (HI l),H'):=by
 rw[Lz];unfold Ff HI;have g:=h.len 246;rw[zN]at g;simp only[go_sem,g];by_cases j:24<l.length
 ·have u:decide ((24:Int)<(l.length:Int))=true:=by simp;omega
  simp only[u,go_sem,j,if_true];exact⟨_,rfl⟩
 ·have u:decide ((24:Int)<(l.length:Int))=false:=by simp;omega
  simp only[u,go_sem,j,if_false,MY,g];have:=Zvv h (by omega) w H H.length l.length 0 (H++[.map [] 0]) [] 0 (by omega) (by omega) (Vq H _) rfl;rw[show ((0:Nat):Int)=0 from rfl,zM,zV]at this;exact this
theorem Zz3 {x:AV}{l:List (List UInt8×List Int)}(h:Sl 5 x (l.map Qm))(K:l.length<=24)(A H:Hp){i:Nat}{n:List UInt8}{q:List Int}(hi:l[i]?=some (n,q)):∀ (k j:Nat),i-j=k->j<=i ->
 Uj x (.int .i64 (i:Int)) (.int .i64 (j:Int)) A H=if (((l.take i).map zG).drop j).contains n then some (.int .i64 6,H) else JZ x (.int .i64 (i:Int)) A H:=by
 intro k
 have C:i<l.length:=by
  rcases yG i l.length with u|u
  ·exact u
  ·rw[zY u]at hi;cases hi
 induction k with
 |zero =>
  intro j E D;rw[D2];have g:decide ((j:Int)<(i:Int))=false:=by simp;omega
  have B:((l.take i).map zG).drop j=[]:=zH.2 (by simp;omega);simp only[go_sem,g,B,yB,zD,if_false]
 |succ k I =>
  intro j E D;rw[D2];have y:j<l.length:=by omega
  have g:decide ((j:Int)<(i:Int))=true:=by simp;omega
  have hw:yL.wrap ((j:Int)+1)=((j+1:Nat):Int):=by rw[Zo (by omega) (by omega)];omega
  have w:((l.take i).map zG).drop j=l[j].1::((l.take i).map zG).drop (j+1):=by
   rw[zF (by simp;omega)];simp
  rw[w,zW];simp only[go_sem,g,HD,h.cls (zC y),h.cls hi,ZB];have F:Xe .eql (.str l[j].1) (.str n)=some (.bool (l[j].1==n)):=rfl;have z:(n==l[j].1)=(l[j].1==n):=by rw[zL,beq_iff_eq,beq_iff_eq];exact eq_comm
  simp only[MH,ZB,F,go_sem,z]
  cases J:(l[j].1==n) with
  |true=>simp only[go_sem,zK,if_true]
  |false =>
   simp only[go_sem,zI,HE,hw];exact I (j+1) (by omega) (by omega)
theorem ZtU {x:AV}{l:List (List UInt8×List Int)}(h:Sl 5 x (l.map Qm))(E:l.length<=24)(z:Zdt l)(A H:Hp):∀ (k i:Nat),l.length-i=k->i<=l.length ->
 Ui x (.int .i64 (i:Int)) A H=some (.int .i64 (Nr LZ zG (l.drop i) ((l.take i).map zG)),H):=by
 have j:=h.len 246;rw[zN]at j;intro k
 induction k with
 |zero =>
  intro i D hi;rw[BZ];have u:decide ((i:Int)<(l.length:Int))=false:=by simp;omega
  have C:l.drop i=[]:=zH.2 (by omega);simp only[go_sem,j,u,Hx,C];rfl
 |succ k I =>
  intro i D hi;rw[BZ];have g:i<l.length:=by omega
  have u:decide ((i:Int)<(l.length:Int))=true:=by simp;omega
  have hw:yL.wrap ((i:Int)+1)=((i+1:Nat):Int):=by rw[Zo (by omega) (by omega)];omega
  obtain⟨J,y⟩:=z l[i] (zS g);simp only[go_sem,j,u,Hy,h.cls (zC g),MH,ZB,ZhM _ y];rw[zF g,Fq]
  cases B:Vj l[i].1 with
  |false=>simp only[go_sem,zJ,LZ,B,zD,if_false]
  |true =>
   have w:=Zz3 h E A H (zC g) i 0 (by omega) (by omega);rw[zM,show ((0:Nat):Int)=0 from rfl]at w;simp only[go_sem,zP,LZ,B,if_true,HC,w]
   have F:(l.take (i+1)).map zG=(l.take i).map zG++[l[i].1]:=by
    rw[zR,zC g,zT];rfl
   cases K:((l.take i).map zG).contains l[i].1 with
   |true=>simp only[if_true]
   |false =>
    simp only[zD,if_false,HA,go_sem,hw];rw[I (i+1) (by omega) (by omega),F]
theorem ZtV {x:AV}{l:List (List UInt8×List Int)}(h:Sl 5 x (l.map Qm))(w:Zdt l)(H:Hp):UE [x] H=some (.int .i64 (HI l),H):=by
 rw[Ak];unfold PC HI;have g:=h.len 246;rw[zN]at g;simp only[go_sem,g];by_cases j:24<l.length
 ·have u:decide ((24:Int)<(l.length:Int))=true:=by simp;omega
  simp only[u,go_sem,j,if_true]
 ·have u:decide ((24:Int)<(l.length:Int))=false:=by simp;omega
  simp only[u,go_sem,j,if_false,Hw];have:=ZtU h (by omega) w H H l.length 0 (by omega) (by omega);rw[show ((0:Nat):Int)=0 from rfl,zM,zV]at this;exact this
def BC (c:List UInt8×Int):AV:=.agg [.str c.1,.int .i64 c.2]
def O6 (c:List UInt8×Int):Option Int:=if (c.1.length != 2 || (decide (c.2<0) || decide (65535<c.2)))=true then some 2 else none
def E6 (l:List (List UInt8×Int)):Int:=if 64<l.length then 3 else Nr O6 zG l []
def Zdu (l:List (List UInt8×Int)):Prop:=∀ c∈l,c.1.length<=4611686018427387904
theorem Sl.els {x:AV}{l:List (List UInt8×Int)}(h:Sl 2 x (l.map BC)){i:Nat}{c:List UInt8×Int}(hi:l[i]?=some c):Zp 2 x (.int .i64 (i:Int))=some (.vp [.str c.1,.int .i64 c.2]):=h.idx (c:=BC c) (by simp[hi])
theorem Zpb (a:AV)(l:List AV):Z6 1 (.vp (a::l))=some (.vp l):=by simp[Z6]
theorem Zqw (n:Int)(H:Hp):BP [.int .i64 n] H=some (.bool (!(decide (n<0) || decide (65535<n))),H):=by
 rw[Zia];unfold Zeo;have g:decide ((0:Int)<=n)=!decide (n<0):=by rw[zL];simp
 have j:decide (n<=(65535:Int))=!decide (65535<n):=by rw[zL];simp
 simp only[go_sem,g]
 cases u:decide (n<0) with
 |true=>simp only[go_sem,zP,zK]
 |false=>simp only[go_sem,zJ,zI,j]
theorem Zhq (n:Int)(H:Hp):Zf BP [.int .i64 n] H=some (.bool (!(decide (n<0) || decide (65535<n))),H):=XO rfl (Zqw n []) rfl
theorem ZvN {x:AV}{l:List (List UInt8×Int)}(h:Sl 2 x (l.map BC))(S:l.length<=64)(y:Zdu l)(D:Hp)(m:Nat):∀ (k i:Nat) (H:Hp) (w:List (AV×AV×Nat)) (c:Nat),l.length-i=k->i<=l.length ->
 H[m]?=some (.map w c)->Hv w ((l.take i).map zG) ->
 ∃ H',WF (.map m) x (.int .i64 (l.length:Int)) (.int .i64 (i:Int)) D H=some (.int .i64 (Nr O6 zG (l.drop i) ((l.take i).map zG)),H'):=by
 intro k
 induction k with
 |zero =>
  intro i H w c L hi B z;rw[JI];have j:decide ((i:Int)<(l.length:Int))=false:=by simp;omega
  have K:l.drop i=[]:=zH.2 (by omega);simp only[go_sem,j,NK,K];exact⟨_,rfl⟩
 |succ k N =>
  intro i H w c L hi B z;rw[JI];have g:i<l.length:=by omega
  have j:decide ((i:Int)<(l.length:Int))=true:=by simp;omega
  have hw:yL.wrap ((i:Int)+1)=((i+1:Nat):Int):=by rw[Zo (by omega) (by omega)];omega
  have M:=y l[i] (zS g);have A:=LS H 2 [.str l[i].1,.int .i64 l[i].2] [.str [],.int .i64 0] rfl rfl;simp only[go_sem,j,NL,h.els (zC g),V7 2 [.str l[i].1,.int .i64 l[i].2] rfl,A,zE,ZF,zA,zB,YJ];rw[zF g,Fq];have u:(H++[yK [yD l[i].1,zX .i64 l[i].2]])[m]?=some (.map w c):=Yl B _;have E:((l[i].1.length:Int) != 2)=(l[i].1.length != 2):=by rw[zL];simp;omega
  rw[E];unfold O6
  cases R:(l[i].1.length != 2) with
  |true=>simp only[go_sem,zK,if_true];exact⟨_,rfl⟩
  |false =>
  simp only[go_sem,zI,zE,ZF,zA,zB]
  cases F:decide (l[i].2<0) with
  |true=>simp only[go_sem,zK,if_true];exact⟨_,rfl⟩
  |false =>
  simp only[go_sem,zI,zE,ZF,zA,zB]
  cases I:decide (65535<l[i].2) with
  |true=>simp only[go_sem,if_true];exact⟨_,rfl⟩
  |false =>
   simp only[go_sem,zD,if_false,NN,zE,ZF,zA,ZjO u z]
   cases J:((l.take i).map zG).contains l[i].1 with
   |true =>
    simp only[go_sem,if_true];exact⟨_,rfl⟩
   |false =>
    obtain⟨O,Q⟩:=Zmq u z J;simp only[go_sem,zD,if_false,NO,zE,ZF,zA,O,NM,hw]
    have C:(l.take (i+1)).map zG=(l.take i).map zG++[l[i].1]:=by
     rw[zR,zC g,zT];rfl
    rw[<-C];refine N (i+1) _ _ _ (by omega) (by omega) (Zt _ u) ?_;rw[C];exact Q
theorem ZvO {x:AV}{l:List (List UInt8×Int)}(h:Sl 2 x (l.map BC))(w:Zdu l)(y:l.length<=4611686018427387904)(H:Hp):∃ H',WV [x] H=some (.int .i64 (E6 l),H'):=by
 rw[Mx];unfold BU E6;have g:=h.len 189;rw[zN]at g;simp only[go_sem,g];by_cases j:64<l.length
 ·have u:decide ((64:Int)<(l.length:Int))=true:=by simp;omega
  simp only[u,go_sem,j,if_true];exact⟨_,rfl⟩
 ·have u:decide ((64:Int)<(l.length:Int))=false:=by simp;omega
  simp only[u,go_sem,j,if_false,NJ,g];have:=ZvN h (by omega) w H H.length l.length 0 (H++[.map [] 0]) [] 0 (by omega) (by omega) (Vq H _) rfl;rw[show ((0:Nat):Int)=0 from rfl,zM,zV]at this;exact this
theorem Zz5 {x:AV}{l:List (List UInt8×Int)}(h:Sl 2 x (l.map BC))(K:l.length<=64)(A H:Hp){i:Nat}{n:List UInt8}{q:Int}(hi:l[i]?=some (n,q)):∀ (k j:Nat),i-j=k->j<=i ->
 VD x (.int .i64 (i:Int)) (.int .i64 (j:Int)) A H=if (((l.take i).map zG).drop j).contains n then some (.int .i64 6,H) else J2 x (.int .i64 (i:Int)) A H:=by
 intro k
 have C:i<l.length:=by
  rcases yG i l.length with u|u
  ·exact u
  ·rw[zY u]at hi;cases hi
 induction k with
 |zero =>
  intro j E D;rw[GH];have g:decide ((j:Int)<(i:Int))=false:=by simp;omega
  have B:((l.take i).map zG).drop j=[]:=zH.2 (by simp;omega);simp only[go_sem,g,B,yB,zD,if_false]
 |succ k I =>
  intro j E D;rw[GH];have y:j<l.length:=by omega
  have g:decide ((j:Int)<(i:Int))=true:=by simp;omega
  have hw:yL.wrap ((j:Int)+1)=((j+1:Nat):Int):=by rw[Zo (by omega) (by omega)];omega
  have w:((l.take i).map zG).drop j=l[j].1::((l.take i).map zG).drop (j+1):=by
   rw[zF (by simp;omega)];simp
  rw[w,zW];simp only[go_sem,g,Sr,h.els (zC y),h.els hi,ZB];have F:Xe .eql (.str l[j].1) (.str n)=some (.bool (l[j].1==n)):=rfl;have z:(n==l[j].1)=(l[j].1==n):=by rw[zL,beq_iff_eq,beq_iff_eq];exact eq_comm
  simp only[MH,ZB,F,go_sem,z]
  cases J:(l[j].1==n) with
  |true=>simp only[go_sem,zK,if_true]
  |false =>
   simp only[go_sem,zI,Su,hw];exact I (j+1) (by omega) (by omega)
theorem ZtZ {x:AV}{l:List (List UInt8×Int)}(h:Sl 2 x (l.map BC))(E:l.length<=64)(y:Zdu l)(z H:Hp):∀ (k i:Nat),l.length-i=k->i<=l.length ->
 VC x (.int .i64 (i:Int)) z H=some (.int .i64 (Nr O6 zG (l.drop i) ((l.take i).map zG)),H):=by
 have j:=h.len 189;rw[zN]at j;intro k
 induction k with
 |zero =>
  intro i D hi;rw[GG];have u:decide ((i:Int)<(l.length:Int))=false:=by simp;omega
  have C:l.drop i=[]:=zH.2 (by omega);simp only[go_sem,j,u,Sn,C];rfl
 |succ k J =>
  intro i D hi;rw[GG];have g:i<l.length:=by omega
  have u:decide ((i:Int)<(l.length:Int))=true:=by simp;omega
  have hw:yL.wrap ((i:Int)+1)=((i+1:Nat):Int):=by rw[Zo (by omega) (by omega)];omega
  have F:=y l[i] (zS g);simp only[go_sem,j,u,So,h.els (zC g),MH,ZB,YJ];rw[zF g,Fq];have A:((l[i].1.length:Int) != 2)=(l[i].1.length != 2):=by rw[zL];simp;omega
  rw[A];unfold O6
  cases K:(l[i].1.length != 2) with
  |true=>simp only[go_sem,zK,if_true]
  |false =>
  simp only[go_sem,zI,h.els (zC g),Zpb,ZB,Zhq,yH]
  cases B:(decide (l[i].2<0) || decide (65535<l[i].2)) with
  |true=>simp only[go_sem,if_true]
  |false =>
   have w:=Zz5 h E z H (zC g) i 0 (by omega) (by omega);rw[zM,show ((0:Nat):Int)=0 from rfl]at w;simp only[go_sem,zD,if_false,Sq,w]
   have I:(l.take (i+1)).map zG=(l.take i).map zG++[l[i].1]:=by
    rw[zR,zC g,zT];rfl
   cases L:((l.take i).map zG).contains l[i].1 with
   |true=>simp only[if_true]
   |false =>
    simp only[zD,if_false,Sp,go_sem,hw];rw[J (i+1) (by omega) (by omega),I];rfl
theorem Zu0 {x:AV}{l:List (List UInt8×Int)}(h:Sl 2 x (l.map BC))(w:Zdu l)(H:Hp):Ue [x] H=some (.int .i64 (E6 l),H):=by
 rw[Ho];unfold RX E6;have g:=h.len 189;rw[zN]at g;simp only[go_sem,g];by_cases j:64<l.length
 ·have u:decide ((64:Int)<(l.length:Int))=true:=by simp;omega
  simp only[u,go_sem,j,if_true]
 ·have u:decide ((64:Int)<(l.length:Int))=false:=by simp;omega
  simp only[u,go_sem,j,if_false,Sm];have:=ZtZ h (by omega) w H H l.length 0 (by omega) (by omega);rw[show ((0:Nat):Int)=0 from rfl,zM,zV]at this;exact this
structure Loc where
 name:List UInt8
 w:List Int
 lo:List UInt8
 up:List UInt8
 cls:List (List UInt8×List Int)
 els:List (List UInt8×Int)
def Loc.cells (x c e:AV)(L:Loc):List AV:=[.str L.name,x,.str L.lo,.str L.up,c,e]
def LocAV (a:AV)(L:Loc):Prop:=∃ x c e,a=.agg (L.cells x c e)/\Sl 1 x (L.w.map (zX .i64))/\Sl 5 c (L.cls.map Qm)/\Sl 2 e (L.els.map BC)
structure LocOk (L:Loc):Prop where
 name:L.name.length<=4611686018427387904
 w:L.w.length<=4611686018427387904
 lo:L.lo.length<=4611686018427387904
 up:L.up.length<=4611686018427387904
 cls:Zdt L.cls
 els:Zdu L.els
 ncls:L.cls.length<=4611686018427387904
 nels:L.els.length<=4611686018427387904
theorem C7 (c:List UInt8×List Int)(H:Hp)(n f:Nat):Zb H n (f+2) (Qm c)=some (Qm c):=by
 have:(yD c.1::c.2.map (zX .u64)).mapM (Zb H n (f+1))=some (yD c.1::c.2.map (zX .u64)):=ZdH fun x g=>by
  rcases List.mem_cons.1 g with rfl|g
  ·rfl
  ·obtain⟨m,_,rfl⟩:=zQ.1 g;rfl
 rw[Qm,JR,this]
theorem O7 (c:List UInt8×Int)(H:Hp)(n f:Nat):Zb H n (f+2) (BC c)=some (BC c):=(Eq.refl _).trans (Eq.refl _)
theorem LocAV.close {a:AV}{L:Loc}(h:LocAV a L)(H:Hp)(n f:Nat):∃ a',Zb H n (f+4) a=some a'/\LocAV a' L:=by
 obtain⟨x,c,e,rfl,I,E,F⟩:=h;obtain⟨D,B,C⟩:=I.close (H:=H) (n:=n) (f:=f+2) (fun y g=>by obtain⟨m,_,rfl⟩:=zQ.1 g;rfl);obtain⟨c',u,w⟩:=E.close (H:=H) (n:=n) (f:=f+2) (fun y g=>by obtain⟨m,_,rfl⟩:=zQ.1 g;exact C7 m H n f);obtain⟨j,z,A⟩:=F.close (H:=H) (n:=n) (f:=f+2) (fun y g=>by obtain⟨m,_,rfl⟩:=zQ.1 g;exact O7 m H n f);refine⟨.agg (L.cells D c' j),?_,D,c',j,rfl,C,w,A⟩
 have:(L.cells x c e).mapM (Zb H n (f+3))=some (L.cells D c' j):=by
  simp only[Loc.cells,List.mapM_cons,B,u,z,List.mapM_nil];rfl
 rw[JR,this]
theorem Zl3 {x:AV}{l:List (List UInt8×List Int)}(h:Sl 5 x (l.map Qm))(g:Zdt l)(z:l.length<=4611686018427387904)(H:Hp):Zf Vc [x] H=some (.int .i64 (HI l),H)/\Zf UE [x] H=some (.int .i64 (HI l),H):=by
 obtain⟨B,j,u⟩:=h.close (H:=[]) (n:=0) (f:=8) (fun y A=>by obtain⟨m,_,rfl⟩:=zQ.1 A;exact C7 m [] 0 6);obtain⟨H',w⟩:=Zvw u g z [];exact⟨XO j w rfl,XO j (ZtV u g []) rfl⟩
theorem Zln {x:AV}{l:List (List UInt8×Int)}(h:Sl 2 x (l.map BC))(g:Zdu l)(z:l.length<=4611686018427387904)(H:Hp):Zf WV [x] H=some (.int .i64 (E6 l),H)/\Zf Ue [x] H=some (.int .i64 (E6 l),H):=by
 obtain⟨B,j,u⟩:=h.close (H:=[]) (n:=0) (f:=8) (fun y A=>by obtain⟨m,_,rfl⟩:=zQ.1 A;exact O7 m [] 0 6);obtain⟨H',w⟩:=ZvO u g z [];exact⟨XO j w rfl,XO j (Zu0 u g []) rfl⟩
def Zg3 (n:Int):Bool:=decide (n<0) || decide (65535<n)
def OP (L:Loc):Int:=if (HI L.cls != 0)=true then HI L.cls else E6 L.els
def XZ (L:Loc):Int :=
 if Vj L.name then (if (L.w.length != 256 || (L.lo.length != 256 || L.up.length != 256))=true then 2 else if L.w.any Zg3 then 2 else OP L) else 4
theorem Sl.ints {x:AV}{l:List Int}(h:Sl 1 x (l.map (zX .i64))){i:Nat}(hi:i<l.length):Zp 1 x (.int .i64 (i:Int))=some (.vp [.int .i64 l[i]]):=h.idx (c:=.int .i64 l[i]) (by simp[hi])
theorem AI (n:Nat):((n:Int) != 256)=(n != 256):=by rw[zL];simp;omega
theorem Ztc {x c e:AV}{L:Loc}(I:Sl 1 x (L.w.map (zX .i64)))(B:Sl 5 c (L.cls.map Qm))(D:Sl 2 e (L.els.map BC))(g:LocOk L)(F:L.w.length=256)(z H:Hp){o:Nat}(y:H[o]?=some (.cells (L.cells x c e))):∀ (k i:Nat),L.w.length-i=k->i<=L.w.length ->
 Km (.ptr o 0) x (.int .i64 (L.w.length:Int)) (.int .i64 (i:Int)) z H=some (.int .i64 (if (L.w.drop i).any Zg3 then 2 else OP L),H):=by
 intro k
 induction k with
 |zero =>
  intro i E hi;rw[N4];have j:decide ((i:Int)<(L.w.length:Int))=false:=by simp;omega
  have C:L.w.drop i=[]:=zH.2 (by omega);simp only[go_sem,j,C,yI,zD,if_false,Zd6,zE,Y6 y,Loc.cells,zA,zB,(Zl3 B g.cls g.ncls H).1];unfold OP
  cases A:(HI L.cls != 0) with
  |true=>simp only[go_sem,if_true]
  |false=>simp only[go_sem,zD,if_false,Zd7,zE,Y6 y,Loc.cells,zA,zB,(Zln D g.els g.nels H).1]
 |succ k J =>
  intro i E hi;rw[N4];have u:i<L.w.length:=by omega
  have j:decide ((i:Int)<(L.w.length:Int))=true:=by simp;omega
  have hw:yL.wrap ((i:Int)+1)=((i+1:Nat):Int):=by rw[Zo (by omega) (by omega)];omega
  simp only[go_sem,j,Zd8,I.ints u,ZB];rw[zF u,yE];unfold Zg3
  cases A:decide (L.w[i]<0) with
  |true=>simp only[go_sem,zK,if_true]
  |false =>
   simp only[go_sem,zI]
   cases K:decide (65535<L.w[i]) with
   |true=>simp only[go_sem,zK,if_true]
   |false =>
    simp only[go_sem,zI,Zd9,hw];exact J (i+1) (by omega) (by omega)
theorem Ztd {a:AV}{L:Loc}(h:LocAV a L)(j:LocOk L)(H:Hp):∃ H',G4 [a] H=some (.int .i64 (XZ L),H'):=by
 obtain⟨x,c,e,rfl,y,A,B⟩:=h;rw[ZdS];unfold At XZ;have g:=y.len 3;rw[zN]at g;have C:=Vq H (.cells (L.cells x c e));simp only[go_sem,zE,ZF,Loc.cells,zA,zB,ZjD L.name j.name]
 cases F:Vj L.name with
 |false=>simp only[go_sem,zJ,zD,if_false];exact⟨_,rfl⟩
 |true =>
 simp only[go_sem,zP,if_true,Zd4,zE,ZF,zA,zB,g,AI]
 cases z:(L.w.length != 256) with
 |true=>simp only[go_sem,zK,if_true];exact⟨_,rfl⟩
 |false =>
 simp only[go_sem,zI,zE,ZF,zA,zB,YJ,AI]
 cases D:(L.lo.length != 256) with
 |true=>simp only[go_sem,zK,if_true];exact⟨_,rfl⟩
 |false =>
 simp only[go_sem,zI,zE,ZF,zA,zB,YJ,AI]
 cases E:(L.up.length != 256) with
 |true=>simp only[go_sem,if_true];exact⟨_,rfl⟩
 |false =>
 have u:L.w.length=256:=by simpa using z
 have:=Ztc y A B j u H (H++[.cells (L.cells x c e)]) C L.w.length 0 (by omega) (by omega);rw[show ((0:Nat):Int)=0 from rfl,zM]at this;simp only[Loc.cells]at this;simp only[go_sem,zD,if_false,Zd5,zE,ZF,zA,zB,g,this];exact⟨_,rfl⟩
theorem Zr6 {x c e:AV}{L:Loc}(I:Sl 1 x (L.w.map (zX .i64)))(B:Sl 5 c (L.cls.map Qm))(D:Sl 2 e (L.els.map BC))(g:LocOk L)(F:L.w.length=256)(z H:Hp){o:Nat}(y:H[o]?=some (.cells (L.cells x c e))):∀ (k i:Nat),256-i=k->i<=256 ->
 R1 (.ptr o 0) (.int .i64 (i:Int)) z H=some (.int .i64 (if (L.w.drop i).any Zg3 then 2 else if (L.lo.length != 256 || L.up.length != 256)=true then 2 else OP L),H):=by
 intro k
 induction k with
 |zero =>
  intro i E hi;rw[SU];have j:decide ((i:Int)<256)=false:=by simp;omega
  have C:L.w.drop i=[]:=zH.2 (by omega);simp only[go_sem,j,C,yI,zD,if_false,Zgj,zE,Y6 y,Loc.cells,zA,zB,YJ,AI]
  cases K:(L.lo.length != 256) with
  |true=>simp only[go_sem,zK,if_true]
  |false =>
  simp only[go_sem,zI,zE,Y6 y,Loc.cells,zA,zB,YJ,AI]
  cases M:(L.up.length != 256) with
  |true=>simp only[go_sem,if_true]
  |false =>
  simp only[go_sem,zD,if_false,Zgk,zE,Y6 y,Loc.cells,zA,zB,(Zl3 B g.cls g.ncls H).2];unfold OP
  cases A:(HI L.cls != 0) with
  |true=>simp only[go_sem,if_true]
  |false=>simp only[go_sem,zD,if_false,Zgl,zE,Y6 y,Loc.cells,zA,zB,(Zln D g.els g.nels H).2]
 |succ k J =>
  intro i E hi;rw[SU];have u:i<L.w.length:=by omega
  have j:decide ((i:Int)<256)=true:=by simp;omega
  have hw:yL.wrap ((i:Int)+1)=((i+1:Nat):Int):=by rw[Zo (by omega) (by omega)];omega
  simp only[go_sem,j,Zgm,zE,Y6 y,Loc.cells,zA,zB,I.ints u,ZB,Zhq,yH];rw[zF u,yE];have e:(decide (L.w[i]<0) || decide (65535<L.w[i]))=Zg3 L.w[i]:=rfl;rw[e]
  cases A:Zg3 L.w[i] with
  |true=>simp only[go_sem,zK,if_true]
  |false =>
   simp only[go_sem,zI,Zgn,hw];exact J (i+1) (by omega) (by omega)
theorem Zr7 {a:AV}{L:Loc}(h:LocAV a L)(j:LocOk L)(H:Hp):∃ H',Pj [a] H=some (.int .i64 (XZ L),H'):=by
 obtain⟨x,c,e,rfl,y,A,B⟩:=h;rw[Zi8];unfold Zem XZ;have g:=y.len 3;rw[zN]at g;have C:=Vq H (.cells (L.cells x c e));simp only[go_sem,zE,ZF,Loc.cells,zA,zB,ZhM L.name j.name]
 cases F:Vj L.name with
 |false=>simp only[go_sem,zJ,zD,if_false];exact⟨_,rfl⟩
 |true =>
 simp only[go_sem,zP,if_true,Zgh,zE,ZF,zA,zB,g,AI]
 cases z:(L.w.length != 256) with
 |true=>simp only[go_sem,zK,if_true];exact⟨_,rfl⟩
 |false =>
 have u:L.w.length=256:=by simpa using z
 have:=Zr6 y A B j u H (H++[.cells (L.cells x c e)]) C 256 0 (by omega) (by omega);rw[show ((0:Nat):Int)=0 from rfl,zM]at this;simp only[Loc.cells]at this;simp only[go_sem,zI,Zgi,this];refine⟨_,congrArg some (Prod.ext (congrArg (zX .i64) ?_) rfl)⟩;cases D:(L.lo.length != 256 || L.up.length != 256) <;> cases E:L.w.any Zg3 <;> simp
theorem Zjw {a:AV}{L:Loc}(h:LocAV a L)(g:LocOk L)(H:Hp):Zf G4 [a] H=some (.int .i64 (XZ L),H)/\Zf Pj [a] H=some (.int .i64 (XZ L),H):=by
 obtain⟨a',j,u⟩:=h.close [] 0 5;obtain⟨H',y⟩:=Ztd u g [];obtain⟨w,z⟩:=Zr7 u g [];exact⟨XO j y rfl,XO j z rfl⟩
end Go.Am
