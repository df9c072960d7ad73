/- Bytes told apart -/
import Derived.Test.YtmclihijlmlpkaaGreatDoorXeSx
import Derived.Test.YtmclihijlmlpkaaGreatDoorXeGCx
open Option renaming some->K,none->U
open Bool renaming true->I,false->Y
open List renaming length->O
open Go.db renaming cm->X
open Go.Am.AV renaming int->Q
open Go.IntKind renaming i64->J
open Go.IntKind renaming i64->wB
open List renaming getElem?_cons_zero->zA,getElem?_eq_getElem->zB,getElem?_cons_succ->zC,drop_eq_nil_iff->zF,drop_eq_getElem_cons->zG,length_nil->zI,length_map->zL,nil_append->zM,drop_zero->zN,mem_map->zO,length_append->zP,length_singleton->zR,append_nil->zT,length_cons->zW,getElem?_append_right->zX,cons_append->yB,take_add_one->yD,map_append->yE,getElem?_set_ne->yH,length_eq_zero_iff->yI,take_zero->yK,getElem_mem->yL,contains_cons->yN,getD_eq_getElem?_getD->yO,map_cons->yQ,mapM_nil->yR,getElem?_append_left->yS,range->yU,take_append->yW,getElem?_eq_none->xA,mapM_cons->xE,replicate->xF,mem_of_getElem?->xG,all_cons->xH,isEmpty_cons->xK,contains_nil->xL,length_drop->xN,find?_cons->xP,any_cons->xS,all_nil->xT,any_nil->xW,map_nil->xX
open Nat renaming zero_add->zH,le_refl->zY,add_zero->yJ,zero_le->xB,lt_or_ge->xU
open Bool renaming false_eq_true->zE,eq_iff_iff->zQ,false_or->zS,not_false->zU,true_or->zV,true_and->zZ,not_true->yC,false_and->yF,and_eq_true->yV,and_true->xI,or_eq_true->xO,and_false->xQ,not_not->xV
open Prod renaming fst->zK
open Int renaming mul_le_mul_of_nonneg_left->yM,mul_assoc->yT,pow_succ->yX,mul_comm->yY,add_one_le_iff->xJ,zero_mul->xY,zero_add->xZ,pow_pos->wA
open UInt8 renaming lt_iff_toNat_lt->xC,ofNat->xM
open Prod.mk renaming injEq->xR
open Go.Am.AObj renaming cells->zD,row->yG,dead->xD
open Go.Am.AV renaming int->zJ,cells->yA,known->yP,str->yZ
namespace Go.Am
set_option maxRecDepth 100000
theorem Rn {α β γ:Type}(x:Option α)(f:α->Option β)(g:β->Option γ):Z0 (Z0 x f) g=Z0 x λa=>Z0 (f a) g:=by cases x <;> rfl
def Sh (h x8:AV):Option AV :=
 Z0 (Z3 .eql h (.int .u8 95)) λj =>
 Z0 (Z7 j Y bh (K h)) λC =>
 Z0 (Z7 j Y bh (Z3 .geq C (.int .u8 97))) λD =>
 Z0 (Z7 j Y bh (K D)) λw =>
 Z0 (Z7 w I bh (K h)) λE =>
 Z0 (Z7 w I bh (Z3 .leq E (.int .u8 122))) λF =>
 Z0 (Z7 j Y bh (Zm w F (.bool Y))) λH =>
 Z0 (Zm j (.bool I) H) λu =>
 Z0 (Z7 u Y bh (K h)) λL =>
 Z0 (Z7 u Y bh (Z3 .geq L (.int .u8 65))) λM =>
 Z0 (Z7 u Y bh (K M)) λz =>
 Z0 (Z7 z I bh (K h)) λN =>
 Z0 (Z7 z I bh (Z3 .leq N (.int .u8 90))) λR =>
 Z0 (Z7 u Y bh (Zm z R (.bool Y))) λS =>
 Z0 (Zm u (.bool I) S) λT =>
 Z0 (Xa .not T) λg =>
 Z0 (Z7 g I bh (K x8)) λZ =>
 Z0 (Z7 g I bh (Z3 .eql Z (Q J 0))) λaa =>
 Z0 (Z7 g I bh (K aa)) λA =>
 Z0 (Z7 A Y bh (K h)) λab =>
 Z0 (Z7 A Y bh (Z3 .lss ab (.int .u8 48))) λac =>
 Z0 (Z7 g I bh (Zm A (.bool I) ac)) λad =>
 Z0 (Z7 g I bh (K ad)) λB =>
 Z0 (Z7 B Y bh (K h)) λae =>
 Z0 (Z7 B Y bh (Z3 .gtr ae (.int .u8 57))) λaf =>
 Z0 (Z7 g I bh (Zm B (.bool I) af)) λag =>
 Z0 (Zm g ag (.bool Y)) λah =>
 K ah
theorem Pz (u w j z:AV)(H0 H:Hp):Np u w j z H0 H =
 Z0 (Zz u j) λh =>
 Z0 (Sh h j) λg =>
 Zl g (K ((.bool Y),H)) (Nq u w j H0 H):=by
 rw[ZcX];simp only[Sh,Rn,Ww]
def ZiK (g:AV):Option AV :=
 Z0 (Z3 .geq g (.int .u8 97)) λz =>
 Z0 (Z7 z I bh (K g)) λZ =>
 Z0 (Z7 z I bh (Z3 .leq Z (.int .u8 122))) λaa =>
 Z0 (Zm z aa (.bool Y)) λj =>
 Z0 (Z7 j Y bh (K g)) λab =>
 Z0 (Z7 j Y bh (Z3 .geq ab (.int .u8 65))) λac =>
 Z0 (Z7 j Y bh (K ac)) λA =>
 Z0 (Z7 A I bh (K g)) λB =>
 Z0 (Z7 A I bh (Z3 .leq B (.int .u8 90))) λC =>
 Z0 (Z7 j Y bh (Zm A C (.bool Y))) λD =>
 Z0 (Zm j (.bool I) D) λh =>
 Z0 (Z7 h Y bh (K g)) λE =>
 Z0 (Z7 h Y bh (Z3 .geq E (.int .u8 48))) λF =>
 Z0 (Z7 h Y bh (K F)) λu =>
 Z0 (Z7 u I bh (K g)) λH =>
 Z0 (Z7 u I bh (Z3 .leq H (.int .u8 57))) λL =>
 Z0 (Z7 h Y bh (Zm u L (.bool Y))) λM =>
 Z0 (Zm h (.bool I) M) λw =>
 Z0 (Z7 w Y bh (K g)) λN =>
 Z0 (Z7 w Y bh (Z3 .eql N (.int .u8 95))) λR =>
 Z0 (Zm w (.bool I) R) λS =>
 Z0 (Xa .not S) λT =>
 K T
theorem oZ (j u:AV)(H0 H:Hp):L7 j u H0 H =
 Z0 (Zz j u) λh =>
 Z0 (ZiK h) λg =>
 Zl g (K ((.bool Y),H)) (L8 j u H0 H):=by
 rw[ZeR];simp only[ZiK,Rn,Ww]
def ZiG (g u:AV):Option AV :=
 Z0 (Z7 g Y bh (K u)) λZ =>
 Z0 (Z7 g Y bh (Z3 .geq Z (.int .u8 48))) λaa =>
 Z0 (Z7 g Y bh (K aa)) λA =>
 Z0 (Z7 A I bh (K u)) λab =>
 Z0 (Z7 A I bh (Z3 .leq ab (.int .u8 57))) λac =>
 Z0 (Z7 g Y bh (Zm A ac (.bool Y))) λB =>
 Z0 (Zm g (.bool I) B) λh =>
 Z0 (Z7 h Y bh (K u)) λC =>
 Z0 (Z7 h Y bh (Z3 .geq C (.int .u8 97))) λD =>
 Z0 (Z7 h Y bh (K D)) λw =>
 Z0 (Z7 w I bh (K u)) λE =>
 Z0 (Z7 w I bh (Z3 .leq E (.int .u8 122))) λF =>
 Z0 (Z7 h Y bh (Zm w F (.bool Y))) λH =>
 Z0 (Zm h (.bool I) H) λj =>
 Z0 (Z7 j Y bh (K u)) λL =>
 Z0 (Z7 j Y bh (Z3 .geq L (.int .u8 65))) λM =>
 Z0 (Z7 j Y bh (K M)) λz =>
 Z0 (Z7 z I bh (K u)) λN =>
 Z0 (Z7 z I bh (Z3 .leq N (.int .u8 90))) λR =>
 Z0 (Z7 j Y bh (Zm z R (.bool Y))) λS =>
 Z0 (Zm j (.bool I) S) λT =>
 K T
theorem Zf1 (z B A:AV)(H0 H:Hp):Oj z B A H0 H =
 Z0 (Zz z A) λh =>
 Z0 (Qq [h] H) λg =>
 Z0 (ZiG g.1 h) λu =>
 Zl u (Z0 ((Zt 1 [(0,h)] [(.int .u8 0)]).map (.vs 1 .clip)) λw=>Z0 (ZR 1 1 B w g.2) λj=>DA z j.1 A H0 j.2) (DA z B A H0 g.2):=by
 rw[ZjI];simp only[ZiG,Rn,Ww]
def Zmw (g u:AV):Option AV :=
 Z0 (Z7 g Y bh (K u)) λab =>
 Z0 (Z7 g Y bh (Z3 .geq ab (.int .u8 97))) λac =>
 Z0 (Z7 g Y bh (K ac)) λw =>
 Z0 (Z7 w I bh (K u)) λB =>
 Z0 (Z7 w I bh (Z3 .leq B (.int .u8 122))) λC =>
 Z0 (Z7 g Y bh (Zm w C (.bool Y))) λD =>
 Z0 (Zm g (.bool I) D) λh =>
 Z0 (Z7 h Y bh (K u)) λE =>
 Z0 (Z7 h Y bh (Z3 .geq E (.int .u8 65))) λF =>
 Z0 (Z7 h Y bh (K F)) λz =>
 Z0 (Z7 z I bh (K u)) λH =>
 Z0 (Z7 z I bh (Z3 .leq H (.int .u8 90))) λL =>
 Z0 (Z7 h Y bh (Zm z L (.bool Y))) λM =>
 Z0 (Zm h (.bool I) M) λj =>
 Z0 (Z7 j Y bh (K u)) λN =>
 Z0 (Z7 j Y bh (Z3 .geq N (.int .u8 48))) λR =>
 Z0 (Z7 j Y bh (K R)) λA =>
 Z0 (Z7 A I bh (K u)) λS =>
 Z0 (Z7 A I bh (Z3 .leq S (.int .u8 57))) λT =>
 Z0 (Z7 j Y bh (Zm A T (.bool Y))) λZ =>
 Z0 (Zm j (.bool I) Z) λaa =>
 K aa
theorem iL (w z B A C:AV)(H0 H:Hp):P8 w z B A C H0 H =
 Z0 (Zz w A) λh =>
 Z0 (Vw [h] H) λg =>
 Z0 (Zmw g.1 h) λu =>
 Zl u (Z0 (byteE.run [z,h] g.2) λj=>Qm w z B A H0 j.2) (Qm w z B A H0 g.2):=by
 rw[ZbI];simp only[Zmw,Rn,Ww]
def Tw:Option AV->Option Bool
 |some (.bool b)=>K b
 |_=>U
theorem Qv {x:Option AV}{b:Bool}(h:Tw x=K b):x=K (.bool b):=by
 unfold Tw at h;split at h
 ·injection h with h;subst h;rfl
 ·cases h
def ZuC (n:Nat):Bool:=(decide (97<=n)&&decide (n<=122)) || (decide (65<=n)&&decide (n<=90))
def Mf (n:Nat):Bool:=decide (48<=n)&&decide (n<=57)
def Wz (n:Nat):Bool:=n==95 || ZuC n || Mf n
theorem Zll:((yU 256).all λn=>(Tw (Sh (.int .u8 (n:Int)) (Q J 1))==K (!Wz n))&&(Tw (Sh (.int .u8 (n:Int)) (Q J 0))==K (!Wz n || Mf n)))=I:=df
theorem ZsC:((yU 256).all λn=>(Tw (ZiK (.int .u8 (n:Int)))==K (!Wz n)))=I:=df
theorem Zca (b:UInt8):b.toNat<256:=b.toNat_lt
theorem Zed (b:UInt8):Sh (.int .u8 b.toNat) (Q J 0)=K (.bool (!Wz b.toNat || Mf b.toNat)):=by
 have h:=Wi Zll (Zca b);simp only[yV,beq_iff_eq]at h;exact Qv h.2
theorem Ziq (b:UInt8){i:Int}(hi:(i==0)=Y):Sh (.int .u8 b.toNat) (Q J i)=K (.bool (!Wz b.toNat)):=by
 have h:=Wi Zll (Zca b);simp only[yV,beq_iff_eq]at h;rw[<-Qv h.1];have e:Z3 .eql (Q J i) (Q J 0)=Z3 .eql (Q J 1) (Q J 0):=by simp only[Z3,Wj,Wk,hi];rfl
 unfold Sh
 iterate 16 refine congrArg (Z0 _) (funext λt=>?_)
 cases t with
 |bool b =>
  cases b
  ·rfl
  ·simp only[ZnH,Ww,e]
 |_=>rfl
theorem Zvl (b:UInt8):ZiK (.int .u8 b.toNat)=K (.bool (!Wz b.toNat)):=by
 have h:=Wi ZsC (Zca b);simp only[beq_iff_eq]at h;exact Qv h
def VC (s:cz):Bool :=
 match s with
 |[]=>Y
 |b::_=>decide (O s<=32)&&!Mf b.toNat&&s.all λc=>Wz c.toNat
theorem Zqg (s:cz)(g:O s<=4611686018427387904)(H0 H:Hp):No (.str s) H0 H=K (.bool (!s.isEmpty&&decide (O s<=32)),H):=by
 rw[ZcW]
 cases s with
 |nil=>simp[go_sem,YK,F5]
 |cons b l =>
  simp only[YK,F5,go_sem,Zk];have:(!((b::l)==([]:cz)))=I:=rfl;have c:decide (((b::l).length:Int)<=32)=decide ((b::l).length<=32):=by rw[zQ];simp;omega
  simp only[this,go_sem,c,xK,zU,zZ]
theorem ZuM (s:cz)(A:O s<=4611686018427387904)(H0 H:Hp):∀ (k i:Nat),O s-i=k->0<i->i<=O s ->
 GQ (.str s) (Q J (O s)) (Q J i) H0 H=K (.bool (((s.drop i).all λc=>Wz c.toNat)&&(!s.isEmpty&&decide (O s<=32))),H):=by
 intro k
 induction k with
 |zero =>
  intro i z u hi;rw[QP];have g:decide ((i:Int)<(O s:Int))=Y:=by simp;omega
  have w:s.drop i=[]:=zF.2 X;simp only[go_sem,g,Zqg s A,w,xT,zZ]
 |succ k B =>
  intro i z u hi;rw[QP];have j:i<O s:=X
  have g:decide ((i:Int)<(O s:Int))=I:=by simp;omega
  have hw:wB.wrap ((i:Int)+1)=((i+1:Nat):Int):=by rw[Zo X X];omega
  have h:((i:Int)==0)=Y:=by simp;omega
  simp only[go_sem,g,Pz,ZO (zB j),Ziq _ h];rw[zG j,xH]
  cases hb:Wz s[i].toNat with
  |false=>simp only[go_sem,zU,yF]
  |true =>
   simp only[go_sem,yC,zZ,Ek,hw];exact B (i+1) X X X
theorem ZuN (s:cz)(j:O s<=4611686018427387904)(H:Hp):K1 [.str s] H=K (.bool (VC s),H):=by
 rw[ZeA];unfold jH;simp only[go_sem,Zk]
 cases s with
 |nil=>rw[QP];simp[go_sem,Zqg [] cn,VC]
 |cons b l =>
  rw[QP];have h:decide ((0:Int)<((b::l).length:Int))=I:=cn
  have hw:wB.wrap ((0:Int)+1)=((0+1:Nat):Int):=co
  have g:Zz (.str (b::l)) (Q J 0)=K (.int .u8 b.toNat):=by simp[Zz]
  simp only[go_sem,h,Pz,g,Zed]
  cases hb:(!Wz b.toNat || Mf b.toNat) with
  |true =>
   have:VC (b::l)=Y:=by
    unfold VC;simp only[xO,Bool.not_eq_true']at hb;rcases hb with hb|hb <;> simp[hb]
   simp only[go_sem,this]
  |false =>
   simp only[Bool.or_eq_false_iff,Bool.not_eq_false']at hb;simp only[go_sem,Ek,hw];rw[ZuM (b::l) j H H (O l) 1 cn X cn]
   have:VC (b::l)=(((b::l).drop 1).all (λc=>Wz c.toNat)&&(!(b::l).isEmpty&&decide ((b::l).length<=32))):=by
    unfold VC;simp only[hb.1,hb.2,xH,List.drop_one,List.tail_cons,xK,zU,zZ,xI];rw[Bool.and_comm]
   rw[this]
theorem ZsD (s:cz)(z:O s<=4611686018427387904)(H0 H:Hp):∀ (k i:Nat),O s-i=k->i<=O s ->
 Fw (.str s) (Q J i) H0 H=K (.bool ((s.drop i).all λc=>Wz c.toNat),H):=by
 intro k
 induction k with
 |zero =>
  intro i u hi;rw[Cb];have g:decide ((i:Int)<(O s:Int))=Y:=by simp;omega
  have j:s.drop i=[]:=zF.2 X;simp only[go_sem,Zk,g,ZeQ,j,xT]
 |succ k w =>
  intro i u hi;rw[Cb];have h:i<O s:=X
  have g:decide ((i:Int)<(O s:Int))=I:=by simp;omega
  have hw:wB.wrap ((i:Int)+1)=((i+1:Nat):Int):=by rw[Zo X X];omega
  simp only[go_sem,Zk,g,oZ,ZO (zB h),Zvl];rw[zG h,xH]
  cases hb:Wz s[i].toNat with
  |false=>simp only[go_sem,zU,yF]
  |true =>
   simp only[go_sem,yC,zZ,ZeS,hw];exact w (i+1) X X
theorem ZsE (s:cz)(hs:O s<=4611686018427387904)(H:Hp):G0 [.str s] H=K (.bool (VC s),H):=by
 rw[Zgf];unfold nL;simp only[go_sem,Zk]
 cases s with
 |nil=>simp[go_sem,VC]
 |cons b l =>
  have h0:((((b::l).length:Nat):Int)==0)=Y:=by simp;omega
  have hidx:Zz (.str (b::l)) (Q J 0)=K (.int .u8 b.toNat):=by simp[Zz]
  simp only[go_sem,h0];by_cases h32:32<(b::l).length
  ·have c1:decide ((32:Int)<((b::l).length:Int))=I:=by simp at h32 ⊢;omega
   have    : VC (b :: l) = false := by unfold VC; have : decide ((b :: l).length <= 32) = false := by simp at h32 ⊢; omega
                                       rw[this];rfl
   simp only[go_sem,c1,this]
  ·have c1:decide ((32:Int)<((b::l).length:Int))=Y:=by simp at h32 ⊢;omega
   have c2:decide ((b::l).length<=32)=I:=by simp at h32 ⊢;omega
   have hl:=ZsD (b::l) hs H H (b::l).length 0 cn X;rw[show ((0:Nat):Int)=0 from rfl,zN]at hl;have hn:VC (b::l)=(!Mf b.toNat&&(b::l).all λc=>Wz c.toNat):=by unfold VC;simp only[c2,zZ]
   simp only[go_sem,c1,hidx,ZeP,hl,hn];have e1:decide ((48:Int)<=(b.toNat:Int))=decide (48<=b.toNat):=by rw[zQ];simp;omega
   have e2:decide ((b.toNat:Int)<=(57:Int))=decide (b.toNat<=57):=by rw[zQ];simp;omega
   unfold Mf;simp only[e1,e2]
   cases h48:decide (48<=b.toNat) with
   |false=>simp only[go_sem,yF,zU,zZ]
   |true =>
    cases h57:decide (b.toNat<=57) with
    |false=>simp only[go_sem,hidx,e2,h57,zZ,zU]
    |true=>simp only[go_sem,hidx,e2,h57,zZ,yC,yF]
theorem Zlm (s:cz)(g:O s<=4611686018427387904)(H:Hp):Ze K1 [.str s] H=K (.bool (VC s),H):=XD rfl (ZuN s g []) rfl
theorem ZiL (s:cz)(g:O s<=4611686018427387904)(H:Hp):Ze G0 [.str s] H=K (.bool (VC s),H):=XD rfl (ZsE s g []) rfl
theorem ZqN (a b c d e:AV)(H:Hp):(Z8 0 (.vp [a,b,c,d,e])=K (.vp [a,b,c,d,e]))/\(Z8 1 (.vp [a,b,c,d,e])=K (.vp [b,c,d,e]))/\(Z8 2 (.vp [a,b,c,d,e])=K (.vp [c,d,e]))/\(Z8 3 (.vp [a,b,c,d,e])=K (.vp [d,e])):=⟨rfl,rfl,rfl,rfl⟩
theorem Zhv (a b:AV):(Z8 0 (.vp [a,b])=K (.vp [a,b]))/\(Z8 1 (.vp [a,b])=K (.vp [b])):=⟨rfl,rfl⟩
theorem Zu (a:AV)(l:c6)(H:Hp):Z2 Y 1 (.vp (a::l)) H=K a:=de
theorem Tt (a:AV)(l:c6):Xk Y 1 (.vp (a::l))=K a:=de
theorem Zhy (a b:AV)(H:Hp):Z2 I 2 (.vp [a,b]) H=K (.agg [a,b]):=by simp[Z2,Go.Am.apart]
theorem ZnK {tok:Tok}{fs:List (Nat×Nat)}{i:Int}{p:Nat×Nat}(g:0<=i)(h:fs[i.toNat]?=K p):Zj 2 (.vs 2 tok (fs.map WJ)) (Q J i)=K (.vp [Q J p.1,Q J p.2]):=by
 simp[Zj,g,h,WJ,yA]
theorem Zal (H:Hp)(a b:AV):Zc 2 (.ptr (O H) 0) (.agg [a,b]) (H++[.cells [Q J 0,Q J 0]])=K (.tuple [],H++[.cells [a,b]]):=by
 rw[YL (sz:=2) (v:=.agg [a,b]) (XP _ _) rfl rfl cn];simp[yA,splice]
theorem ZfB (H:Hp)(l:c6)(k:AV->Hp->Z4):Wy (.ptr (O H) 0) (H++[.cells l]) k=k (.vp l) (H++[.dead]):=by
 rw[Zif (XP _ _),ZxY]
theorem IG {g:cz}{f e:Nat}(B:f<=O g)(A:e<=O g)(H0 H:Hp) :
 J6 (.str g) (Q J (f:Int)) (Q J (e:Int)) H0 H=K (.str (if e<f then [] else (g.take e).drop f),H):=by
 rw[ZcG];by_cases h:e<=f
 ·have c:decide ((e:Int)<=(f:Int))=I:=by simp;omega
  have j:(if e<f then [] else (g.take e).drop f)=[]:=by
   split
   ·rfl
   ·simp;omega
  simp only[go_sem,c,j]
 ·have c:decide ((e:Int)<=(f:Int))=Y:=by simp;omega
  have u:=EM (s:=g) (n:=(f:Int)) (m:=(e:Int)) .i64 .i64 X X X;have w:((f:Int)).toNat=f:=X
  have z:((e:Int)).toNat=e:=X
  rw[w,z]at u;have j:¬ e<f:=X
  simp only[go_sem,c,ZcH,u,j,if_false]
theorem kV {g:cz}(T:O g<=1048576){k:Ke}(hk:KeOk k)(sep:Int)(H:Hp) :
 ∃ H',Fh [.str g,.agg k.cells,Q J sep] H=K (.str (ex g (fields g sep) k),H'):=by
 rw[Zev];unfold jE;have C:ZF (.agg k.cells) H=K (.ptr (O H) 0,H++[.cells k.cells]):=GG rfl;have D:=XP H (.cells k.cells);obtain⟨x',H2,g1,g2,g3⟩:=Zpo T sep (H++[.cells k.cells]);have w:=g3 _ _ D;simp only[Ke.cells]at C D w g1 ⊢;obtain⟨v0,v1,v2,v3⟩:=ZqN (Q J k.ff) (Q J k.fc) (Q J k.tf) (Q J k.tc) (Q J k.fl) H;simp only[C,go_sem,g1,Zif w,v0,v1,Zu,Tt,ZuJ,g2.len,zL];by_cases R:max k.ff 1<=((fields g sep).length:Int)
 ·have c1:decide (((fields g sep).length:Int)<max k.ff 1)=Y:=by simp;omega
  have ab:=hk.ff;have aa:=hk.fc;have M:(max k.ff 1-1).toNat<(fields g sep).length:=X
  obtain⟨⟨a,b⟩,F⟩:∃ p,(fields g sep)[(max k.ff 1-1).toNat]?=K p:=⟨_,zB M⟩;obtain⟨r1,r2⟩:=Ih g sep _ (xG F);simp only at r1 r2;have w0:wB.wrap (max k.ff 1-1)=max k.ff 1-1:=Zo X X;have w1:wB.wrap (max k.fc 1-1)=max k.fc 1-1:=Zo X X;have w2:wB.wrap ((b:Int)-a)=(b:Int)-a:=Zo X X;have w3:wB.wrap ((a:Int)+min (max k.fc 1-1) ((b:Int)-a))=((Q9 a b k:Nat):Int):=by rw[Zo X X];unfold Q9;omega
  have B:Q9 a b k<=O g:=by unfold Q9;omega
  rcases g2 with ⟨_,Z⟩|⟨tt,te,rfl,_⟩
  ·have:fields g sep=[]:=by simpa using Z
   rw[this]at M;simp at M
  have N:=ZnK (tok:=.own tt te) (fs:=fields g sep) (i:=max k.ff 1-1) X F;obtain⟨u0,u1⟩:=Zhv (Q J (a:Int)) (Q J (b:Int));simp only[c1,go_sem,ZcF,w0,N,Zhy,Zal,ZfB,u0,u1,Tt,Zu,w1,w2,Zil,w3,v2]
  have A:∀ e:Nat,e<=O g->e=FG g (fields g sep) k->ex g (fields g sep) k=(if e<Q9 a b k then [] else (g.take e).drop (Q9 a b k)):=by
   intro e _ he;subst he;unfold ex;rw[if_pos R,Sv F]
  by_cases ht:0<k.tf
  ·have c2:decide ((0:Int)<k.tf)=I:=by simp[ht]
   have ad:=hk.tf;simp only[c2,go_sem,Zu,zL,v2];by_cases u:k.tf<=((fields g sep).length:Int)
   ·have c3:decide (k.tf<=((fields g sep).length:Int))=I:=by simp[u]
    have S:(k.tf-1).toNat<(fields g sep).length:=X
    obtain⟨⟨z,E⟩,j⟩:∃ p,(fields g sep)[(k.tf-1).toNat]?=K p:=⟨_,zB S⟩;obtain⟨s1,s2⟩:=Ih g sep _ (xG j);simp only at s1 s2;have w6:wB.wrap (k.tf-1)=k.tf-1:=Zo X X;have L:=ZnK (tok:=.own tt te) (fs:=fields g sep) (i:=k.tf-1) X j;obtain⟨t0,t1⟩:=Zhv (Q J (z:Int)) (Q J (E:Int));simp only[c3,go_sem,v2,Zu,w6,L,Zhy,Zal];have ac:=hk.tc;simp only[zH,ZT (XP _ _),zA,zC,go_sem,v3,Zu];by_cases hc:0<k.tc
    ·have c4:decide ((0:Int)<k.tc)=I:=by simp[hc]
     have w4:wB.wrap ((E:Int)-z)=(E:Int)-z:=Zo X X;have w5:wB.wrap ((z:Int)+min k.tc ((E:Int)-z))=((z+(min k.tc ((E:Int)-z)).toNat:Nat):Int):=by rw[Zo X X];omega
     simp only[c4,go_sem,ZfB,t0,t1,Tt,Zu,v3,w4,Zil,w5];rw[IG B X];rw[A (z+(min k.tc ((E:Int)-z)).toNat) X (by unfold FG;rw[if_pos ⟨ht,u⟩,Sv j];simp[hc])];exact⟨_,rfl⟩
    ·have c4:decide ((0:Int)<k.tc)=Y:=by simp;omega
     simp only[c4,go_sem];rw[IG B s2];rw[A E s2 (by unfold FG;rw[if_pos ⟨ht,u⟩,Sv j];simp[hc])];exact⟨_,rfl⟩
   ·have c3:decide (k.tf<=((fields g sep).length:Int))=Y:=by simp;omega
    simp only[c3,go_sem];rw[IG B (zY _)];rw[A (O g) (zY _) (by unfold FG;rw[if_neg (λh=>u h.2)])];exact⟨_,rfl⟩
  ·have c2:decide ((0:Int)<k.tf)=Y:=by simp;omega
   simp only[Zu,go_sem,c2];rw[IG B (zY _)];rw[A (O g) (zY _) (by unfold FG;rw[if_neg (λh=>ht h.1)])];exact⟨_,rfl⟩
 ·have c1:decide (((fields g sep).length:Int)<max k.ff 1)=I:=by simp;omega
  simp only[c1,go_sem];have:ex g (fields g sep) k=[]:=by unfold ex;rw[if_neg R]
  rw[this];exact⟨_,rfl⟩
def Lg {α:Type}(g:α->Option Int)(key:α->cz):List α->List cz->Int
 |[],_=>0
 |c::r,seen=>match g c with
  |some e=>e
  |none=>if seen.contains (key c) then 6 else Lg g key r (seen++[key c])
theorem Ro {α:Type}(h:α->Option Int)(key:α->cz)(c:α)(r:List α)(g:List cz):Lg h key (c::r) g=match h c with
 |some e=>e
 |none=>if g.contains (key c) then 6 else Lg h key r (g++[key c]):=de
def Ob (h:List (AV×AV×Nat))(g:List cz):Prop:=h.map (λe=>(e.1,e.2.1))=g.map λs=>(yZ s,AV.bool I)
theorem Zi5 (k:cz):∀ (u:List (AV×AV×Nat)) (g:List cz) (i:Nat),Ob u g ->
 if g.contains k then ∃ j,YX (.str k) u i=K (K (j,.bool I)) else YX (.str k) u i=K U:=by
 intro u
 induction u with
 |nil =>
  intro g i h
  cases g with
  |nil=>simp[YX]
  |cons s r=>simp[Ob]at h
 |cons e u z =>
  intro g i h
  cases g with
  |nil=>simp[Ob]at h
  |cons s r =>
   obtain⟨a,b,c⟩:=e;simp only[Ob,yQ,List.cons.injEq,xR]at h;obtain⟨⟨rfl,rfl⟩,w⟩:=h;have:=z r (i+1) w;simp only[YX,Jb,yN]
   cases A:(k==s) with
   |true=>simp
   |false=>simpa using this
theorem ZlF {H:Hp}{m:Nat}{u:List (AV×AV×Nat)}{c:Nat}{g:List cz}(A:H[m]?=K (.map u c))(B:Ob u g)(k:cz) :
 Yo .string (.bool Y) Y (.map m) (.str k) H=K (.bool (g.contains k)):=by
 have h:=Zi5 k u g 0 B;unfold Yo;simp only[Wo,if_true,Xq,A]
 cases w:g.contains k with
 |true =>
  rw[w]at h;obtain⟨j,z⟩:=h;simp[z]
 |false =>
  rw[w]at h;simp at h;simp[h]
theorem Zoq {H:Hp}{m:Nat}{j:List (AV×AV×Nat)}{c:Nat}{g:List cz}(z:H[m]?=K (.map j c))(u:Ob j g){k:cz}(w:g.contains k=Y) :
 XC .string (.map m) (.str k) (.bool I) H=K (.tuple [],H.set m (.map (j++[(.str k,.bool I,c)]) (c+1)))/\Ob (j++[(.str k,.bool I,c)]) (g++[k]):=by
 have h:=Zi5 k j g 0 u;rw[w]at h;simp at h;constructor
 ·unfold XC;simp only[z,Wo,if_true,h]
 ·unfold Ob at u ⊢;simp[u]
theorem Ts (l:c6):Z8 0 (.vp l)=K (.vp l):=by simp[Z8]
def Q7 (c:cz×List Int):AV:=.agg (.str c.1::c.2.map (.int .u64))
def CF (c:cz×List Int):Option Int:=if VC c.1 then U else K 4
def OB (l:List (cz×List Int)):Int:=if 24<O l then 3 else Lg CF zK l []
def ZbP (l:List (cz×List Int)):Prop:=∀ c∈l,O c.2=4/\O c.1<=4611686018427387904
theorem Sl.cls {x:AV}{l:List (cz×List Int)}(h:Sl 5 x (l.map Q7)){i:Nat}{c:cz×List Int}(hi:l[i]?=K c):Zj 5 x (Q J (i:Int))=K (.vp (.str c.1::c.2.map (.int .u64))):=h.idx (c:=Q7 c) (by simp[hi])
theorem Vp (n:Nat)(l:c6)(g:O l=n)(H:Hp):Z2 I n (.vp l) H=K (.agg l):=by
 subst g;simp[Z2,Go.Am.apart]
theorem CA (H:Hp)(n:Nat)(l z:c6)(g:O l=n)(h:O z=n):Zc n (.ptr (O H) 0) (.agg l) (H++[.cells z])=K (.tuple [],H++[.cells l]):=by
 rw[YL (sz:=n) (v:=.agg l) (XP _ _) rfl g X];simp[yA,splice,h,g]
theorem Zww {x:AV}{l:List (cz×List Int)}(h:Sl 5 x (l.map Q7))(hl:O l<=24)(B:ZbP l)(H0:Hp)(m:Nat):∀ (k i:Nat) (H:Hp) (z:List (AV×AV×Nat)) (c:Nat),O l-i=k->i<=O l ->
 H[m]?=K (.map z c)->Ob z ((l.take i).map zK) ->
 ∃ H',Vk (.map m) x (Q J (O l:Int)) (Q J (i:Int)) H0 H=K (Q J (Lg CF zK (l.drop i) ((l.take i).map zK)),H'):=by
 intro k
 induction k with
 |zero =>
  intro i H z c R hi E C;rw[KP];have u:decide ((i:Int)<(O l:Int))=Y:=by simp;omega
  have N:l.drop i=[]:=zF.2 X;simp only[go_sem,u,Sa,N];exact⟨_,rfl⟩
 |succ k S =>
  intro i H z c R hi E C;rw[KP];have j:i<O l:=X
  have u:decide ((i:Int)<(O l:Int))=I:=by simp;omega
  have hw:wB.wrap ((i:Int)+1)=((i+1:Nat):Int):=by rw[Zo X X];omega
  obtain⟨L,A⟩:=B l[i] (yL j);have g:(yZ l[i].1::l[i].2.map (zJ .u64)).length=5:=by simp[L]
  have D:=CA H 5 _ [.str [],.int .u64 0,.int .u64 0,.int .u64 0,.int .u64 0] g rfl;simp only[go_sem,u,Sb,h.cls (zB j),Vp 5 _ g,D,zH,ZK,zA,Zlm _ A];rw[zG j,Ro];have w:(H++[zD (yZ l[i].1::l[i].2.map (zJ .u64))])[m]?=K (.map z c):=Y8 E _
  cases hb:VC l[i].1 with
  |false =>
   simp only[go_sem,zU,CF,hb,zE,if_false];exact⟨_,rfl⟩
  |true =>
   simp only[go_sem,yC,CF,hb,if_true,Se,zH,ZK,zA,ZlF w C]
   cases M:((l.take i).map zK).contains l[i].1 with
   |true =>
    simp only[go_sem,if_true];exact⟨_,rfl⟩
   |false =>
    obtain⟨T,Z⟩:=Zoq w C M;simp only[go_sem,zE,if_false,Sf,zH,ZK,zA,T,Sd,hw]
    have F:(l.take (i+1)).map zK=(l.take i).map zK++[l[i].1]:=by
     rw[yD,zB j,yE];rfl
    rw[<-F];refine S (i+1) _ _ _ X X (Zs _ w) ?_;rw[F];exact Z
theorem Zwx {x:AV}{l:List (cz×List Int)}(h:Sl 5 x (l.map Q7))(w:ZbP l)(z:O l<=4611686018427387904)(H:Hp):∃ H',Vv [x] H=K (Q J (OB l),H'):=by
 rw[SO];unfold Re OB;have g:=h.len 243;rw[zL]at g;simp only[go_sem,g];by_cases j:24<O l
 ·have u:decide ((24:Int)<(O l:Int))=I:=by simp;omega
  simp only[u,go_sem,j,if_true];exact⟨_,rfl⟩
 ·have u:decide ((24:Int)<(O l:Int))=Y:=by simp;omega
  simp only[u,go_sem,j,if_false,S9,g];have:=Zww h X w H (O H) (O l) 0 (H++[.map [] 0]) [] 0 X X (XP H _) rfl;rw[show ((0:Nat):Int)=0 from rfl,zN,yK]at this;exact this
theorem Zzl {x:AV}{l:List (cz×List Int)}(h:Sl 5 x (l.map Q7))(M:O l<=24)(H0 H:Hp){i:Nat}{n:cz}{q:List Int}(hi:l[i]?=K (n,q)):∀ (k j:Nat),i-j=k->j<=i ->
 Ux x (Q J (i:Int)) (Q J (j:Int)) H0 H=if (((l.take i).map zK).drop j).contains n then K (Q J 6,H) else Ks x (Q J (i:Int)) H0 H:=by
 intro k
 have C:i<O l:=by
  rcases xU i (O l) with u|u
  ·exact u
  ·rw[xA u]at hi;cases hi
 induction k with
 |zero =>
  intro j E D;rw[Dz];have g:decide ((j:Int)<(i:Int))=Y:=by simp;omega
  have B:((l.take i).map zK).drop j=[]:=zF.2 (by simp;omega);simp only[go_sem,g,B,xL,zE,if_false]
 |succ k L =>
  intro j E D;rw[Dz];have z:j<O l:=X
  have g:decide ((j:Int)<(i:Int))=I:=by simp;omega
  have hw:wB.wrap ((j:Int)+1)=((j+1:Nat):Int):=by rw[Zo X X];omega
  have w:((l.take i).map zK).drop j=l[j].1::((l.take i).map zK).drop (j+1):=by
   rw[zG (by simp;omega)];simp
  rw[w,yN];simp only[go_sem,g,Oh,h.cls (zB z),h.cls hi,Zu];have F:YK .eql (.str l[j].1) (.str n)=K (.bool (l[j].1==n)):=rfl;have A:(n==l[j].1)=(l[j].1==n):=by rw[zQ,beq_iff_eq,beq_iff_eq];exact eq_comm
  simp only[Ts,Zu,F,go_sem,A]
  cases hb:(l[j].1==n) with
  |true=>simp only[go_sem,zV,if_true]
  |false =>
   simp only[go_sem,zS,Oi,hw];exact L (j+1) X X
theorem Zvb {x:AV}{l:List (cz×List Int)}(h:Sl 5 x (l.map Q7))(D:O l<=24)(A:ZbP l)(H0 H:Hp):∀ (k i:Nat),O l-i=k->i<=O l ->
 Uw x (Q J (i:Int)) H0 H=K (Q J (Lg CF zK (l.drop i) ((l.take i).map zK)),H):=by
 have j:=h.len 243;rw[zL]at j;intro k
 induction k with
 |zero =>
  intro i C hi;rw[Dy];have u:decide ((i:Int)<(O l:Int))=Y:=by simp;omega
  have B:l.drop i=[]:=zF.2 X;simp only[go_sem,j,u,Od,B];rfl
 |succ k F =>
  intro i C hi;rw[Dy];have g:i<O l:=X
  have u:decide ((i:Int)<(O l:Int))=I:=by simp;omega
  have hw:wB.wrap ((i:Int)+1)=((i+1:Nat):Int):=by rw[Zo X X];omega
  obtain⟨L,z⟩:=A l[i] (yL g);simp only[go_sem,j,u,Oe,h.cls (zB g),Ts,Zu,ZiL _ z];rw[zG g,Ro]
  cases hb:VC l[i].1 with
  |false=>simp only[go_sem,zU,CF,hb,zE,if_false]
  |true =>
   have w:=Zzl h D H0 H (zB g) i 0 X X;rw[zN,show ((0:Nat):Int)=0 from rfl]at w;simp only[go_sem,yC,CF,hb,if_true,Og,w]
   have E:(l.take (i+1)).map zK=(l.take i).map zK++[l[i].1]:=by
    rw[yD,zB g,yE];rfl
   cases M:((l.take i).map zK).contains l[i].1 with
   |true=>simp only[if_true]
   |false =>
    simp only[zE,if_false,Of,go_sem,hw];rw[F (i+1) X X,E]
theorem Zvc {x:AV}{l:List (cz×List Int)}(h:Sl 5 x (l.map Q7))(w:ZbP l)(H:Hp):UX [x] H=K (Q J (OB l),H):=by
 rw[aC];unfold Mq OB;have g:=h.len 243;rw[zL]at g;simp only[go_sem,g];by_cases j:24<O l
 ·have u:decide ((24:Int)<(O l:Int))=I:=by simp;omega
  simp only[u,go_sem,j,if_true]
 ·have u:decide ((24:Int)<(O l:Int))=Y:=by simp;omega
  simp only[u,go_sem,j,if_false,Oc];have:=Zvb h X w H H (O l) 0 X X;rw[show ((0:Nat):Int)=0 from rfl,zN,yK]at this;exact this
def Kv (c:cz×Int):AV:=.agg [.str c.1,Q J c.2]
def fO (c:cz×Int):Option Int:=if (O c.1 != 2 || (decide (c.2<0) || decide (65535<c.2)))=I then K 2 else U
def CM (l:List (cz×Int)):Int:=if 64<O l then 3 else Lg fO zK l []
def ZbQ (l:List (cz×Int)):Prop:=∀ c∈l,O c.1<=4611686018427387904
theorem Sl.els {x:AV}{l:List (cz×Int)}(h:Sl 2 x (l.map Kv)){i:Nat}{c:cz×Int}(hi:l[i]?=K c):Zj 2 x (Q J (i:Int))=K (.vp [.str c.1,Q J c.2]):=h.idx (c:=Kv c) (by simp[hi])
theorem Zhu (a:AV)(l:c6):Z8 1 (.vp (a::l))=K (.vp l):=by simp[Z8]
theorem ZrY (n:Int)(H:Hp):Dm [Q J n] H=K (.bool (!(decide (n<0) || decide (65535<n))),H):=by
 rw[Zje];unfold Zda;have g:decide ((0:Int)<=n)=!decide (n<0):=by rw[zQ];simp
 have h:decide (n<=(65535:Int))=!decide (65535<n):=by rw[zQ];simp
 simp only[go_sem,g]
 cases j:decide (n<0) with
 |true=>simp only[go_sem,yC,zV]
 |false=>simp only[go_sem,zU,zS,h]
theorem Zim (n:Int)(H:Hp):Ze Dm [Q J n] H=K (.bool (!(decide (n<0) || decide (65535<n))),H):=XD rfl (ZrY n []) rfl
theorem ZwN {x:AV}{l:List (cz×Int)}(h:Sl 2 x (l.map Kv))(hl:O l<=64)(z:ZbQ l)(H0:Hp)(m:Nat):∀ (k i:Nat) (H:Hp) (w:List (AV×AV×Nat)) (c:Nat),O l-i=k->i<=O l ->
 H[m]?=K (.map w c)->Ob w ((l.take i).map zK) ->
 ∃ H',WV (.map m) x (Q J (O l:Int)) (Q J (i:Int)) H0 H=K (Q J (Lg fO zK (l.drop i) ((l.take i).map zK)),H'):=by
 intro k
 induction k with
 |zero =>
  intro i H w c R hi C A;rw[K8];have j:decide ((i:Int)<(O l:Int))=Y:=by simp;omega
  have N:l.drop i=[]:=zF.2 X;simp only[go_sem,j,Lz,N];exact⟨_,rfl⟩
 |succ k T =>
  intro i H w c R hi C A;rw[K8];have g:i<O l:=X
  have j:decide ((i:Int)<(O l:Int))=I:=by simp;omega
  have hw:wB.wrap ((i:Int)+1)=((i+1:Nat):Int):=by rw[Zo X X];omega
  have S:=z l[i] (yL g);have B:=CA H 2 [.str l[i].1,Q J l[i].2] [.str [],Q J 0] rfl rfl;simp only[go_sem,j,LA,h.els (zB g),Vp 2 [.str l[i].1,Q J l[i].2] rfl,B,zH,ZK,zA,zC,ZY];rw[zG g,Ro];have u:(H++[zD [yZ l[i].1,zJ .i64 l[i].2]])[m]?=K (.map w c):=Y8 C _;have E:((l[i].1.length:Int) != 2)=(l[i].1.length != 2):=by rw[zQ];simp;omega
  rw[E];unfold fO
  cases hb:(l[i].1.length != 2) with
  |true=>simp only[go_sem,zV,if_true];exact⟨_,rfl⟩
  |false =>
  simp only[go_sem,zS,zH,ZK,zA,zC]
  cases F:decide (l[i].2<0) with
  |true=>simp only[go_sem,zV,if_true];exact⟨_,rfl⟩
  |false =>
  simp only[go_sem,zS,zH,ZK,zA,zC]
  cases L:decide (65535<l[i].2) with
  |true=>simp only[go_sem,if_true];exact⟨_,rfl⟩
  |false =>
   simp only[go_sem,zE,if_false,LC,zH,ZK,zA,ZlF u A]
   cases M:((l.take i).map zK).contains l[i].1 with
   |true =>
    simp only[go_sem,if_true];exact⟨_,rfl⟩
   |false =>
    obtain⟨Z,q2⟩:=Zoq u A M;simp only[go_sem,zE,if_false,LD,zH,ZK,zA,Z,LB,hw]
    have D:(l.take (i+1)).map zK=(l.take i).map zK++[l[i].1]:=by
     rw[yD,zB g,yE];rfl
    rw[<-D];refine T (i+1) _ _ _ X X (Zs _ u) ?_;rw[D];exact q2
theorem ZwO {x:AV}{l:List (cz×Int)}(h:Sl 2 x (l.map Kv))(w:ZbQ l)(z:O l<=4611686018427387904)(H:Hp):∃ H',Vc [x] H=K (Q J (CM l),H'):=by
 rw[EB];unfold Dt CM;have g:=h.len 198;rw[zL]at g;simp only[go_sem,g];by_cases j:64<O l
 ·have u:decide ((64:Int)<(O l:Int))=I:=by simp;omega
  simp only[u,go_sem,j,if_true];exact⟨_,rfl⟩
 ·have u:decide ((64:Int)<(O l:Int))=Y:=by simp;omega
  simp only[u,go_sem,j,if_false,Ly,g];have:=ZwN h X w H (O H) (O l) 0 (H++[.map [] 0]) [] 0 X X (XP H _) rfl;rw[show ((0:Nat):Int)=0 from rfl,zN,yK]at this;exact this
theorem Zzn {x:AV}{l:List (cz×Int)}(h:Sl 2 x (l.map Kv))(M:O l<=64)(H0 H:Hp){i:Nat}{n:cz}{q:Int}(hi:l[i]?=K (n,q)):∀ (k j:Nat),i-j=k->j<=i ->
 VQ x (Q J (i:Int)) (Q J (j:Int)) H0 H=if (((l.take i).map zK).drop j).contains n then K (Q J 6,H) else Ju x (Q J (i:Int)) H0 H:=by
 intro k
 have C:i<O l:=by
  rcases xU i (O l) with u|u
  ·exact u
  ·rw[xA u]at hi;cases hi
 induction k with
 |zero =>
  intro j E D;rw[Bg];have g:decide ((j:Int)<(i:Int))=Y:=by simp;omega
  have B:((l.take i).map zK).drop j=[]:=zF.2 (by simp;omega);simp only[go_sem,g,B,xL,zE,if_false]
 |succ k L =>
  intro j E D;rw[Bg];have z:j<O l:=X
  have g:decide ((j:Int)<(i:Int))=I:=by simp;omega
  have hw:wB.wrap ((j:Int)+1)=((j+1:Nat):Int):=by rw[Zo X X];omega
  have w:((l.take i).map zK).drop j=l[j].1::((l.take i).map zK).drop (j+1):=by
   rw[zG (by simp;omega)];simp
  rw[w,yN];simp only[go_sem,g,Ab,h.els (zB z),h.els hi,Zu];have F:YK .eql (.str l[j].1) (.str n)=K (.bool (l[j].1==n)):=rfl;have A:(n==l[j].1)=(l[j].1==n):=by rw[zQ,beq_iff_eq,beq_iff_eq];exact eq_comm
  simp only[Ts,Zu,F,go_sem,A]
  cases hb:(l[j].1==n) with
  |true=>simp only[go_sem,zV,if_true]
  |false =>
   simp only[go_sem,zS,Ac,hw];exact L (j+1) X X
theorem Zvg {x:AV}{l:List (cz×Int)}(h:Sl 2 x (l.map Kv))(E:O l<=64)(z:ZbQ l)(H0 H:Hp):∀ (k i:Nat),O l-i=k->i<=O l ->
 VP x (Q J (i:Int)) H0 H=K (Q J (Lg fO zK (l.drop i) ((l.take i).map zK)),H):=by
 have j:=h.len 198;rw[zL]at j;intro k
 induction k with
 |zero =>
  intro i D hi;rw[Bf];have u:decide ((i:Int)<(O l:Int))=Y:=by simp;omega
  have C:l.drop i=[]:=zF.2 X;simp only[go_sem,j,u,A0,C];rfl
 |succ k M =>
  intro i D hi;rw[Bf];have g:i<O l:=X
  have u:decide ((i:Int)<(O l:Int))=I:=by simp;omega
  have hw:wB.wrap ((i:Int)+1)=((i+1:Nat):Int):=by rw[Zo X X];omega
  have F:=z l[i] (yL g);simp only[go_sem,j,u,A8,h.els (zB g),Ts,Zu,ZY];rw[zG g,Ro];have A:((l[i].1.length:Int) != 2)=(l[i].1.length != 2):=by rw[zQ];simp;omega
  rw[A];unfold fO
  cases hb:(l[i].1.length != 2) with
  |true=>simp only[go_sem,zV,if_true]
  |false =>
  simp only[go_sem,zS,h.els (zB g),Zhu,Zu,Zim,xV]
  cases B:(decide (l[i].2<0) || decide (65535<l[i].2)) with
  |true=>simp only[go_sem,if_true]
  |false =>
   have w:=Zzn h E H0 H (zB g) i 0 X X;rw[zN,show ((0:Nat):Int)=0 from rfl]at w;simp only[go_sem,zE,if_false,Aa,w]
   have L:(l.take (i+1)).map zK=(l.take i).map zK++[l[i].1]:=by
    rw[yD,zB g,yE];rfl
   cases N:((l.take i).map zK).contains l[i].1 with
   |true=>simp only[if_true]
   |false =>
    simp only[zE,if_false,A9,go_sem,hw];rw[M (i+1) X X,L];rfl
theorem Zvh {x:AV}{l:List (cz×Int)}(h:Sl 2 x (l.map Kv))(w:ZbQ l)(H:Hp):Us [x] H=K (Q J (CM l),H):=by
 rw[O3];unfold Pe CM;have g:=h.len 198;rw[zL]at g;simp only[go_sem,g];by_cases j:64<O l
 ·have u:decide ((64:Int)<(O l:Int))=I:=by simp;omega
  simp only[u,go_sem,j,if_true]
 ·have u:decide ((64:Int)<(O l:Int))=Y:=by simp;omega
  simp only[u,go_sem,j,if_false,HZ];have:=Zvg h X w H H (O l) 0 X X;rw[show ((0:Nat):Int)=0 from rfl,zN,yK]at this;exact this
structure Loc where
 name:cz
 w:List Int
 lo:cz
 up:cz
 cls:List (cz×List Int)
 els:List (cz×Int)
def Loc.cells (x c e:AV)(L:Loc):c6:=[.str L.name,x,.str L.lo,.str L.up,c,e]
def LocAV (a:AV)(L:Loc):Prop:=∃ x c e,a=.agg (L.cells x c e)/\Sl 1 x (L.w.map (zJ .i64))/\Sl 5 c (L.cls.map Q7)/\Sl 2 e (L.els.map Kv)
structure LocOk (L:Loc):Prop where
 name:O L.name<=4611686018427387904
 w:O L.w<=4611686018427387904
 lo:O L.lo<=4611686018427387904
 up:O L.up<=4611686018427387904
 cls:ZbP L.cls
 els:ZbQ L.els
 ncls:O L.cls<=4611686018427387904
 nels:O L.els<=4611686018427387904
theorem AU (c:cz×List Int)(H:Hp)(n f:Nat):Zh H n (f+2) (Q7 c)=K (Q7 c):=by
 have:(yZ c.1::c.2.map (zJ .u64)).mapM (Zh H n (f+1))=K (yZ c.1::c.2.map (zJ .u64)):=Zc4 λx hx=>by
  rcases List.mem_cons.1 hx with rfl|hx
  ·rfl
  ·obtain⟨m,_,rfl⟩:=zO.1 hx;rfl
 rw[Q7,Km,this]
theorem fP (c:cz×Int)(H:Hp)(n f:Nat):Zh H n (f+2) (Kv c)=K (Kv c):=de
theorem LocAV.close {a:AV}{L:Loc}(h:LocAV a L)(H:Hp)(n f:Nat):∃ a',Zh H n (f+4) a=K a'/\LocAV a' L:=by
 obtain⟨x,c,e,rfl,hx,D,E⟩:=h;obtain⟨C,A,B⟩:=hx.close (H:=H) (n:=n) (f:=f+2) (λy hy=>by obtain⟨m,_,rfl⟩:=zO.1 hy;rfl);obtain⟨c',j,u⟩:=D.close (H:=H) (n:=n) (f:=f+2) (λy hy=>by obtain⟨m,_,rfl⟩:=zO.1 hy;exact AU m H n f);obtain⟨g,w,z⟩:=E.close (H:=H) (n:=n) (f:=f+2) (λy hy=>by obtain⟨m,_,rfl⟩:=zO.1 hy;exact fP m H n f);refine⟨.agg (L.cells C c' g),?_,C,c',g,rfl,B,u,z⟩
 have:(L.cells x c e).mapM (Zh H n (f+3))=K (L.cells C c' g):=by
  simp only[Loc.cells,xE,A,j,w,yR];rfl
 rw[Km,this]
theorem Zna {x:AV}{l:List (cz×List Int)}(h:Sl 5 x (l.map Q7))(g:ZbP l)(z:O l<=4611686018427387904)(H:Hp):Ze Vv [x] H=K (Q J (OB l),H)/\Ze UX [x] H=K (Q J (OB l),H):=by
 obtain⟨A,j,u⟩:=h.close (H:=[]) (n:=0) (f:=8) (λy hy=>by obtain⟨m,_,rfl⟩:=zO.1 hy;exact AU m [] 0 6);obtain⟨H',w⟩:=Zwx u g z [];exact⟨XD j w rfl,XD j (Zvc u g []) rfl⟩
theorem Znq {x:AV}{l:List (cz×Int)}(h:Sl 2 x (l.map Kv))(g:ZbQ l)(z:O l<=4611686018427387904)(H:Hp):Ze Vc [x] H=K (Q J (CM l),H)/\Ze Us [x] H=K (Q J (CM l),H):=by
 obtain⟨A,j,u⟩:=h.close (H:=[]) (n:=0) (f:=8) (λy hy=>by obtain⟨m,_,rfl⟩:=zO.1 hy;exact fP m [] 0 6);obtain⟨H',w⟩:=ZwO u g z [];exact⟨XD j w rfl,XD j (Zvh u g []) rfl⟩
def Zga (n:Int):Bool:=decide (n<0) || decide (65535<n)
def iT (L:Loc):Int:=if (OB L.cls != 0)=I then OB L.cls else CM L.els
def Wl (L:Loc):Int :=
 if VC L.name then (if (O L.w != 256 || (O L.lo != 256 || O L.up != 256))=I then 2 else if L.w.any Zga then 2 else iT L) else 4
theorem Sl.ints {x:AV}{l:List Int}(h:Sl 1 x (l.map (zJ .i64))){i:Nat}(hi:i<O l):Zj 1 x (Q J (i:Int))=K (.vp [Q J l[i]]):=h.idx (c:=Q J l[i]) (by simp[hi])
theorem cG (n:Nat):((n:Int) != 256)=(n != 256):=by rw[zQ];simp;omega
theorem Zux {x c e:AV}{L:Loc}(hx:Sl 1 x (L.w.map (zJ .i64)))(A:Sl 5 c (L.cls.map Q7))(C:Sl 2 e (L.els.map Kv))(g:LocOk L)(E:O L.w=256)(H0 H:Hp){o:Nat}(u:H[o]?=K (.cells (L.cells x c e))):∀ (k i:Nat),O L.w-i=k->i<=O L.w ->
 KO (.ptr o 0) x (Q J (O L.w:Int)) (Q J (i:Int)) H0 H=K (Q J (if (L.w.drop i).any Zga then 2 else iT L),H):=by
 intro k
 induction k with
 |zero =>
  intro i D hi;rw[MI];have h:decide ((i:Int)<(O L.w:Int))=Y:=by simp;omega
  have B:L.w.drop i=[]:=zF.2 X;simp only[go_sem,h,B,xW,zE,if_false,Zbq,zH,ZT u,Loc.cells,zA,zC,(Zna A g.cls g.ncls H).1];unfold iT
  cases z:(OB L.cls != 0) with
  |true=>simp only[go_sem,if_true]
  |false=>simp only[go_sem,zE,if_false,Zbr,zH,ZT u,Loc.cells,zA,zC,(Znq C g.els g.nels H).1]
 |succ k F =>
  intro i D hi;rw[MI];have j:i<O L.w:=X
  have h:decide ((i:Int)<(O L.w:Int))=I:=by simp;omega
  have hw:wB.wrap ((i:Int)+1)=((i+1:Nat):Int):=by rw[Zo X X];omega
  simp only[go_sem,h,Zbs,hx.ints j,Zu];rw[zG j,xS];unfold Zga
  cases z:decide (L.w[i]<0) with
  |true=>simp only[go_sem,zV,if_true]
  |false =>
   simp only[go_sem,zS]
   cases M:decide (65535<L.w[i]) with
   |true=>simp only[go_sem,zV,if_true]
   |false =>
    simp only[go_sem,zS,Zbt,hw];exact F (i+1) X X
theorem Zuy {a:AV}{L:Loc}(h:LocAV a L)(j:LocOk L)(H:Hp):∃ H',Gy [a] H=K (Q J (Wl L),H'):=by
 obtain⟨x,c,e,rfl,hx,A,B⟩:=h;rw[Zcf];unfold aK Wl;have g:=hx.len 3;rw[zL]at g;have C:=XP H (.cells (L.cells x c e));simp only[go_sem,zH,ZK,Loc.cells,zA,zC,Zlm L.name j.name]
 cases F:VC L.name with
 |false=>simp only[go_sem,zU,zE,if_false];exact⟨_,rfl⟩
 |true =>
 simp only[go_sem,yC,if_true,Zbo,zH,ZK,zA,zC,g,cG]
 cases z:(O L.w != 256) with
 |true=>simp only[go_sem,zV,if_true];exact⟨_,rfl⟩
 |false =>
 simp only[go_sem,zS,zH,ZK,zA,zC,ZY,cG]
 cases D:(O L.lo != 256) with
 |true=>simp only[go_sem,zV,if_true];exact⟨_,rfl⟩
 |false =>
 simp only[go_sem,zS,zH,ZK,zA,zC,ZY,cG]
 cases E:(O L.up != 256) with
 |true=>simp only[go_sem,if_true];exact⟨_,rfl⟩
 |false =>
 have u:O L.w=256:=by simpa using z
 have:=Zux hx A B j u H (H++[.cells (L.cells x c e)]) C (O L.w) 0 X X;rw[show ((0:Nat):Int)=0 from rfl,zN]at this;simp only[Loc.cells]at this;simp only[go_sem,zE,if_false,Zbp,zH,ZK,zA,zC,g,this];exact⟨_,rfl⟩
theorem Zsz {x c e:AV}{L:Loc}(hx:Sl 1 x (L.w.map (zJ .i64)))(A:Sl 5 c (L.cls.map Q7))(C:Sl 2 e (L.els.map Kv))(g:LocOk L)(E:O L.w=256)(H0 H:Hp){o:Nat}(u:H[o]?=K (.cells (L.cells x c e))):∀ (k i:Nat),256-i=k->i<=256 ->
 RY (.ptr o 0) (Q J (i:Int)) H0 H=K (Q J (if (L.w.drop i).any Zga then 2 else if (O L.lo != 256 || O L.up != 256)=I then 2 else iT L),H):=by
 intro k
 induction k with
 |zero =>
  intro i D hi;rw[AD];have h:decide ((i:Int)<256)=Y:=by simp;omega
  have B:L.w.drop i=[]:=zF.2 X;simp only[go_sem,h,B,xW,zE,if_false,ZgK,zH,ZT u,Loc.cells,zA,zC,ZY,cG]
  cases M:(O L.lo != 256) with
  |true=>simp only[go_sem,zV,if_true]
  |false =>
  simp only[go_sem,zS,zH,ZT u,Loc.cells,zA,zC,ZY,cG]
  cases N:(O L.up != 256) with
  |true=>simp only[go_sem,if_true]
  |false =>
  simp only[go_sem,zE,if_false,ZgL,zH,ZT u,Loc.cells,zA,zC,(Zna A g.cls g.ncls H).2];unfold iT
  cases z:(OB L.cls != 0) with
  |true=>simp only[go_sem,if_true]
  |false=>simp only[go_sem,zE,if_false,ZgM,zH,ZT u,Loc.cells,zA,zC,(Znq C g.els g.nels H).2]
 |succ k F =>
  intro i D hi;rw[AD];have j:i<O L.w:=X
  have h:decide ((i:Int)<256)=I:=by simp;omega
  have hw:wB.wrap ((i:Int)+1)=((i+1:Nat):Int):=by rw[Zo X X];omega
  simp only[go_sem,h,ZgN,zH,ZT u,Loc.cells,zA,zC,hx.ints j,Zu,Zim,xV];rw[zG j,xS];have e:(decide (L.w[i]<0) || decide (65535<L.w[i]))=Zga L.w[i]:=rfl;rw[e]
  cases z:Zga L.w[i] with
  |true=>simp only[go_sem,zV,if_true]
  |false =>
   simp only[go_sem,zS,ZgO,hw];exact F (i+1) X X
theorem ZsA {a:AV}{L:Loc}(h:LocAV a L)(j:LocOk L)(H:Hp):∃ H',NC [a] H=K (Q J (Wl L),H'):=by
 obtain⟨x,c,e,rfl,hx,A,B⟩:=h;rw[Zjc];unfold Zd8 Wl;have g:=hx.len 3;rw[zL]at g;have C:=XP H (.cells (L.cells x c e));simp only[go_sem,zH,ZK,Loc.cells,zA,zC,ZiL L.name j.name]
 cases F:VC L.name with
 |false=>simp only[go_sem,zU,zE,if_false];exact⟨_,rfl⟩
 |true =>
 simp only[go_sem,yC,if_true,ZgI,zH,ZK,zA,zC,g,cG]
 cases z:(O L.w != 256) with
 |true=>simp only[go_sem,zV,if_true];exact⟨_,rfl⟩
 |false =>
 have u:O L.w=256:=by simpa using z
 have:=Zsz hx A B j u H (H++[.cells (L.cells x c e)]) C 256 0 X X;rw[show ((0:Nat):Int)=0 from rfl,zN]at this;simp only[Loc.cells]at this;simp only[go_sem,zS,ZgJ,this];refine⟨_,congrArg K (Prod.ext (congrArg (zJ .i64) ?_) rfl)⟩;cases D:(O L.lo != 256 || O L.up != 256) <;> cases E:L.w.any Zga <;> simp
theorem Zlh {a:AV}{L:Loc}(h:LocAV a L)(g:LocOk L)(H:Hp):Ze Gy [a] H=K (Q J (Wl L),H)/\Ze NC [a] H=K (Q J (Wl L),H):=by
 obtain⟨a',j,u⟩:=h.close [] 0 5;obtain⟨H',z⟩:=Zuy u g [];obtain⟨w,A⟩:=ZsA u g [];exact⟨XD j z rfl,XD j A rfl⟩
set_option maxRecDepth 1000000
def defL:Loc:={
 name:=[112,111,115,105,120]
 w:=(yU 256).map Int.ofNat
 lo:=(yU 256).map λn=>xM (if 65<=n/\n<=90 then n+32 else n)
 up:=(yU 256).map λn=>xM (if 97<=n/\n<=122 then n-32 else n)
 cls:=[]
 els:=[] }
def Zbh:c6->Option (List Int)
 |[]=>K []
 |Q J n::r=>match Zbh r with
  |some l=>K (n::l)
  |none=>U
 |_=>U
theorem Zpw:∀ {l:c6} {r:List Int},Zbh l=K r->l=r.map (zJ .i64):=by
 intro l
 induction l with
 |nil=>intro r h;simp[Zbh]at h;subst h;rfl
 |cons a l z =>
  intro r h;unfold Zbh at h;split at h
  ·rename_i g;cases g
  ·rename_i n A g;injection g with j u;subst j u;split at h
   ·rename_i m w;injection h with h;subst h;rw[z w];rfl
   ·cases h
  ·cases h
def Zmx (L:Loc)(r:Z4):Bool :=
 match r with
 |some (v,H1)=>match Zh H1 0 9 v with
  |some (.agg [.str n,.vs 1 .no l,.str lo,.str up,.nils,.nils])=>n==L.name&&(Zbh l==K L.w&&(lo==L.lo&&(up==L.up&&(L.cls.isEmpty&&L.els.isEmpty))))
  |_=>Y
 |none=>Y
theorem Zij {f:c6->Hp->Z4}{L:Loc}{x:Z4}(hx:Zmx L x=I)(C:∀ r,x=K r->f [] []=K r)(H:Hp):∃ a,Ze f [] H=K (a,H)/\LocAV a L:=by
 unfold Zmx at hx;split at hx
 ·rename_i v H1;split at hx
  ·rename_i n l lo up g;simp only[yV,beq_iff_eq,List.isEmpty_iff]at hx;obtain⟨h,j,u,w,z,A⟩:=hx;have B:=C _ rfl;refine⟨.agg [.str n,.vs 1 .no l,.str lo,.str up,.nils,.nils],?_,.vs 1 .no l,.nils,.nils,?_,.inr ⟨.no,?_⟩,.inl ⟨rfl,by rw[z];rfl⟩,.inl ⟨rfl,by rw[A];rfl⟩⟩
   ·unfold Ze;simp only[yR];show (match f [] [] with|some (v,H1)=>_|none=>_)=_;rw[B];simp only[g]
   ·rw[h,u,w];rfl
   ·rw[Zpw j]
  ·cases hx
 ·cases hx
theorem X1 {α:Type}{x:Option α}{f g:α->Z4}{r:AV×Hp}(h:∀ a,f a=K r->g a=K r):Z0 x f=K r->Z0 x g=K r:=by
 cases x with
 |none=>exact id
 |some a=>exact h a
theorem cI {c:AV}{x y g h:Z4}{r:AV×Hp}(j:x=K r->g=K r)(u:y=K r->h=K r):Zl c x y=K r->Zl c g h=K r:=by
 unfold Zl;split
 ·split
  ·exact j
  ·exact u
 ·exact id
def dfD (k:AV->AV->AV->Hp->Z4)(u z A w B C:AV)(H:Hp):Z4 :=
 Z0 (Z8 1 u) λa =>
 Z0 (Z2 Y 1 a H) λb =>
 Z0 ((Zt 1 [(0,w)] [(Q J 0)]).map (.vs 1 .clip)) λc =>
 Z0 (ZR 1 8 b c H) λd =>
 Z0 (Z8 1 u) λe =>
 Z0 (Zc 1 e d.1 d.2) λf =>
 Z0 ((Zt 1 [(0,B)] [(.int .u8 0)]).map (.vs 1 .clip)) λg =>
 Z0 (ZR 1 1 z g f.2) λh =>
 Z0 ((Zt 1 [(0,C)] [(.int .u8 0)]).map (.vs 1 .clip)) λi =>
 Z0 (ZR 1 1 A i h.2) λj =>
 Z0 (Z3 .add w (Q J 1)) λl =>
 k h.1 j.1 l j.2
def dfC (k:AV->AV->AV->Hp->Z4)(h j u g w z:AV)(H:Hp):Z4 :=
 Z0 (Z3 .geq g (Q J 97)) λa =>
 Z0 (Z7 a I bh (K g)) λb =>
 Z0 (Z7 a I bh (Z3 .leq b (Q J 122))) λc =>
 Z0 (Zm a c (.bool Y)) λd =>
 Zl d (Z0 (Z3 .sub g (Q J 32)) λe=>Z0 (Yn .u8 e) λf=>dfD k h j u g w f H) (dfD k h j u g w z H)
def dfB (k:AV->AV->AV->Hp->Z4)(h j u g:AV)(H:Hp):Z4 :=
 Z0 (Yn .u8 g) λz =>
 Z0 (Yn .u8 g) λw =>
 Z0 (Z3 .geq g (Q J 65)) λa =>
 Z0 (Z7 a I bh (K g)) λb =>
 Z0 (Z7 a I bh (Z3 .leq b (Q J 90))) λc =>
 Z0 (Zm a c (.bool Y)) λd =>
 Zl d (Z0 (Z3 .add g (Q J 32)) λe=>Z0 (Yn .u8 e) λf=>dfC k h j u g f w H) (dfC k h j u g z w H)
def dfA (u j w z:AV)(H:Hp):Z4 :=
 Z0 (Uh w H) λa =>
 Z0 (Z8 2 j) λb =>
 Z0 (Zc 1 b a H) λc =>
 Z0 (Uh z c.2) λd =>
 Z0 (Z8 3 j) λe =>
 Z0 (Zc 1 e d c.2) λf =>
 Z0 (Z2 I 6 j f.2) λg =>
 Z0 (Zc 6 u g f.2) λh =>
 Z0 (Z2 I 6 u h.2) λi =>
 K (i,h.2)
def dfL (h g:AV):Nat->AV->AV->AV->Hp->Z4
 |0,_,_,_,_=>U
 |n+1,x2,x3,x4,H=>Z0 (Z3 .lss x4 (Q J 256)) λt=>Zl t (dfB (dfL h g n) g x2 x3 x4 H) (dfA h g x2 x3 H)
theorem ZtV {k k':AV->AV->AV->Hp->Z4}{r:AV×Hp}(h:∀ a b c H,k a b c H=K r->k' a b c H=K r)(g j u w z A:AV)(H:Hp):dfD k g j u w z A H=K r->dfD k' g j u w z A H=K r:=by
 unfold dfD;repeat refine X1 λ_=>?_
 exact h _ _ _ _
theorem ZtT {k k':AV->AV->AV->Hp->Z4}{r:AV×Hp}(h:∀ a b c H,k a b c H=K r->k' a b c H=K r)(g j u w z A:AV)(H:Hp):dfC k g j u w z A H=K r->dfC k' g j u w z A H=K r:=by
 unfold dfC;repeat refine X1 λ_=>?_
 exact cI (X1 λ_=>X1 λ_=>ZtV h _ _ _ _ _ _ _) (ZtV h _ _ _ _ _ _ _)
theorem ZzT {k k':AV->AV->AV->Hp->Z4}{r:AV×Hp}(h:∀ a b c H,k a b c H=K r->k' a b c H=K r)(g j u w:AV)(H:Hp):dfB k g j u w H=K r->dfB k' g j u w H=K r:=by
 unfold dfB;repeat refine X1 λ_=>?_
 exact cI (X1 λ_=>X1 λ_=>ZtT h _ _ _ _ _ _ _) (ZtT h _ _ _ _ _ _ _)
theorem ZzV (g j:AV)(H0:Hp){r:AV×Hp}:∀ (n:Nat) (u w z:AV) (H:Hp),dfL g j n u w z H=K r->J3 g j u w z H0 H=K r:=by
 intro n
 induction n with
 |zero=>intro _ _ _ _ h;cases h
 |succ n A =>
  intro u w z H h;rw[Zcw];simp only[Zcr,Zcs,Zcu,Zcv,Zct];exact X1 (λ_=>cI (ZzT (k':=λa b c H=>J3 g j a b c H0 H) A _ _ _ _ _) id) h
def dfR:Z4 :=
 Z0 ((Yq [(0,1,(.str [112,111,115,105,120]))] [(.str []),.nils,(.str []),(.str []),.nils,.nils]).map .agg) λa =>
 Z0 (Zc 6 (.ptr 1 0) a [.cells [(.str []),.nils,(.str []),(.str []),.nils,.nils],.cells [(.str []),.nils,(.str []),(.str []),.nils,.nils]]) λb =>
 dfL (.ptr 0 0) (.ptr 1 0) 300 .nils .nils (Q J 0) b.2
theorem ZyU:Zmx defL dfR=I:=df
theorem FM (H:Hp):∃ a,Ze US [] H=K (a,H)/\LocAV a defL:=Zij ZyU (λr h=>by
 rw[Zes];unfold jB;simp only[Ww];unfold dfR at h;exact X1 (λ_=>X1 λ_=>ZzV _ _ _ _ _ _ _ _) h) H
def shA (g:AV)(H:Hp):Z4:=Z0 (Uh g H) λa=>K (a,H)
def shB (k:AV->Hp->Z4)(z A B w u:AV)(H:Hp):Z4 :=
 Z0 (Yn .u8 u) λa =>
 Z0 (Zj 1 w u) λb =>
 Z0 (Zc 1 b a H) λc =>
 Z0 (Yn .u8 u) λd =>
 Z0 (Z3 .geq d z) λe =>
 Z0 (Z7 e I bh (K u)) λf =>
 Z0 (Z7 e I bh (Yn .u8 f)) λg =>
 Z0 (Z7 e I bh (K A)) λh =>
 Z0 (Z7 e I bh (Z3 .leq g h)) λi =>
 Z0 (Zm e i (.bool Y)) λj =>
 Zl j (Z0 (Z3 .add u B) λl=>Z0 (Yn .u8 l) λm=>Z0 (Zj 1 w u) λn=>Z0 (Zc 1 n m c.2) λo=>Z0 (Z3 .add u (Q J 1)) λp=>k p o.2) (Z0 (Z3 .add u (Q J 1)) λp=>k p c.2)
def shL (j u w h g:AV):Nat->AV->Hp->Z4
 |0,_,_=>U
 |n+1,x12,H=>Z0 (Z3 .lss x12 g) λt=>Zl t (shB (shL j u w h g n) j u w h x12 H) (shA h H)
theorem ZAm (w z A B j:AV)(H0:Hp){r:AV×Hp}:∀ (n:Nat) (g:AV) (H:Hp),shL w z A B j n g H=K r->QR w z A B j g H0 H=K r:=by
 intro n
 induction n with
 |zero=>intro _ _ h;cases h
 |succ n u =>
  intro g H h;rw[hE];simp only[gX,gY,gZ];refine X1 (λ_=>cI ?_ id) h;unfold shB;repeat refine X1 λ_=>?_
  exact cI (X1 λ_=>X1 λ_=>X1 λ_=>X1 λ_=>X1 λ_=>u _ _) (X1 λ_=>u _ _)
def shR (a b c:AV):Z4 :=
 Z0 (Uy 1 1 Y (.int .u8 0) (Q J 256) (Q J 256) []) λr=>Z0 (Zk (.slice 5) r.1) λt=>shL a b c r.1 t 300 (Q J 0) r.2
def Zyn (s:cz)(r:Z4):Bool:=match r with
 |some (.str t,_)=>t==s
 |_=>Y
theorem Zor {a b c:AV}{s:cz}(ha:[a,b,c].mapM (Zh [] 0 9)=K [a,b,c])(h:Zyn s (shR a b c)=I)(H:Hp):Ze V4 [a,b,c] H=K (.str s,H):=by
 unfold Zyn at h;split at h
 ·rename_i t H1 g;have:=eq_of_beq h;subst this;refine Xi ha (H1:=H1) ?_ rfl;rw[lK];unfold SP;unfold shR at g;exact X1 (λ_=>X1 λ_=>ZAm _ _ _ _ _ _ _ _ _) g
 ·cases h
theorem ZAE (H:Hp):Ze V4 [(.int .u8 65),(.int .u8 90),(Q J 32)] H=K (.str defL.lo,H):=Zor rfl df H
theorem ZAF (H:Hp):Ze V4 [(.int .u8 97),(.int .u8 122),(Q J (-32))] H=K (.str defL.up,H):=Zor rfl df H
def dgA (g h:AV)(H:Hp):Z4 :=
 Z0 ((Yq [(0,1,(.str [112,111,115,105,120])),(1,1,h),(2,1,.str defL.lo),(3,1,.str defL.up)] [(.str []),.nils,(.str []),(.str []),.nils,.nils]).map .agg) λa =>
 Z0 (Zc 6 g a H) λb=>Z0 (Z2 I 6 g b.2) λc=>K (c,b.2)
def dgL (h g j:AV):Nat->AV->Hp->Z4
 |0,_,_=>U
 |n+1,x6,H=>Z0 (Z3 .lss x6 j) λt=>Zl t (Z0 (Zj 1 g x6) λa=>Z0 (Zc 1 a x6 H) λb=>Z0 (Z3 .add x6 (Q J 1)) λc=>dgL h g j n c b.2) (dgA h g H)
theorem ZzX (j u w:AV)(H0:Hp){r:AV×Hp}:∀ (n:Nat) (g:AV) (H:Hp),dgL j u w n g H=K r->QO j u w g H0 H=K r:=by
 intro n
 induction n with
 |zero=>intro _ _ h;cases h
 |succ n z =>
  intro g H h;rw[gW];simp only[gS,gU,gV,ZAE,ZAF,Ww];exact X1 (λ_=>cI (X1 λ_=>X1 λ_=>X1 λ_=>z _ _) id) h
def dgR:Z4 :=
 Z0 (Uy 1 8 Y (Q J 0) (Q J 256) (Q J 256) [.cells [(.str []),.nils,(.str []),(.str []),.nils,.nils]]) λr=>Z0 (Zk (.slice 3) r.1) λt=>dgL (.ptr 0 0) r.1 t 300 (Q J 0) r.2
theorem ZyV:Zmx defL dgR=I:=df
theorem Znh (H:Hp):∃ a,Ze FO [] H=K (a,H)/\LocAV a defL:=Zij ZyV (λr h=>by
 rw[lJ];unfold SN;simp only[Ww];unfold dgR at h;exact X1 (λ_=>X1 λ_=>ZzX _ _ _ _ _ _ _) h) H
theorem ZhG:∀ (n:Nat) (l:c6),O l=n->Ug Y 1 n l=l:=by
 intro n
 induction n with
 |zero=>intro l h;simp at h;subst h;rfl
 |succ n g =>
  intro l h
  cases l with
  |nil=>simp at h
  |cons a l =>
   have:O l=n:=by simpa using h
   unfold Ug;simp[g l this]
theorem ZwY (l:List Int):((l.map (zJ .i64)).map yA).flatten=l.map (zJ .i64):=by
 induction l with
 |nil=>rfl
 |cons a l g=>simp[yA]at g ⊢;exact g
theorem Zw5 (bytes:Nat)(hb:256*(bytes+1)<=140737488355328)(z:AV)(j:z.known=I)(g:O z.cells=1)(H:Hp):Uy 1 bytes Y z (Q J 256) (Q J 256) H=K (.rs Y 1 (O H) 0 256 256,H++[.cells ((xF 256 z.cells).flatten)]):=by
 have h:YB 256 bytes=I:=by simpa[YB]using hb
 unfold Uy;simp only;rw[if_pos ⟨co,co,j,g,co,h⟩,if_neg co];rfl
theorem ZwL {k:Nat}{x:AV}{l:c6}(h:Sl k x l)(H:Hp):elems k x H=K l:=by
 rcases h with ⟨rfl,rfl⟩|⟨tok,rfl⟩
 ·rfl
 ·simp[elems]
theorem Ztl {x:AV}{l:List Int}(h:Sl 1 x (l.map (zJ .i64))){H:Hp}{o n:Nat}{z:c6}(j:H[o]?=K (.cells z))(w:O z=n)(g:O l=n)(u:0<n) :
 AQ 1 (.rs Y 1 o 0 n n) x H=K (Q J n,H.set o (.cells (l.map (zJ .i64)))):=by
 unfold AQ;simp only[ZwL h H];rw[if_neg (by intro e;have:=congrArg List.length e;simp at this;simp[this]at g;omega),if_pos (by simp;omega)];simp only[j];rw[if_pos (by simp;omega)];simp only[zL,g,splice,yK,zM,ZwY];rw[zF.2 (by simp;omega)];simp
theorem ZtL (H:Hp)(n f:Nat)(ag:Bool)(k o off len cap:Nat):Zh H n (f+1) (.rs ag k o off len cap)=if o<n then K (.rs ag k o off len cap) else
 match elems k (.rs ag k o off len cap) H with
 |some l=>match l.mapM (Zh H n f) with
  |some l=>K (.vs k .no l)
  |none=>U
 |none=>U:=de
def Y6 (L:Loc):Loc:=if (Wl L != 0)=I then defL else L
theorem Gl {f:c6->Hp->Z4}{a a' v v':AV}{H H1:Hp}(ha:Zh [] 0 9 a=K a')(g:f [a'] []=K (v,H1))(h:Zh H1 0 9 v=K v'):Ze f [a] H=K (v',H):=by
 unfold Ze;simp[ha,g,h]
theorem checked {L:Loc}(h:(Wl L != 0)=Y):O L.w=256/\O L.lo=256/\O L.up=256:=by
 simp only[Wl,bne_eq_false_iff_eq]at h;split at h
 ·split at h
  ·cases h
  ·rename_i g;simp only[xO,bne_iff_ne,ne_eq,not_or,Decidable.not_not]at g;exact g
 ·cases h
theorem Iw {H1:Hp}{x c e g:AV}{L:Loc}(hx:Zh H1 0 8 x=K g)(B:Sl 1 g (L.w.map (zJ .i64)))(C:Sl 5 c (L.cls.map Q7))(D:Sl 2 e (L.els.map Kv)) :
 ∃ a',Zh H1 0 9 (.agg (L.cells x c e))=K a'/\LocAV a' L:=by
 obtain⟨c',j,u⟩:=C.close (H:=H1) (n:=0) (f:=7) (λy hy=>by obtain⟨m,_,rfl⟩:=zO.1 hy;exact AU m H1 0 5);obtain⟨h,z,A⟩:=D.close (H:=H1) (n:=0) (f:=7) (λy hy=>by obtain⟨m,_,rfl⟩:=zO.1 hy;exact fP m H1 0 5);refine⟨.agg (L.cells g c' h),?_,g,c',h,rfl,B,u,A⟩
 have:(L.cells x c e).mapM (Zh H1 0 8)=K (L.cells g c' h):=by
  simp only[Loc.cells,xE,hx,j,z,yR];rfl
 rw[Km,this]
theorem Zj4 {a:AV}{L:Loc}(h:LocAV a L)(af:LocOk L)(H:Hp):∃ a',Ze U7 [a] H=K (a',H)/\LocAV a' (Y6 L):=by
 obtain⟨a1,h1,h2⟩:=h.close [] 0 5;have C:=λH=>(Zlh h2 af H).1;obtain⟨x,c,e,rfl,hx,hc,he⟩:=h2;obtain⟨d,N,R⟩:=Znh [zD (L.cells x c e),.cells [(.str []),.nils,(.str []),(.str []),.nils,.nils]];unfold Y6
 cases hb:(Wl L != 0) with
 |true =>
  obtain⟨A,j,u,rfl,Z,S,T⟩:=R
  have g:U7 [.agg (L.cells x c e)] []=K (.agg (defL.cells A j u),[zD (L.cells x c e),.cells (defL.cells A j u)]):=by
   rw[LU];unfold PW;have hl:Z2 I 6 (.ptr 0 0) [zD (L.cells x c e),.cells [(.str []),.nils,(.str []),(.str []),.nils,.nils]]=K (.agg (L.cells x c e)):=by simp[Z2,Go.Am.apart,Loc.cells]
   have aj:Zc 6 (.ptr 1 0) (.agg (defL.cells A j u)) [zD (L.cells x c e),.cells [(.str []),.nils,(.str []),(.str []),.nils,.nils]]=K (.tuple [],[zD (L.cells x c e),.cells (defL.cells A j u)]):=by simp[Zc,YI,yP,yA,Loc.cells,splice]
   have ac:Z2 I 6 (.ptr 1 0) [zD (L.cells x c e),.cells (defL.cells A j u)]=K (.agg (defL.cells A j u)):=by simp[Z2,Go.Am.apart,Loc.cells]
   simp only[go_sem,zM,zI,zW,yB,zH,hl,C,hb,N,aj,ac]
  obtain⟨ak,E,F⟩:=Z.close (H:=[zD (L.cells x c e),.cells (defL.cells A j u)]) (n:=0) (f:=7) (λy hy=>by obtain⟨m,_,rfl⟩:=zO.1 hy;rfl);obtain⟨a',q1,q2⟩:=Iw E F S T;exact⟨a',Gl h1 g q1,by simpa using q2⟩
 |false =>
  obtain⟨hw,al,am⟩:=checked hb
  have g:U7 [.agg (L.cells x c e)] []=K (.agg (L.cells (.rs Y 1 2 0 256 256) c e),[zD (L.cells (.rs Y 1 2 0 256 256) c e),.cells (L.cells (.rs Y 1 2 0 256 256) c e),.cells (L.w.map (zJ .i64))]):=by
   rw[LU];unfold PW;have hl:Z2 I 6 (.ptr 0 0) [zD (L.cells x c e),.cells [(.str []),.nils,(.str []),(.str []),.nils,.nils]]=K (.agg (L.cells x c e)):=by simp[Z2,Go.Am.apart,Loc.cells]
   have B:=Zw5 8 co (Q J 0) rfl rfl [zD (L.cells x c e),.cells [(.str []),.nils,(.str []),(.str []),.nils,.nils]];have M:((xF 256 (zJ .i64 0).cells).flatten).length=256:=by simp[yA]
   generalize ((xF 256 (zJ .i64 0).cells).flatten)=z at B M;simp only[zW,zI,yB,zM]at B;have ab:Z2 Y 1 (.ptr 0 1) [zD (L.cells x c e),.cells [(.str []),.nils,(.str []),(.str []),.nils,.nils],.cells z]=K x:=by simp[Z2,Go.Am.apart,Loc.cells]
   have D:=Ztl hx (H:=[zD (L.cells x c e),.cells [(.str []),.nils,(.str []),(.str []),.nils,.nils],.cells z]) (o:=2) rfl M hw X;simp only[List.set_cons_succ,List.set_cons_zero]at D;have ah:Zc 1 (.ptr 0 1) (.rs Y 1 2 0 256 256) [zD (L.cells x c e),.cells [(.str []),.nils,(.str []),(.str []),.nils,.nils],.cells (L.w.map (zJ .i64))]=K (.tuple [],[zD (L.cells (.rs Y 1 2 0 256 256) c e),.cells [(.str []),.nils,(.str []),(.str []),.nils,.nils],.cells (L.w.map (zJ .i64))]):=by simp[Zc,YI,yP,yA,Loc.cells,splice]
   have ad:Z2 I 6 (.ptr 0 0) [zD (L.cells (.rs Y 1 2 0 256 256) c e),.cells [(.str []),.nils,(.str []),(.str []),.nils,.nils],.cells (L.w.map (zJ .i64))]=K (.agg (L.cells (.rs Y 1 2 0 256 256) c e)):=by simp[Z2,Go.Am.apart,Loc.cells]
   have ai:Zc 6 (.ptr 1 0) (.agg (L.cells (.rs Y 1 2 0 256 256) c e)) [zD (L.cells (.rs Y 1 2 0 256 256) c e),.cells [(.str []),.nils,(.str []),(.str []),.nils,.nils],.cells (L.w.map (zJ .i64))]=K (.tuple [],[zD (L.cells (.rs Y 1 2 0 256 256) c e),.cells (L.cells (.rs Y 1 2 0 256 256) c e),.cells (L.w.map (zJ .i64))]):=by simp[Zc,YI,yP,yA,Loc.cells,splice]
   have ae:Z2 I 6 (.ptr 1 0) [zD (L.cells (.rs Y 1 2 0 256 256) c e),.cells (L.cells (.rs Y 1 2 0 256 256) c e),.cells (L.w.map (zJ .i64))]=K (.agg (L.cells (.rs Y 1 2 0 256 256) c e)):=by simp[Z2,Go.Am.apart,Loc.cells]
   simp only[go_sem,zM,zI,zW,yB,zH,hl,C,hb,Zbu,B,ab,D,ah,ad,ai,ae]
  have ag:Zh [zD (L.cells (.rs Y 1 2 0 256 256) c e),.cells (L.cells (.rs Y 1 2 0 256 256) c e),.cells (L.w.map (zJ .i64))] 0 8 (.rs Y 1 2 0 256 256)=K (.vs 1 .no (L.w.map (zJ .i64))):=by
   have aa:elems 1 (.rs Y 1 2 0 256 256) [zD (L.cells (.rs Y 1 2 0 256 256) c e),.cells (L.cells (.rs Y 1 2 0 256 256) c e),.cells (L.w.map (zJ .i64))]=K (L.w.map (zJ .i64)):=by
    simp[elems,hw];exact ZhG 256 _ (by simp[hw])
   rw[ZtL,if_neg X,aa];simp only;rw[Zc4 (λy hy=>by obtain⟨m,_,rfl⟩:=zO.1 hy;rfl)]
  obtain⟨a',q1,q2⟩:=Iw ag (.inr ⟨.no,rfl⟩) hc he;exact⟨a',Gl h1 g q1,by simpa using q2⟩
theorem Zej {a:AV}{L:Loc}(h:LocAV a L)(S:LocOk L)(H:Hp):∃ a',Ze Ki [a] H=K (a',H)/\LocAV a' (Y6 L):=by
 obtain⟨a1,h1,h2⟩:=h.close [] 0 5;have B:=λH=>(Zlh h2 S H).2;obtain⟨x,c,e,rfl,hx,hc,he⟩:=h2;obtain⟨d,E,F⟩:=FM [zD (L.cells x c e),.cells [(.str []),.nils,(.str []),(.str []),.nils,.nils]];unfold Y6;have hl:Z2 I 6 (.ptr 0 0) [zD (L.cells x c e),.cells [(.str []),.nils,(.str []),(.str []),.nils,.nils]]=K (.agg (L.cells x c e)):=by simp[Z2,Go.Am.apart,Loc.cells]
 cases hb:(Wl L != 0) with
 |true =>
  obtain⟨w,j,u,rfl,R,M,N⟩:=F
  have g:Ki [.agg (L.cells x c e)] []=K (.agg (defL.cells w j u),[zD (L.cells x c e),.cells (defL.cells w j u)]):=by
   rw[aD];unfold O4;have A:Zc 6 (.ptr 1 0) (.agg (defL.cells w j u)) [zD (L.cells x c e),.cells [(.str []),.nils,(.str []),(.str []),.nils,.nils]]=K (.tuple [],[zD (L.cells x c e),.cells (defL.cells w j u)]):=by simp[Zc,YI,yP,yA,Loc.cells,splice]
   have z:Z2 I 6 (.ptr 1 0) [zD (L.cells x c e),.cells (defL.cells w j u)]=K (.agg (defL.cells w j u)):=by simp[Z2,Go.Am.apart,Loc.cells]
   simp only[go_sem,zM,zI,zW,yB,zH,hl,B,hb,E,A,z]
  obtain⟨aa,C,D⟩:=R.close (H:=[zD (L.cells x c e),.cells (defL.cells w j u)]) (n:=0) (f:=7) (λy hy=>by obtain⟨m,_,rfl⟩:=zO.1 hy;rfl);obtain⟨a',q1,q2⟩:=Iw C D M N;exact⟨a',Gl h1 g q1,by simpa using q2⟩
 |false =>
  have g:Ki [.agg (L.cells x c e)] []=K (.agg (L.cells x c e),[zD (L.cells x c e),.cells (L.cells x c e)]):=by
   rw[aD];unfold O4;have A:Zc 6 (.ptr 1 0) (.agg (L.cells x c e)) [zD (L.cells x c e),.cells [(.str []),.nils,(.str []),(.str []),.nils,.nils]]=K (.tuple [],[zD (L.cells x c e),.cells (L.cells x c e)]):=by simp[Zc,YI,yP,yA,Loc.cells,splice]
   have z:Z2 I 6 (.ptr 1 0) [zD (L.cells x c e),.cells (L.cells x c e)]=K (.agg (L.cells x c e)):=by simp[Z2,Go.Am.apart,Loc.cells]
   simp only[go_sem,zM,zI,zW,yB,zH,hl,B,hb,ZgV,A,z]
  obtain⟨x',T,Z⟩:=hx.close (H:=[zD (L.cells x c e),.cells (L.cells x c e)]) (n:=0) (f:=7) (λy hy=>by obtain⟨m,_,rfl⟩:=zO.1 hy;rfl);obtain⟨a',q1,q2⟩:=Iw T Z hc he;exact⟨a',Gl h1 g q1,by simpa using q2⟩
def UK (b:UInt8):AV:=.int .u8 b.toNat
def Vs (t s:cz):cz:=s.map λb=>t.getD b.toNat 0
theorem Ze5:∀ s:cz,V6 (s.map UK)=K s:=by
 intro s
 induction s with
 |nil=>rfl
 |cons b l g =>
  show (match V6 (l.map UK) with|some l=>K (xM (b.toNat:Int).toNat::l)|none=>U)=_;rw[g];simp
theorem Zqp {t:cz}(g:O t=256)(b:UInt8):Zz (.str t) (.int .u8 b.toNat)=K (.int .u8 (t.getD b.toNat 0).toNat):=by
 have hb:b.toNat<O t:=by rw[g];exact b.toNat_lt
 simp[Zz,zB hb,yO]
theorem ZAs (o e n:Nat){i:Nat}(hi:i<n):Zj 1 (.ws Y 1 o e n) (Q J (i:Int))=K (.wp o e i):=by
 simp[Zj,hi]
theorem Zvm (e:Nat)(l:c6)(i:Nat):Z2 Y 1 (.wp 0 e i) [yG e l]=l[i]?:=by simp[Z2,Go.Am.apart]
theorem ZsG (e:Nat)(l:c6){i:Nat}(hi:i<O l)(v:AV)(g:v.known=I)(h:O v.cells=1):Zc 1 (.wp 0 e i) v [yG e l]=K (.tuple [],[yG e (splice l i v.cells)]):=by
 unfold Zc YI;simp only[zA];rw[if_pos ⟨trivial,g,h,X⟩];rfl
theorem Zs8 (a:c6)(x y:AV)(b:c6):splice (a++x::b) (O a) [y]=a++y::b:=by
 unfold splice;simp
theorem ZpC {t:cz}(C:O t=256)(s:cz)(E:O s<=4611686018427387904)(H0:Hp):∀ (r done:cz),s=done++r ->
 JH (.str t) (.ws Y 1 0 0 (O s)) (Q J (O s:Int)) (Q J (O done:Int)) H0 [yG 0 ((Vs t done).map UK++r.map UK)]=K (.str (Vs t s),[yG 0 ((Vs t s).map UK)]):=by
 intro r
 induction r with
 |nil =>
  intro done u;obtain rfl:done=s:=by rw[u,zT]
  rw[Py];have g:decide ((O done:Int)<(O done:Int))=Y:=cn
  have w:J9 (.ws Y 1 0 0 (O done)) [yG 0 ((Vs t done).map UK)]=K ((Vs t done).map UK):=by
   simp[J9,elems,Vs];exact ZhG _ _ cn
  have B:Uh (.ws Y 1 0 0 (O done)) [yG 0 ((Vs t done).map UK)]=K (.str (Vs t done)):=by
   unfold Uh;simp only[Jk,w,Ze5]
  simp only[go_sem,g,lZ,xX,zT,B]
 |cons b r D =>
  intro done u;rw[Py];have A:O done<O s:=by rw[u];simp
  have g:decide ((O done:Int)<(O s:Int))=I:=by simp;omega
  have hw:wB.wrap ((O done:Int)+1)=((O done+1:Nat):Int):=by rw[Zo X X];omega
  have j:((Vs t done).map UK).length=O done:=by simp[Vs]
  have h:((Vs t done).map UK++(b::r).map UK)[O done]?=K (.int .u8 b.toNat):=by
   rw[zX X,j];simp[UK]
  have z:Zc 1 (.wp 0 0 (O done)) (.int .u8 (t.getD b.toNat 0).toNat) [yG 0 ((Vs t done).map UK++(b::r).map UK)]=K (.tuple [],[yG 0 ((Vs t (done++[b])).map UK++r.map UK)]):=by
   rw[ZsG 0 _ (by simp[Vs]) _ rfl rfl];have:=Zs8 ((Vs t done).map UK) (UK b) (.int .u8 (t.getD b.toNat 0).toNat) (r.map UK);rw[j]at this;simp only[yQ,yA];rw[this];simp[Vs,UK]
  have:=D (done++[b]) (by rw[u];simp);rw[zP,zR]at this;simp only[go_sem,g,mA,ZAs 0 0 (O s) A,Zvm,h,Zqp C,z,mB,hw];exact this
theorem ZpB {t:cz}(j:O t=256)(s:cz)(h:O s<=4611686018427387904)(H:Hp):Ze RJ [.str t,.str s] H=K (.str (Vs t s),H):=by
 refine VT (a':=.str t) (b':=.str s) (H1:=[yG 0 ((Vs t s).map UK)]) rfl rfl ?_ rfl;rw[nU];unfold Ar;have:=ZpC j s h [] s [] rfl;simp only[zI,Vs,xX,zM]at this;have e:fF (.str s) []=K (.ws Y 1 0 0 (O s),[yG 0 (s.map UK)]):=rfl;have g:Zk (.slice 5) (.ws Y 1 0 0 (O s))=K (Q J (O s)):=rfl;simp only[e,g,go_sem];exact this
theorem Zv0 (b:UInt8):(Zt 1 [(0,zJ .u8 b.toNat)] [(.int .u8 0)]).map (AV.vs 1 .clip)=K (.vs 1 .clip [UK b]):=rfl
theorem Zqk {n:Nat}{H:Hp}{x:AV}{s:cz}(h:RowN n H 1 x (s.map UK)):Uh x H=K (.str s):=by
 rcases h with ⟨rfl,h⟩|⟨t,e,rfl,_⟩
 ·have:s=[]:=by cases s with
   |nil=>rfl
   |cons a l=>simp at h
  subst this;rfl
 ·unfold Uh Jk;simp only[if_true,Ze5]
theorem Zog {t:cz}(w:O t=256)(s:cz)(C:O s<=1048576)(H0:Hp):∀ (r done:cz) (x:AV) (H:Hp),s=done++r->RowN 0 H 1 x ((Vs t done).map UK) ->
 ∃ H',Fy (.str t) (.str s) x (Q J (O done:Int)) H0 H=K (.str (Vs t s),H'):=by
 intro r
 induction r with
 |nil =>
  intro done x H h hx;rw[zT]at h;subst h;rw[Cd];have g:decide ((O s:Int)<(O s:Int))=Y:=cn
  simp only[go_sem,ZY,g,ZeU,Zqk hx];exact⟨_,rfl⟩
 |cons b r z =>
  intro done x H h hx;rw[Cd];have B:O done<O s:=by rw[h];simp
  have g:decide ((O done:Int)<(O s:Int))=I:=by simp;omega
  have hw:wB.wrap ((O done:Int)+1)=((O done+1:Nat):Int):=by rw[Zo X X];omega
  have hb:s[O done]?=K b:=by rw[h,zX X];simp
  obtain⟨A,H',j,u,_,_,_⟩:=hx.app (xB _) 1 (.vs 1 .clip [UK (t.getD b.toNat 0)]) [UK (t.getD b.toNat 0)] (by simp[elems]) (by simp[Vs];omega);simp only[go_sem,ZY,g,ZeV,ZO hb,Zqp w,Zv0,j,ZeW,hw];have:=z (done++[b]) A H' (by rw[h];simp) (by simpa[Vs]using u);rw[zP,zR]at this;exact this
theorem Zof {t:cz}(j:O t=256)(s:cz)(g:O s<=1048576)(H:Hp):Ze Sz [.str t,.str s] H=K (.str (Vs t s),H):=by
 obtain⟨H',h⟩:=Zog j s g [] s [] .nils [] rfl (RowN.nil 0 [] 1);refine VT (a':=.str t) (b':=.str s) (H1:=H') rfl rfl ?_ rfl;rw[Zgh];unfold nM;exact h
theorem Zq8:O defL.up=256/\O defL.w=256:=⟨by simp[defL],by simp[defL]⟩
theorem ZlN (L:Loc):(Y6 L).up.length=256:=by
 unfold Y6
 cases h:(Wl L != 0) with
 |true=>exact Zq8.1
 |false=>exact (checked h).2.2
theorem iZ (L:Loc):(Y6 L).w.length=256:=by
 unfold Y6
 cases h:(Wl L != 0) with
 |true=>exact Zq8.2
 |false=>exact (checked h).1
def upS (L:Loc)(s:cz):cz:=Vs (Y6 L).up s
theorem ZiZ {a:AV}{L:Loc}(h:LocAV a L)(j:LocOk L)(s:cz)(E:O s<=1048576)(H:Hp):Ze PS [a,.str s] H=K (.str (upS L s),H)/\Ze IX [a,.str s] H=K (.str (upS L s),H):=by
 obtain⟨M,C,w⟩:=h.close [] 0 5;have F:=λH=>Zj4 w j H;have A:=λH=>Zej w j H;obtain⟨x,c,e,rfl,hx,N,R⟩:=w;have D:Z2 I 6 (.ptr 0 0) [zD (L.cells x c e)]=K (.agg (L.cells x c e)):=by simp[Z2,Go.Am.apart,Loc.cells]
 constructor
 ·obtain⟨v,g,B,u,ev,rfl,_⟩:=F [zD (L.cells x c e)];have z:Su Y 1 3 (.agg ((Y6 L).cells B u ev))=K (.str (Y6 L).up):=rfl;refine VT C (b':=.str s) rfl (H1:=[zD (L.cells x c e)]) ?_ rfl;rw[Zcg];unfold aM;simp only[go_sem,zM,zI,D,g,z,ZpB (ZlN L) s X];rfl
 ·obtain⟨v,g,B,u,ev,rfl,_⟩:=A [zD (L.cells x c e)];have z:Su Y 1 3 (.agg ((Y6 L).cells B u ev))=K (.str (Y6 L).up):=rfl;refine VT C (b':=.str s) rfl (H1:=[zD (L.cells x c e)]) ?_ rfl;rw[Zjd];unfold Zd9;simp only[go_sem,zM,zI,D,g,z,Zof (ZlN L) s E];rfl
theorem ZtE {α:Type}{g:α->Option Int}{key:α->cz}(hb:∀ c e,g c=K e->e≠0){l:List α}(h:Lg g key l []=0):∀ i,i<=O l->Lg g key (l.drop i) ((l.take i).map key)=0:=by
 intro i
 induction i with
 |zero=>intro _;simpa using h
 |succ i w =>
  intro hi;have:=w X;rw[zG X,Ro]at this
  cases j:g l[i] with
  |some e=>rw[j]at this;exact absurd this (hb _ _ j)
  |none =>
   rw[j]at this;simp only at this;split at this
   ·cases this
   ·have u:(l.take (i+1)).map key=(l.take i).map key++[key l[i]]:=by
     rw[yD,zB X,yE];rfl
    rw[u];exact this
theorem Zws {α:Type}{g:α->Option Int}{key:α->cz}(hb:∀ c e,g c=K e->e≠0){l:List α}(h:Lg g key l []=0){i:Nat}(hi:i<O l):((l.take i).map key).contains (key l[i])=Y:=by
 have:=ZtE hb h i X;rw[zG X,Ro]at this
 cases j:g l[i] with
 |some e=>rw[j]at this;exact absurd this (hb _ _ j)
 |none =>
  rw[j]at this;simp only at this;split at this
  ·cases this
  ·rename_i u;exact Bool.eq_false_iff.2 u
theorem ZwK:∀ c e,fO c=K e->e≠0:=by
 intro c e h;unfold fO at h;split at h
 ·injection h with h;omega
 ·cases h
def ZmB (l:List (cz×Int)):Prop:=∀ i (hi:i<O l),((l.take i).map zK).contains l[i].1=Y
theorem Zj3 (L:Loc):ZmB (Y6 L).els:=by
 unfold Y6
 cases h:(Wl L != 0) with
 |true=>intro i hi;simp[defL]at hi
 |false =>
  simp only[Wl,bne_eq_false_iff_eq]at h
  have:CM L.els=0:=by
   split at h
   ·split at h
    ·cases h
    ·split at h
     ·cases h
     ·unfold iT at h;split at h
      ·rename_i g;simp[h]at g
      ·exact h
   ·cases h
  unfold CM at this;split at this
  ·cases this
  ·intro i hi;exact Zws (key:=zK) ZwK this hi
def C3 (g:List (AV×AV×Nat))(l:List (cz×Int)):Prop:=g.map (λe=>(e.1,e.2.1))=l.map λe=>(yZ e.1,zJ .i64 e.2)
theorem Zla (k:cz):∀ (g:List (AV×AV×Nat)) (l:List (cz×Int)) (i:Nat),C3 g l ->
 match l.find? (λe=>e.1==k) with
 |some e=>∃ j,YX (.str k) g i=K (K (j,Q J e.2))
 |none=>YX (.str k) g i=K U:=by
 intro g
 induction g with
 |nil =>
  intro l i h
  cases l with
  |nil=>simp[YX]
  |cons s r=>simp[C3]at h
 |cons e g z =>
  intro l i h
  cases l with
  |nil=>simp[C3]at h
  |cons s r =>
   obtain⟨a,b,c⟩:=e;simp only[C3,yQ,List.cons.injEq,xR]at h;obtain⟨⟨rfl,rfl⟩,w⟩:=h;have:=z r (i+1) w;have u:(k==s.1)=(s.1==k):=by rw[zQ,beq_iff_eq,beq_iff_eq];exact eq_comm
   simp only[YX,Jb,xP,u]
   cases A:(s.1==k) with
   |true=>exact⟨i,rfl⟩
   |false=>exact this
theorem ZwM {H:Hp}{m:Nat}{g:List (AV×AV×Nat)}{c:Nat}{l:List (cz×Int)}(z:H[m]?=K (.map g c))(A:C3 g l)(k:cz) :
 Yo .string (Q J 0) I (.map m) (.str k) H=K (match l.find? (λe=>e.1==k) with|some e=>.tuple [Q J e.2,.bool I]|none=>.tuple [Q J 0,.bool Y]):=by
 have h:=Zla k g l 0 A;unfold Yo;simp only[Wo,if_true,Xq,z]
 cases u:l.find? (λe=>e.1==k) with
 |some e =>
  rw[u]at h;obtain⟨j,w⟩:=h;simp[w]
 |none =>
  rw[u]at h;simp at h;simp[h]
theorem Zue {l:List (cz×Int)}{k:cz}(h:(l.map zK).contains k=Y):l.find? (λe=>e.1==k)=U:=by
 rw[List.find?_eq_none];intro e he hk;have:k∈l.map zK:=zO.2 ⟨e,he,by simpa using hk⟩;simp at h
 exact h e.2 (by have : e.1 = k := by simpa using hk
                 subst this;exact he)
theorem ZyW {H:Hp}{m:Nat}{g:List (AV×AV×Nat)}{c:Nat}{l:List (cz×Int)}(w:H[m]?=K (.map g c))(j:C3 g l){e:cz×Int}(u:(l.map zK).contains e.1=Y) :
 XC .string (.map m) (.str e.1) (Q J e.2) H=K (.tuple [],H.set m (.map (g++[(.str e.1,Q J e.2,c)]) (c+1)))/\C3 (g++[(.str e.1,Q J e.2,c)]) (l++[e]):=by
 have h:=Zla e.1 g l 0 j;rw[Zue u]at h;constructor
 ·unfold XC;simp only[w,Wo,if_true,h]
 ·unfold C3 at j ⊢;simp[j]
theorem ZwJ {x:AV}{l:List (cz×Int)}(h:Sl 2 x (l.map Kv))(B:ZmB l)(hl:O l<=1048576)(F L:AV)(H0:Hp):∀ (k i:Nat) (H:Hp) (z:List (AV×AV×Nat)) (c:Nat),O l-i=k->i<=O l ->
 H[2]?=K (.map z c)->C3 z (l.take i)->3<=O H ->
 ∃ H' g c',GO F L (.ptr 1 0) (.map 2) x (Q J (O l:Int)) (Q J (i:Int)) H0 H=Nn F L (.ptr 1 0) (.map 2) H0 H'/\H'[0]?=H[0]?/\H'[1]?=H[1]?/\H'[2]?=K (.map g c')/\C3 g l/\3<=O H':=by
 intro k
 induction k with
 |zero =>
  intro i H z c hk hi D C j;rw[Ej];have w:decide ((i:Int)<(O l:Int))=Y:=by simp;omega
  simp only[go_sem,w];exact⟨H,z,c,rfl,rfl,rfl,D,by rw[List.take_of_length_le X]at C;exact C,j⟩
 |succ k ih =>
  intro i H z c hk hi D C j;rw[Ej];have u:i<O l:=X
  have w:decide ((i:Int)<(O l:Int))=I:=by simp;omega
  have hw:wB.wrap ((i:Int)+1)=((i+1:Nat):Int):=by rw[Zo X X];omega
  have E:=CA H 2 [.str l[i].1,Q J l[i].2] [.str [],Q J 0] rfl rfl;have A:(H++[zD [yZ l[i].1,zJ .i64 l[i].2]])[2]?=K (.map z c):=Y8 D _;obtain⟨q1,q2⟩:=ZyW A C (e:=l[i]) (B i u);simp only[go_sem,w,ZcU,h.els (zB u),Vp 2 [.str l[i].1,Q J l[i].2] rfl,E,zH,ZK,zA,zC,q1,ZcV,hw];have ht:l.take (i+1)=l.take i++[l[i]]:=by rw[yD,zB u];rfl
  obtain⟨H',g,c',M,N,R,S,T,Z⟩:=ih (i+1) _ _ _ X X (Zs _ A) (by rw[ht];exact q2) (by simp;omega);refine⟨H',g,c',M,?_,?_,S,T,Z⟩
  ·rw[N,yH X,yS X]
  ·rw[R,yH X,yS X]
def lE (L:Loc)(b:UInt8):Int:=L.w.getD b.toNat 0
def wS (L:Loc):cz->List Int
 |[]=>[]
 |[b]=>[lE L b]
 |b::c::r=>match L.els.find? (λe=>e.1==[b,c]) with
  |some e=>e.2::wS L r
  |none=>lE L b::wS L (c::r)
theorem dF (n:Int):(Zt 1 [(0,zJ .i64 n)] [(Q J 0)]).map (AV.vs 1 .clip)=K (.vs 1 .clip [Q J n]):=rfl
theorem QB {s:cz}{i j:Nat}(g:i<=j)(w:j<=O s):Y4 (.str s) (K (Q J (i:Int))) (K (Q J (j:Int))) U=K (.str ((s.take j).drop i)):=by
 have h:Xj (Q J (j:Int)) (O s)=K j:=by simp[Xj,w]
 have u:Xj (Q J (i:Int)) j=K i:=by simp[Xj,g]
 unfold Y4 Gd YQ;simp only[h,u]
theorem Zyr {x:AV}{L:Loc}(h:Sl 1 x (L.w.map (zJ .i64)))(hw:O L.w=256)(b:UInt8):Zj 1 x (.int .u8 b.toNat)=K (.vp [Q J (lE L b)]):=by
 have hb:b.toNat<O L.w:=by rw[hw];exact b.toNat_lt
 rcases h with ⟨rfl,h⟩|⟨tok,rfl⟩
 ·simp at h;simp[h]at hb
 ·simp[Zj,zB hb,lE,yO,yA]
structure WSt (L:Loc)(x c e:AV)(es:List (AV×AV×Nat))(acc:List Int)(H:Hp):Prop where
 out:∃ y,H[0]?=K (.cells [y])/\RowN 3 H 1 y (acc.map (zJ .i64))
 loc:H[1]?=K (.cells (L.cells x c e))
 mp:∃ k,H[2]?=K (.map es k)
 len:3<=O H
theorem Zq7 {L:Loc}{x c e:AV}{D:List (AV×AV×Nat)}{g:List Int}{H:Hp}(h:WSt L x c e D g H)(hl:O g<=1048576)(t:AV)(w:Int) :
 ∃ H',Yu cfg (Zb cfg) (.fn (.func 131) [] [.ptr 0 0]) [t,Q J w] H=K (.bool I,H')/\WSt L x c e D (g++[w]) H':=by
 obtain⟨⟨y,E,Z⟩,M,⟨k,N⟩,R⟩:=h;obtain⟨j,H1,F,C,e3,z,e5⟩:=Z.app R 8 (.vs 1 .clip [Q J w]) [Q J w] (by simp[elems]) (by simp;omega);have u:H1[0]?=K (.cells [y]):=by rw[z 0 X];exact E
 have B:Zc 1 (.ptr 0 0) j H1=K (.tuple [],H1.set 0 (.cells [j])):=by
  have A:j.known=I/\j.cells=[j]:=by
   rcases C with ⟨rfl,_⟩|⟨t,e,rfl,_⟩ <;> exact⟨rfl,rfl⟩
  rw[YL (sz:=1) u A.1 (by rw[A.2];rfl) cn];rw[A.2];rfl
 refine⟨H1.set 0 (.cells [j]),?_,⟨⟨j,Zs _ u,?_⟩,?_,⟨k,?_⟩,by simp;omega⟩⟩
 ·rw[eN];show Jq [t,Q J w,.ptr 0 0] H=_;rw[HU];unfold RM;simp only[ZT E,zA,go_sem,dF,F,B]
 ·rcases C with ⟨rfl,S⟩|⟨t,e,rfl,ht,T⟩
  ·exact .inl ⟨rfl,by rw[yE];exact S⟩
  ·exact .inr ⟨t,e,cn,Y2 _ X ht,T⟩
 ·rw[yH X,z 1 X];exact M
 ·rw[yH X,z 2 X];exact N
theorem Zu1 {L:Loc}{x c e:AV}(hx:Sl 1 x (L.w.map (zJ .i64)))(hw:O L.w=256){D:List (AV×AV×Nat)}(aa:C3 D L.els)(s:cz)(hs:O s<=1048576)(H0:Hp):∀ (n:Nat) (done r:cz) (g:List Int) (H:Hp),O r<=n->s=done++r->O g<=O done->WSt L x c e D g H ->
 ∃ H',GN (.str s) (.fn (.func 131) [] [.ptr 0 0]) (.ptr 1 0) (.map 2) (Q J (O done:Int)) H0 H=K (.tuple [],H')/\WSt L x c e D (g++wS L r) H':=by
 intro n
 induction n with
 |zero =>
  intro done r g H hr j ha h;have:r=[]:=yI.1 X;subst this;rw[zT]at j;subst j;rw[Da];have u:decide ((O s:Int)<(O s:Int))=Y:=cn
  simp only[go_sem,ZY,u];exact⟨H,rfl,by simpa[wS]using h⟩
 |succ n ih =>
  intro done r g H hr j ha h
  cases r with
  |nil =>
   rw[zT]at j;subst j;rw[Da];have u:decide ((O s:Int)<(O s:Int))=Y:=cn
   simp only[go_sem,ZY,u];exact⟨H,rfl,by simpa[wS]using h⟩
  |cons b r =>
   have hl:O done<O s:=by rw[j];simp
   have B:O s=O done+(O r+1):=by rw[j];simp
   have u:decide ((O done:Int)<(O s:Int))=I:=by simp;omega
   have M:wB.wrap ((O done:Int)+1)=((O done+1:Nat):Int):=by rw[Zo X X];omega
   have N:wB.wrap ((O done:Int)+2)=((O done+2:Nat):Int):=by rw[Zo X X];omega
   have hb:s[O done]?=K b:=by rw[j,zX X];simp
   have ab:(s.take (O done+1)).drop (O done)=[b]:=by rw[j,yW];simp
   have one:∀ H,WSt L x c e D g H->∃ H',Jc (.str s) (.fn (.func 131) [] [.ptr 0 0]) (.ptr 1 0) (.map 2) (Q J (O done:Int)) (.str [b]) (Q J (lE L b)) H0 H=K (.tuple [],H')/\WSt L x c e D (g++lE L b::wS L r) H':=by
    intro H h;obtain⟨H1,S,T⟩:=Zq7 h X (.str [b]) (lE L b);obtain⟨R,E,Z⟩:=ih (done++[b]) r (g++[lE L b]) H1 (by simp at hr;omega) (by rw[j];simp) (by simp;omega) T;rw[zP,zR]at E;rw[Eh];have z:(([b]:cz).length:Int)=1:=rfl;simp only[S,go_sem,Ei,ZY,z,M,E];exact⟨R,rfl,by simpa using Z⟩
   rw[Da];obtain⟨⟨y,h0,F⟩,h1,⟨k,h2⟩,h3⟩:=h;have h:WSt L x c e D g H:=⟨⟨y,h0,F⟩,h1,⟨k,h2⟩,h3⟩;simp only[go_sem,ZY,u,ZcT,M,QB (Nat.le_succ _) (show O done+1<=O s by omega),ab,zH,ZT h1,Loc.cells,zA,zC,ZO hb,Zyr hx hw,Zu,N]
   cases r with
   |nil =>
    have A:decide (((O done+2:Nat):Int)<=(O s:Int))=Y:=by simp at B ⊢;omega
    simp only[A,go_sem];have:=one H h;simpa[wS]using this
   |cons C r =>
    have A:decide (((O done+2:Nat):Int)<=(O s:Int))=I:=by simp at B ⊢;omega
    have ac:(s.take (O done+2)).drop (O done)=[b,C]:=by rw[j,yW];simp
    simp only[A,go_sem,QB (show O done<=O done+2 by omega) (show O done+2<=O s by simp at B;omega),ac,ZwM h2 aa];unfold wS
    cases hf:L.els.find? (λe=>e.1==[b,C]) with
    |none =>
     simp only[go_sem,zA,zC];exact one H h
    |some el =>
     simp only[go_sem,zA,zC];obtain⟨H1,S,T⟩:=Zq7 h X (.str [b,C]) el.2;obtain⟨R,E,Z⟩:=ih (done++[b,C]) r (g++[el.2]) H1 (by simp at hr;omega) (by rw[j];simp) (by simp;omega) T;rw[zP,show ([b,C]:cz).length=2 from rfl]at E;rw[Eh];have z:(([b,C]:cz).length:Int)=2:=rfl;simp only[S,go_sem,Ei,ZY,z,N,E];exact⟨R,rfl,by simpa using Z⟩
def LocCells (l:c6)(L:Loc):Prop:=∃ x c e,l=L.cells x c e/\Sl 1 x (L.w.map (zJ .i64))/\Sl 5 c (L.cls.map Q7)/\Sl 2 e (L.els.map Kv)
theorem LocCells.close {l:c6}{L:Loc}(h:LocCells l L)(H:Hp)(n f:Nat):∃ C,l.mapM (Zh H n (f+3))=K C/\LocCells C L:=by
 obtain⟨x,c,e,rfl,hx,E,F⟩:=h;obtain⟨D,z,A⟩:=hx.close (H:=H) (n:=n) (f:=f+2) (λy hy=>by obtain⟨m,_,rfl⟩:=zO.1 hy;rfl);obtain⟨c',g,j⟩:=E.close (H:=H) (n:=n) (f:=f+2) (λy hy=>by obtain⟨m,_,rfl⟩:=zO.1 hy;exact AU m H n f);obtain⟨B,u,w⟩:=F.close (H:=H) (n:=n) (f:=f+2) (λy hy=>by obtain⟨m,_,rfl⟩:=zO.1 hy;exact fP m H n f);refine⟨L.cells D c' B,?_,D,c',B,rfl,A,j,w⟩;simp only[Loc.cells,xE,z,g,u,yR];rfl
theorem Q6 (H:Hp)(n f:Nat)(l:c6):Zh H n (f+1) (.vp l)=match l.mapM (Zh H n f) with
 |some l=>K (.vp l)
 |none=>U:=de
theorem Rs {f:c6->Hp->Z4}{a a' b b' v v':AV}{H H1:Hp}(ha:Zh [] 0 9 a=K a')(hb:Zh [] 0 9 b=K b')(g:f [a',b'] []=K (v,H1))(h:Zh H1 0 9 v=K v'):Ze f [a,b] H=K (v',H):=by
 unfold Ze;simp[ha,hb,g,h]
theorem RowN.close {n:Nat}{H:Hp}{x:AV}{l:List Int}(h:RowN n H 1 x (l.map (zJ .i64)))(H1:Hp):∃ g,Zh H1 0 9 x=K g/\Sl 1 g (l.map (zJ .i64)) :=
 h.sl.close (f:=8) (λy hy=>by obtain⟨m,_,rfl⟩:=zO.1 hy;rfl)
theorem ZbO {l:c6}{L:Loc}(h:LocCells l L)(hw:O L.w=256)(j:ZmB L.els)(Z:O L.els<=1048576)(s:cz)(hs:O s<=1048576)(H:Hp) :
 ∃ v,Ze UY [.str s,.vp l] H=K (v,H)/\Sl 1 v ((wS L s).map (zJ .i64)):=by
 obtain⟨l',T,x,c,e,rfl,hx,hc,E⟩:=h.close [] 0 5;have u:Zh [] 0 9 (.vp l)=K (.vp (L.cells x c e)):=by rw[Q6,T]
 have g:=E.len 198;rw[zL]at g;obtain⟨H1,S,k,F,q2,q3,q4,q5,q6⟩:=ZwJ E j Z (.str s) (.fn (.func 131) [] [.ptr 0 0]) [zD [.nils]] (O L.els) 0 [zD [.nils],.cells (L.cells x c e),.map [] 0] [] 0 X X rfl rfl cn;rw[show ((0:Nat):Int)=0 from rfl]at F;have A:WSt L x c e S [] H1:=⟨⟨.nils,by rw[q2];rfl,RowN.nil _ _ _⟩,by rw[q3];rfl,⟨k,q4⟩,q6⟩;obtain⟨D,M,⟨⟨y,q8,N⟩,_,_,_⟩⟩:=Zu1 hx hw q5 s hs [zD [.nils]] (O s) [] s [] H1 (zY _) rfl cn A;rw[zI,show ((0:Nat):Int)=0 from rfl]at M;rw[zM]at N;obtain⟨v,B,C⟩:=N.close D;refine⟨v,Rs (a':=.str s) rfl u ?_ B,C⟩;rw[aL];unfold Mr
 have R:MY [.agg (L.cells x c e),.str s,.fn (.func 131) [] [.ptr 0 0]] [zD [.nils]]=K (.tuple [],D):=by
  rw[Zez];unfold jG;have z:Z2 Y 1 (.ptr 1 5) [zD [.nils],.cells (L.cells x c e),.map [] 0]=K e:=by simp[Z2,Go.Am.apart,Loc.cells]
  simp only[go_sem,zW,zI,yB,zM,zH,z,g,F,ZcS,M]
 simp only[go_sem,zI,zM,Vp 6 (L.cells x c e) rfl,R,ZT q8,zA]
def Jd (r:cz)(e:cz×Int):Bool :=
 match r with
 |b::c::_=>e.1==[b,c]
 |_=>Y
def TO (r:cz):List (cz×Int)->Nat->Int
 |[],_=>-1
 |e::l,k=>if Jd r e then (k:Int) else TO r l (k+1)
theorem Zud {x c e:AV}{L:Loc}(R:Sl 2 e (L.els.map Kv))(hl:O L.els<=1048576)(s done r:cz)(hs:O s<=1048576)(A:s=done++r)(H0 H:Hp){o:Nat}(F:H[o]?=K (.cells (L.cells x c e))):∀ (n k:Nat),O L.els-k=n->k<=O L.els ->
 NO (.str s) (Q J (O done:Int)) (.ptr o 0) (Q J (k:Int)) H0 H=K (Q J (TO r (L.els.drop k) k),H):=by
 have j:=R.len 198;rw[zL]at j;have g:O s=O done+O r:=by rw[A];simp
 have C:wB.wrap ((O done:Int)+2)=((O done+2:Nat):Int):=by rw[Zo X X];omega
 intro n
 induction n with
 |zero =>
  intro k T S;rw[bD];have w:decide ((k:Int)<(O L.els:Int))=Y:=by simp;omega
  have D:L.els.drop k=[]:=zF.2 X;simp only[go_sem,zH,ZT F,Loc.cells,zA,zC,j,w,ZjE,D];rfl
 |succ n Z =>
  intro k T S;rw[bD];have B:k<O L.els:=X
  have w:decide ((k:Int)<(O L.els:Int))=I:=by simp;omega
  have z:wB.wrap ((k:Int)+1)=((k+1:Nat):Int):=by rw[Zo X X];omega
  rw[zG B];simp only[go_sem,zH,ZT F,Loc.cells,zA,zC,j,w,ZjF,C,ZY];have u:=Z (k+1) X X
  match r,A,g,u with
  |[],A,g,u =>
   have h:decide (((O done+2:Nat):Int)<=(O s:Int))=Y:=by simp at g ⊢;omega
   simp only[h,go_sem,N1,z,u];simp[TO,Jd]
  |[b],A,g,u =>
   have h:decide (((O done+2:Nat):Int)<=(O s:Int))=Y:=by simp at g ⊢;omega
   simp only[h,go_sem,N1,z,u];simp[TO,Jd]
  |b::b2::r,A,g,u =>
   have h:decide (((O done+2:Nat):Int)<=(O s:Int))=I:=by simp at g ⊢;omega
   have M:(s.take (O done+2)).drop (O done)=[b,b2]:=by rw[A,yW];simp
   have N:YK .eql (.str [b,b2]) (.str L.els[k].1)=K (.bool (Jd (b::b2::r) L.els[k])):=by
    show K (AV.bool ([b,b2]==L.els[k].1))=K (.bool (L.els[k].1==[b,b2]));congr 2;rw[zQ,beq_iff_eq,beq_iff_eq];exact eq_comm
   simp only[h,go_sem,QB (show O done<=O done+2 by omega) (show O done+2<=O s by simp at g;omega),M,zH,C,ZT F,Loc.cells,zA,zC,R.els (zB B),Ts,Zu,N];have E:TO (b::b2::r) (L.els[k]::L.els.drop (k+1)) k=if Jd (b::b2::r) L.els[k] then (k:Int) else TO (b::b2::r) (L.els.drop (k+1)) (k+1):=rfl;rw[E]
   cases hm:Jd (b::b2::r) L.els[k] with
   |true=>simp only[go_sem,if_true]
   |false=>simp only[go_sem,zE,if_false,N1,z,u]
theorem ZoH (L:Loc)(b c:UInt8)(r:cz):wS L (b::c::r)=match L.els.find? (Jd (b::c::r)) with
 |some e=>e.2::wS L r
 |none=>lE L b::wS L (c::r):=de
theorem Zuc {a:AV}{L:Loc}(h:LocAV a L)(z:O L.els<=1048576)(s done r:cz)(A:O s<=1048576)(u:s=done++r)(H:Hp):Ze Et [a,.str s,Q J (O done:Int)] H=K (Q J (TO r L.els 0),H):=by
 obtain⟨B,j,x,c,e,rfl,hx,C,w⟩:=h.close [] 0 5
 have g:Et [.agg (L.cells x c e),.str s,Q J (O done:Int)] []=K (Q J (TO r L.els 0),[zD (L.cells x c e)]):=by
  rw[ZlP];unfold Zgg;have:=Zud (x:=x) (c:=c) w z s done r A u [] [zD (L.cells x c e)] (o:=0) rfl (O L.els) 0 X X;rw[zN,show ((0:Nat):Int)=0 from rfl]at this;simp only[go_sem,zI,zM,this]
 exact Xi (args':=[.agg (L.cells x c e),.str s,Q J (O done:Int)]) (by simp[j];rfl) g rfl
theorem ZrE (r:cz):∀ (l:List (cz×Int)) (k:Nat),match l.find? (Jd r) with
 |some e=>∃ i,TO r l k=((k+i:Nat):Int)/\l[i]?=K e
 |none=>TO r l k=-1:=by
 intro l
 induction l with
 |nil=>intro k;rfl
 |cons e l h =>
  intro k;rw[xP];unfold TO
  cases z:Jd r e with
  |true=>exact⟨0,cn,rfl⟩
  |false =>
   have:=h (k+1);simp only
   cases g:l.find? (Jd r) with
   |none=>rw[g]at this;simpa using this
   |some w =>
    rw[g]at this;obtain⟨i,j,u⟩:=this;exact⟨i+1,by simp only[zE,if_false];rw[j];congr 1;omega,by simpa using u⟩
theorem Zmm {x c e:AV}{L:Loc}(hx:Sl 1 x (L.w.map (zJ .i64)))(hc:Sl 5 c (L.cls.map Q7))(he:Sl 2 e (L.els.map Kv))(hw:O L.w=256)(hl:O L.els<=1048576)(s:cz)(hs:O s<=1048576)(H0:Hp):∀ (n:Nat) (done r:cz) (g:List Int) (y:AV) (H:Hp),O r<=n->s=done++r->O g<=O done->H[0]?=K (.cells (L.cells x c e))->1<=O H->RowN 1 H 1 y (g.map (zJ .i64)) ->
 ∃ C H',J4 (.str s) (.ptr 0 0) y (Q J (O done:Int)) H0 H=K (C,H')/\RowN 1 H' 1 C ((g++wS L r).map (zJ .i64)):=by
 intro n
 induction n with
 |zero =>
  intro done r g y H hr u ha M D h;have:r=[]:=yI.1 X;subst this;rw[zT]at u;subst u;rw[BZ];have A:decide ((O s:Int)<(O s:Int))=Y:=cn
  simp only[go_sem,ZY,A,E2];exact⟨y,H,rfl,by simpa[wS]using h⟩
 |succ n ih =>
  intro done r g y H hr u ha M D h
  cases r with
  |nil =>
   rw[zT]at u;subst u;rw[BZ];have A:decide ((O s:Int)<(O s:Int))=Y:=cn
   simp only[go_sem,ZY,A,E2];exact⟨y,H,rfl,by simpa[wS]using h⟩
  |cons b r =>
   have ad:O done<O s:=by rw[u];simp
   have ae:O s=O done+(O r+1):=by rw[u];simp
   have A:decide ((O done:Int)<(O s:Int))=I:=by simp;omega
   have ab:wB.wrap ((O done:Int)+1)=((O done+1:Nat):Int):=by rw[Zo X X];omega
   have ac:wB.wrap ((O done:Int)+2)=((O done+2:Nat):Int):=by rw[Zo X X];omega
   have hb:s[O done]?=K b:=by rw[u,zX X];simp
   have aa:LocAV (.agg (L.cells x c e)) L:=⟨x,c,e,rfl,hx,hc,he⟩;have hf:=Zuc aa hl s done (b::r) hs u H;have N:Z2 I 6 (.ptr 0 0) H=K (.agg (L.cells x c e)):=by rw[Yk M];simp[Go.Am.apart,Loc.cells]
   have app:∀ w:Int,∃ C H',ZR 1 8 y (.vs 1 .clip [Q J w]) H=K (C,H')/\RowN 1 H' 1 C ((g++[w]).map (zJ .i64))/\1<=O H'/\H'[0]?=K (.cells (L.cells x c e)):=λw=>by
    obtain⟨C,H',R,S,T,q4,F⟩:=h.app D 8 (.vs 1 .clip [Q J w]) [Q J w] (by simp[elems]) (by simp;omega);exact⟨C,H',R,by simpa using S,T,F _ _ M⟩
   rw[BZ];simp only[go_sem,ZY,A,Zcy,N,hf];have j:=ZrE (b::r) L.els 0
   cases z:L.els.find? (Jd (b::r)) with
   |none =>
    rw[z]at j;simp only at j
    have E:wS L (b::r)=lE L b::wS L r:=by
     cases r with
     |nil=>rfl
     |cons Z r =>
      rw[ZoH,z]
    obtain⟨C,H',R,S,T,q4⟩:=app (lE L b);obtain⟨y2,H2,F,q6⟩:=ih (done++[b]) r (g++[lE L b]) C H' (by simp at hr;omega) (by rw[u];simp) (by simp;omega) q4 T S;rw[zP,zR]at F;have B:decide ((-1:Int)<0)=I:=rfl;rw[j,E];simp only[go_sem,B,zH,ZT M,Loc.cells,zA,zC,ZO hb,Zyr hx hw,Zu,dF,R,ab,F];exact⟨y2,H2,rfl,by simpa using q6⟩
   |some el =>
    rw[z]at j;simp only at j;obtain⟨i,q7,q8⟩:=j
    cases r with
    |nil =>
     have:=List.find?_some z;simp[Jd]at this
    |cons Z r =>
     have E:wS L (b::Z::r)=el.2::wS L r:=by
      rw[ZoH,z]
     obtain⟨C,H',R,S,T,q4⟩:=app el.2;obtain⟨y2,H2,F,q6⟩:=ih (done++[b,Z]) r (g++[el.2]) C H' (by simp at hr;omega) (by rw[u];simp) (by simp;omega) q4 T S;rw[zP,show ([b,Z]:cz).length=2 from rfl]at F;rw[q7,E,zH];have B:decide ((i:Int)<0)=Y:=cn
     simp only[go_sem,B,zH,ZT M,Loc.cells,zA,zC,he.els q8,Zhu,Zu,dF,R,ac,F];exact⟨y2,H2,rfl,by simpa using q6⟩
theorem lD {a:AV}{L:Loc}(h:LocAV a L)(hw:O L.w=256)(B:O L.els<=1048576)(s:cz)(C:O s<=1048576)(H:Hp) :
 ∃ v,Ze Ff [a,.str s] H=K (v,H)/\Sl 1 v ((wS L s).map (zJ .i64)):=by
 obtain⟨F,u,x,c,e,rfl,hx,z,A⟩:=h.close [] 0 5;obtain⟨M,H',g,j⟩:=Zmm hx z A hw B s C [] (O s) [] s [] .nils [zD (L.cells x c e)] (zY _) rfl cn rfl cn (RowN.nil _ _ _);rw[zI,show ((0:Nat):Int)=0 from rfl]at g;rw[zM]at j;obtain⟨v,D,E⟩:=j.close H';refine⟨v,Rs u (b':=.str s) rfl ?_ D,E⟩;rw[Zet];unfold jC;simp only[go_sem,zI,zM,g]
set_option linter.unusedSectionVars false
def XX:List Int->List Int->Int
 |[],[]=>0
 |[],_::_=>-1
 |_::_,[]=>1
 |a::l,b::m=>if a<b then -1 else if b<a then 1 else XX l m
theorem Qi (a b:Int)(l m:List Int):XX (a::l) (b::m)=if a<b then -1 else if b<a then 1 else XX l m:=de
theorem Zlt {l m:List Int}(h:l=[]\/m=[]):XX l m=if O l<O m then -1 else if O m<O l then 1 else 0:=by
 rcases h with rfl|rfl
 ·cases m <;> simp[XX]
 ·cases l <;> simp[XX]
theorem Zfn:∀ a b:cz,XX (a.map λc=>(c.toNat:Int)) (b.map λc=>(c.toNat:Int))=Qw a b:=by
 intro a
 induction a with
 |nil=>intro b;cases b <;> simp[XX,Qw]
 |cons x a z =>
  intro b
  cases b with
  |nil=>simp[XX,Qw]
  |cons y b =>
   simp only[yQ,Qi,Qw];by_cases h:x=y
   ·subst h;simp[z b]
   ·have w:x.toNat≠y.toNat:=λe=>h (UInt8.toNat_inj.1 e);by_cases g:x<y
    ·have:(x.toNat:Int)<y.toNat:=by have:=xC.1 g;omega
     simp[h,g,this]
    ·have j:¬ (x.toNat:Int)<y.toNat:=by
      intro A;exact g (xC.2 X)
     have u:(y.toNat:Int)<x.toNat:=X
     simp[h,g,j,u]
theorem Zvq (a b:cz)(H:Hp):Ze BW [.str a,.str b] H=K (Q J (Qw a b),H):=by
 have g:∀ H,Ze W9 [.str a,.str b] H=K (Q J (Qw a b),H):=λH=>by
  refine VT (a':=.str a) (b':=.str b) (H1:=[]) rfl rfl ?_ rfl;rw[GB];rfl
 refine VT (a':=.str a) (b':=.str b) (H1:=[]) rfl rfl ?_ rfl;rw[eI];unfold E0;simp only[g,go_sem]
section
variable {x y:AV}{a b:List Int}(hx:Sl 1 x (a.map (zJ .i64)))(hy:Sl 1 y (b.map (zJ .i64)))(ha:O a<=4611686018427387904)(hb:O b<=4611686018427387904)
include hx hy ha hb
theorem Zsj (H0 H:Hp):∀ (k i:Nat),O a-i=k->i<=O a->i<=O b ->
 T8 x y (Q J (i:Int)) H0 H=K (Q J (XX (a.drop i) (b.drop i)),H):=by
 have g:=hx.len 3;have u:=hy.len 3;rw[zL]at g u
 have A:∀ i,i<=O a->i<=O b->(i=O a\/i=O b)->Ce x y H0 H=K (Q J (XX (a.drop i) (b.drop i)),H):=by
  intro i D E F;have L:a.drop i=[]\/b.drop i=[]:=F.imp (λh=>zF.2 X) (λh=>zF.2 X);rw[Zlt L,ZgP];simp only[xN,go_sem,g,u];by_cases w:O a<O b
  ·have c:decide ((O a:Int)<(O b:Int))=I:=by simp;omega
   simp only[c,go_sem];rw[if_pos X]
  ·have c:decide ((O a:Int)<(O b:Int))=Y:=by simp;omega
   simp only[c,go_sem,ZgQ,g,u];rw[if_neg X];by_cases M:O b<O a
   ·have c:decide ((O b:Int)<(O a:Int))=I:=by simp;omega
    simp only[c,go_sem];rw[if_pos X]
   ·have c:decide ((O b:Int)<(O a:Int))=Y:=by simp;omega
    simp only[c,go_sem,ZgR];rw[if_neg X]
 intro k
 induction k with
 |zero =>
  intro i N D E;rw[AE];have w:decide ((i:Int)<(O a:Int))=Y:=by simp;omega
  simp only[go_sem,g,w];exact A i D E (.inl X)
 |succ k R =>
  intro i N D E;rw[AE];have hi:i<O a:=X
  have w:decide ((i:Int)<(O a:Int))=I:=by simp;omega
  have hw:wB.wrap ((i:Int)+1)=((i+1:Nat):Int):=by rw[Zo X X];omega
  simp only[go_sem,g,u,w];by_cases z:i<O b
  ·have j:decide ((i:Int)<(O b:Int))=I:=by simp;omega
   simp only[j,go_sem,ZgS,hx.ints hi,hy.ints z,Zu];rw[zG hi,zG z,Qi];by_cases B:a[i]<b[i]
   ·simp only[decide_eq_true B,go_sem,if_pos B]
   ·simp only[decide_eq_false B,go_sem,if_neg B,ZgU,hx.ints hi,hy.ints z,Zu];by_cases C:b[i]<a[i]
    ·simp only[decide_eq_true C,go_sem,if_pos C]
    ·simp only[decide_eq_false C,go_sem,if_neg C,ZgT,hw];exact R (i+1) X X X
  ·have j:decide ((i:Int)<(O b:Int))=Y:=by simp;omega
   simp only[j,go_sem];exact A i D E (.inr X)
theorem Zsk (H:Hp):Dn [x,y] H=K (Q J (XX a b),H):=by
 rw[Zjf];unfold Zdb;have:=Zsj hx hy ha hb H H (O a) 0 rfl X X;rw[show ((0:Nat):Int)=0 from rfl,zN,zN]at this;exact this
theorem Zv5 (s t:cz)(H0 H:Hp):∀ (k i:Nat),min (O a) (O b)-i=k->i<=min (O a) (O b) ->
 QM (.str s) (.str t) x y (Q J ((min (O a) (O b):Nat):Int)) (Q J (i:Int)) H0 H=K (Q J (if (XX (a.drop i) (b.drop i) != 0)=I then XX (a.drop i) (b.drop i) else Qw s t),H):=by
 have z:=hx.len 3;have A:=hy.len 3;rw[zL]at z A;intro k
 induction k with
 |zero =>
  intro i F hi;rw[TT];have B:decide ((i:Int)<((min (O a) (O b):Nat):Int))=Y:=by simp;omega
  have E:a.drop i=[]\/b.drop i=[]:=by
   rcases Nat.le_total (O a) (O b) with h|h
   ·exact .inl (zF.2 X)
   ·exact .inr (zF.2 X)
  rw[Zlt E];simp only[xN,go_sem,B,gI,z,A];by_cases M:O a<O b
  ·have c:decide ((O a:Int)<(O b:Int))=I:=by simp;omega
   have g:O a-i<O b-i:=X
   simp only[c,go_sem,g,if_true];rfl
  ·have c:decide ((O a:Int)<(O b:Int))=Y:=by simp;omega
   have g:¬ O a-i<O b-i:=X
   simp only[c,go_sem,g,if_false,gJ,z,A];by_cases N:O b<O a
   ·have c:decide ((O b:Int)<(O a:Int))=I:=by simp;omega
    have j:O b-i<O a-i:=X
    simp only[c,go_sem,j,if_true];rfl
   ·have c:decide ((O b:Int)<(O a:Int))=Y:=by simp;omega
    have j:¬ O b-i<O a-i:=X
    simp only[c,go_sem,j,if_false,gL,Zvq];rfl
 |succ k L =>
  intro i F hi;rw[TT];have u:i<O a:=X
  have w:i<O b:=X
  have B:decide ((i:Int)<((min (O a) (O b):Nat):Int))=I:=by simp;omega
  have hw:wB.wrap ((i:Int)+1)=((i+1:Nat):Int):=by rw[Zo X X];omega
  simp only[go_sem,B,gO,hx.ints u,hy.ints w,Zu];rw[zG u,zG w,Qi];by_cases C:a[i]<b[i]
  ·simp only[decide_eq_true C,go_sem,if_pos C];rfl
  ·simp only[decide_eq_false C,go_sem,if_neg C,gR,hx.ints u,hy.ints w,Zu];by_cases D:b[i]<a[i]
   ·simp only[decide_eq_true D,go_sem,if_pos D];rfl
   ·simp only[decide_eq_false D,go_sem,if_neg D,gQ,hw];exact L (i+1) X X
end
theorem Zj8 (L:Loc):∀ (n:Nat) (s:cz),O s<=n->(wS L s).length<=O s:=by
 intro n
 induction n with
 |zero=>intro s h;have:s=[]:=yI.1 X;subst this;simp[wS]
 |succ n g =>
  intro s h
  match s,h with
  |[],_=>simp[wS]
  |[b],_=>simp[wS]
  |b::c::r,h =>
   rw[ZoH];simp only[zW]at h
   cases L.els.find? (Jd (b::c::r)) with
   |none=>have:=g (c::r) (by simp;omega);simp only[zW]at this ⊢;omega
   |some e=>have:=g r X;simp only[zW];omega
theorem Sr (L:Loc):(Y6 L).els.length<=64:=by
 unfold Y6
 cases h:(Wl L != 0) with
 |true=>simp[defL]
 |false =>
  simp only[Wl,bne_eq_false_iff_eq]at h
  have:CM L.els=0:=by
   split at h
   ·split at h
    ·cases h
    ·split at h
     ·cases h
     ·unfold iT at h;split at h
      ·rename_i g;simp[h]at g
      ·exact h
   ·cases h
  unfold CM at this;split at this
  ·cases this
  ·simp;omega
def Qx (L:Loc)(s t:cz):Int:=if (XX (wS (Y6 L) s) (wS (Y6 L) t) != 0)=I then XX (wS (Y6 L) s) (wS (Y6 L) t) else Qw s t
theorem Zli {v:AV}{L:Loc}(h:LocAV v L)(E:LocOk L)(s t:cz)(hs:O s<=1048576)(ht:O t<=1048576)(H:Hp):Ze Uc [v,.str s,.str t] H=K (Q J (Qx L s t),H):=by
 obtain⟨R,h1,S⟩:=h.close [] 0 5;have hv:=λH=>Zj4 S E H;obtain⟨x,c,e,rfl,hx,hc,he⟩:=S;obtain⟨v',M,j,g,ev,rfl,N,B,C⟩:=hv [zD (L.cells x c e)];have u:LocCells ((Y6 L).cells j g ev) (Y6 L):=⟨j,g,ev,rfl,N,B,C⟩;obtain⟨w1,q1,T⟩:=ZbO u (iZ L) (Zj3 L) (by have:=Sr L;omega) s hs [xD];obtain⟨w2,q3,Z⟩:=ZbO u (iZ L) (Zj3 L) (by have:=Sr L;omega) t ht [xD];have aa:=Zj8 (Y6 L) (O s) s (zY _);have ab:=Zj8 (Y6 L) (O t) t (zY _)
 have A:Uc [.agg (L.cells x c e),.str s,.str t] []=K (Q J (Qx L s t),[xD]):=by
  rw[lI];unfold SM;have hl:Z2 I 6 (.ptr 0 0) [zD (L.cells x c e)]=K (.agg (L.cells x c e)):=by simp[Z2,Go.Am.apart,Loc.cells]
  have F:Zc 6 (.ptr 0 0) (.agg ((Y6 L).cells j g ev)) [zD (L.cells x c e)]=K (.tuple [],[zD ((Y6 L).cells j g ev)]):=by simp[Zc,YI,yP,yA,Loc.cells,splice]
  have D:∀ k:AV->Hp->Z4,Wy (.ptr 0 0) [zD ((Y6 L).cells j g ev)] k=k (.vp ((Y6 L).cells j g ev)) [xD]:=λk=>rfl;have R:Zk (.slice 3) w1=K (Q J (wS (Y6 L) s).length):=by have:=T.len 3;rwa [zL]at this
  have a2:Zk (.slice 3) w2=K (Q J (wS (Y6 L) t).length):=by have:=Z.len 3;rwa [zL]at this
  have z:Q3 (Q J ((wS (Y6 L) s).length:Int)) (Q J ((wS (Y6 L) t).length:Int))=K (Q J ((min (wS (Y6 L) s).length (wS (Y6 L) t).length:Nat):Int)):=by
   unfold Q3;simp only[if_true];congr 2;split <;> omega
  have w:=Zv5 T Z X X s t [] [xD] _ 0 rfl (xB _);rw[show ((0:Nat):Int)=0 from rfl,zN,zN]at w;simp only[go_sem,zI,zM,hl,M,F,D,oH,Zad,yB,q1,q3,R,a2,z,w];rfl
 exact Xi (args':=[.agg (L.cells x c e),.str s,.str t]) (by simp[h1];rfl) A rfl
def Nw (s:cz):List Int:=s.map λc=>(c.toNat:Int)
theorem Zyi (b:UInt8):Yn .i64 (.int .u8 b.toNat)=K (Q J (b.toNat:Int)):=by
 have:=b.toNat_lt;simp only[Yn,Zo (show -(9223372036854775808:Int)<=(b.toNat:Int) by omega) X]
theorem Nj {s done r:cz}{b:UInt8}(h:s=done++b::r):Zz (.str s) (Q J (O done:Int))=K (.int .u8 b.toNat) :=
 ZO (by rw[h,zX (zY _)];simp)
theorem RowN.appInt {n:Nat}{H:Hp}{y:AV}{g:List Int}(h:RowN n H 1 y (g.map (zJ .i64)))(z:n<=O H)(E:O g<=1048576)(w:Int) :
 ∃ j H',ZR 1 8 y (.vs 1 .clip [Q J w]) H=K (j,H')/\RowN n H' 1 j ((g++[w]).map (zJ .i64))/\n<=O H'/\(∀ i x,H[i]?=K x->i<n->H'[i]?=K x):=by
 obtain⟨j,H',A,B,C,D,F⟩:=h.app z 8 (.vs 1 .clip [Q J w]) [Q J w] (by simp[elems]) (by simp;omega);exact⟨j,H',A,by simpa using B,C,λi x hi u=>(D i u).trans hi⟩
theorem Ziy {x y:AV}{a b:List Int}(hx:Sl 1 x (a.map (zJ .i64)))(hy:Sl 1 y (b.map (zJ .i64)))(ha:O a<=4611686018427387904)(hb:O b<=4611686018427387904)(H:Hp) :
 Ze Dn [x,y] H=K (Q J (XX a b),H):=by
 obtain⟨w,g,h⟩:=hx.close (H:=[]) (n:=0) (f:=8) (λy hy=>by obtain⟨m,_,rfl⟩:=zO.1 hy;rfl);obtain⟨z,j,u⟩:=hy.close (H:=[]) (n:=0) (f:=8) (λy hy=>by obtain⟨m,_,rfl⟩:=zO.1 hy;rfl);exact VT g j (Zsk h u ha hb []) rfl
theorem hY (s:cz):(Nw s).length=O s:=by simp[Nw]
theorem Zln (s:cz)(b:UInt8):Nw (s++[b])=Nw s++[(b.toNat:Int)]:=by simp[Nw]
theorem Zwo {z:AV}{a:List Int}(hx:Sl 1 z (a.map (zJ .i64)))(t:cz)(F:O t<=1048576)(ha:O a<=1048576)(H0:Hp):∀ (r done:cz) (y:AV) (H:Hp),t=done++r->RowN 0 H 1 y ((Nw done).map (zJ .i64)) ->
 ∃ H',RV (.str t) z y (Q J (O done:Int)) H0 H=K (Q J (XX a (Nw t)),H'):=by
 intro r
 induction r with
 |nil =>
  intro done y H h hy;rw[zT]at h;subst h;refine⟨H,?_⟩;rw[AB];have g:decide ((O t:Int)<(O t:Int))=Y:=cn
  simp only[go_sem,ZY,g,ZgD,Ziy hx hy.sl X (by rw[hY];omega)]
 |cons b r B =>
  intro done y H h hy;have u:O t=O done+(O r+1):=by rw[h];simp
  have g:decide ((O done:Int)<(O t:Int))=I:=by simp;omega
  have j:wB.wrap ((O done:Int)+1)=((O done+1:Nat):Int):=by rw[Zo X X];omega
  obtain⟨E,H1,C,D,L,M⟩:=hy.appInt (xB _) (by rw[hY];omega) (b.toNat:Int);obtain⟨A,w⟩:=B (done++[b]) E H1 (by rw[h];simp) (by rw[Zln];exact D);rw[zP,zR]at w;refine⟨A,?_⟩;rw[AB];simp only[go_sem,ZY,g,ZgE,Nj h,Zyi,dF,C,ZgF,j,w]
theorem Zwp (s t:cz)(L:O s<=1048576)(B:O t<=1048576)(H0:Hp):∀ (r done:cz) (y:AV) (H:Hp),s=done++r->RowN 0 H 1 y ((Nw done).map (zJ .i64)) ->
 ∃ H',RW (.str s) (.str t) y .nils (Q J (O done:Int)) H0 H=K (Q J (XX (Nw s) (Nw t)),H'):=by
 intro r
 induction r with
 |nil =>
  intro done y H j hy;rw[zT]at j;subst j;obtain⟨H',h⟩:=Zwo hy.sl t B (by rw[hY];omega) H0 t [] .nils H rfl (RowN.nil _ _ _);rw[zI,show ((0:Nat):Int)=0 from rfl]at h;refine⟨H',?_⟩;rw[AC];have g:decide ((O s:Int)<(O s:Int))=Y:=cn
  simp only[go_sem,ZY,g,ZgC,h]
 |cons b r C =>
  intro done y H j hy;have w:O s=O done+(O r+1):=by rw[j];simp
  have g:decide ((O done:Int)<(O s:Int))=I:=by simp;omega
  have u:wB.wrap ((O done:Int)+1)=((O done+1:Nat):Int):=by rw[Zo X X];omega
  obtain⟨F,H1,D,E,M,N⟩:=hy.appInt (xB _) (by rw[hY];omega) (b.toNat:Int);obtain⟨A,z⟩:=C (done++[b]) F H1 (by rw[j];simp) (by rw[Zln];exact E);rw[zP,zR]at z;refine⟨A,?_⟩;rw[AC];simp only[go_sem,ZY,g,ZgG,Nj j,Zyi,dF,D,ZgH,u,z]
theorem Zr6 (s t:cz)(g:O s<=1048576)(j:O t<=1048576)(H:Hp):Ze IW [.str s,.str t] H=K (Q J (Qw s t),H):=by
 obtain⟨H',h⟩:=Zwp s t g j [] s [] .nils [] rfl (RowN.nil _ _ _);rw[zI,show ((0:Nat):Int)=0 from rfl,show XX (Nw s) (Nw t)=Qw s t from Zfn s t]at h;refine VT (a':=.str s) (b':=.str t) (H1:=H') rfl rfl ?_ rfl;rw[Zjb];exact h
theorem ZlA {v:AV}{L:Loc}(h:LocAV v L)(C:LocOk L)(s t:cz)(N:O s<=1048576)(R:O t<=1048576)(H:Hp):Ze JZ [v,.str s,.str t] H=K (Q J (Qx L s t),H):=by
 obtain⟨a1,S,M⟩:=h.close [] 0 5;have hv:=λH=>Zej M C H;obtain⟨x,c,e,rfl,hx,T,he⟩:=M;obtain⟨v',E,j,g,ev,rfl,F,A,B⟩:=hv [zD (L.cells x c e)];have w:LocAV (.agg ((Y6 L).cells j g ev)) (Y6 L):=⟨j,g,ev,rfl,F,A,B⟩;obtain⟨w1,q1,q2⟩:=lD w (iZ L) (by have:=Sr L;omega) s N [zD ((Y6 L).cells j g ev)];obtain⟨w2,q3,q4⟩:=lD w (iZ L) (by have:=Sr L;omega) t R [zD ((Y6 L).cells j g ev)];have aa:=Zj8 (Y6 L) (O s) s (zY _);have ab:=Zj8 (Y6 L) (O t) t (zY _)
 have z:JZ [.agg (L.cells x c e),.str s,.str t] []=K (Q J (Qx L s t),[zD ((Y6 L).cells j g ev)]):=by
  rw[Zer];unfold jA;have Z:Z2 I 6 (.ptr 0 0) [zD (L.cells x c e)]=K (.agg (L.cells x c e)):=by simp[Z2,Go.Am.apart,Loc.cells]
  have D:Zc 6 (.ptr 0 0) (.agg ((Y6 L).cells j g ev)) [zD (L.cells x c e)]=K (.tuple [],[zD ((Y6 L).cells j g ev)]):=by simp[Zc,YI,yP,yA,Loc.cells,splice]
  have u:Z2 I 6 (.ptr 0 0) [zD ((Y6 L).cells j g ev)]=K (.agg ((Y6 L).cells j g ev)):=by simp[Z2,Go.Am.apart,Loc.cells]
  unfold Qx;simp only[go_sem,zI,zM,Z,E,D,u,q1,q3,Ziy q2 q4 X X]
  cases T:(XX (wS (Y6 L) s) (wS (Y6 L) t) != 0) with
  |true=>rfl
  |false=>simp only[go_sem,Zcq,Zr6 s t N R,zE,if_false]
 exact Xi (args':=[.agg (L.cells x c e),.str s,.str t]) (by simp[S];rfl) z rfl
def isD (b:UInt8):Bool:=decide (48<=(b.toNat:Int))&&decide ((b.toNat:Int)<=57)
def Zp (l:cz):Nat:=(l.takeWhile isD).length
theorem ZlH:Zp []=0:=rfl
theorem iI (b:UInt8)(l:cz):Zp (b::l)=if isD b then Zp l+1 else 0:=by
 unfold Zp;rw[List.takeWhile_cons];split <;> simp_all
theorem iJ (l:cz):Zp l<=O l:=by
 induction l with
 |nil=>simp[Zp]
 |cons b l g=>rw[iI];split <;> simp <;> omega
theorem Zpd {s:cz}(C:O s<=1048576)(H0 H:Hp):∀ (k p:Nat),O s-p=k->p<=O s ->
 QK (.str s) (Q J (p:Int)) H0 H=K (Q J ((p+Zp (s.drop p):Nat):Int),H):=by
 intro k
 induction k with
 |zero =>
  intro p z A;rw[TG];have g:decide ((p:Int)<(O s:Int))=Y:=by simp;omega
  have w:s.drop p=[]:=zF.2 X;simp only[go_sem,g,w,ZlH,yJ,Jx]
 |succ k B =>
  intro p z A;rw[TG];have g:decide ((p:Int)<(O s:Int))=I:=by simp;omega
  have h:p<O s:=X
  have hw:wB.wrap ((p:Int)+1)=((p+1:Nat):Int):=by rw[Zo X X];omega
  simp only[go_sem,g,ZO (zB h)];rw[YU h,iI]
  cases j:decide (48<=((s[p].toNat:Int))) with
  |false=>simp only[isD,j,go_sem,yF,zE,if_false,yJ,Jx]
  |true =>
   cases u:decide (((s[p].toNat:Int))<=57) with
   |false=>simp only[isD,j,u,go_sem,ZO (zB h),xQ,zE,if_false,yJ,Jx]
   |true =>
    simp only[isD,j,u,go_sem,ZO (zB h),xI,if_true,fK,hw];rw[B (p+1) X X,show p+1+Zp (s.drop (p+1))=p+(Zp (s.drop (p+1))+1) by omega]
theorem Ze8 (s:cz)(g:O s<=1048576)(H:Hp):Ze Jp [.str s] H=K (Q J (Zp s:Int),H):=by
 refine XD (a':=.str s) (H1:=[]) rfl ?_ rfl;rw[lG];have:=Zpd g [] [] (O s) 0 rfl X;rw[show ((0:Nat):Int)=0 from rfl,zN,zH]at this;exact this
theorem Zo6 {s:cz}(C:O s<=1048576)(H0 H:Hp):∀ (k p:Nat),O s-p=k->p<=O s ->
 Fo (.str s) (Q J (p:Int)) H0 H=K (Q J ((p+Zp (s.drop p):Nat):Int),H):=by
 intro k
 induction k with
 |zero =>
  intro p z A;rw[C7];have g:decide ((p:Int)<(O s:Int))=Y:=by simp;omega
  have w:s.drop p=[]:=zF.2 X;simp only[go_sem,g,w,ZlH,yJ,FR]
 |succ k B =>
  intro p z A;rw[C7];have g:decide ((p:Int)<(O s:Int))=I:=by simp;omega
  have h:p<O s:=X
  have hw:wB.wrap ((p:Int)+1)=((p+1:Nat):Int):=by rw[Zo X X];omega
  simp only[go_sem,g,ZO (zB h)];rw[YU h,iI]
  cases j:decide (48<=((s[p].toNat:Int))) with
  |false=>simp only[isD,j,go_sem,yF,zE,if_false,yJ,FR]
  |true =>
   cases u:decide (((s[p].toNat:Int))<=57) with
   |false=>simp only[isD,j,u,go_sem,ZO (zB h),xQ,zE,if_false,yJ,FR]
   |true =>
    simp only[isD,j,u,go_sem,ZO (zB h),xI,if_true,ZeJ,hw];rw[B (p+1) X X,show p+1+Zp (s.drop (p+1))=p+(Zp (s.drop (p+1))+1) by omega]
theorem ZbA (s:cz)(h:O s<=1048576){p:Nat}(g:p<=O s)(H:Hp):Ze RE [.str s,Q J (p:Int)] H=K (Q J ((p+Zp (s.drop p):Nat):Int),H):=by
 refine VT (a':=.str s) (b':=Q J (p:Int)) (H1:=[]) rfl rfl ?_ rfl;rw[Zge];exact Zo6 h [] [] _ p rfl g
def dg (b:UInt8):Int:=IntKind.u8.wrap ((b.toNat:Int)-48)
theorem XO (b:UInt8):0<=dg b/\dg b<=255:=by
 unfold dg;have h:=b.toNat_lt;show 0<=((b.toNat:Int)-48) % 256/\((b.toNat:Int)-48) % 256<=255;omega
theorem Zmu (b:UInt8):Yn .i64 (.int .u8 (IntKind.u8.wrap ((b.toNat:Int)-48)))=K (Q J (dg b)):=by
 have:=XO b;show K (zJ .i64 (wB.wrap (dg b)))=_;rw[Zo X X]
def fr:Nat->cz->Int->Int
 |0,_,d=>d
 |k+1,[],d=>fr k [] (d*10)
 |k+1,b::l,d=>fr k l (d*10+dg b)
theorem Zia (k:Nat)(d:Int):fr (k+1) [] d=fr k [] (d*10):=de
theorem ZbZ (k:Nat)(b:UInt8)(l:cz)(d:Int):fr (k+1) (b::l) d=fr k l (d*10+dg b):=de
theorem Zuj (s:cz)(S:O s<=1048576)(H0 H:Hp):∀ (k i:Nat) (d p:Int),i+k=4->0<=d->d+1000<=2000000000*p->p*10 ^ k<=10000 ->
 UB (.str s) (Q J d) (Q J (i:Int)) H0 H=K (Q J (fr k (s.drop i) d),H):=by
 intro k
 induction k with
 |zero =>
  intro i d p A F L D;rw[DJ];have h:decide ((i:Int)<4)=Y:=by simp;omega
  simp only[go_sem,h,OF,fr]
 |succ k E =>
  intro i d p A F L D;rw[DJ];have h:decide ((i:Int)<4)=I:=by simp;omega
  have w:wB.wrap ((i:Int)+1)=((i+1:Nat):Int):=by rw[Zo X X];omega
  have j:p*10*10 ^ k<=10000:=by rw[yT,show (10:Int)*10 ^ k=10 ^ (k+1) by rw[yX,yY]];exact D
  have B:(1:Int)<=10 ^ k:=xJ.2 (wA co)
  have R:p*10<=10000:=by
   by_cases N:0<=p
   ·have:=yM B (show 0<=p*10 by omega);omega
   ·omega
  have C:wB.wrap (d*10)=d*10:=Zo X X;simp only[go_sem,h,OG,C,ZY];by_cases hi:i<O s
  ·have hb:=XO s[i];have g:decide ((i:Int)<(O s:Int))=I:=by simp;omega
   have u:wB.wrap (d*10+dg s[i])=d*10+dg s[i]:=Zo X X;simp only[g,go_sem,ZO (zB hi),Zmu,u,DI,w];rw[E (i+1) _ (p*10) X X X j,YU hi,ZbZ]
  ·have g:decide ((i:Int)<(O s:Int))=Y:=by simp;omega
   have M:s.drop i=[]:=zF.2 X;have z:s.drop (i+1)=[]:=zF.2 X;simp only[g,go_sem,DI,w];rw[E (i+1) _ (p*10) X X X j,M,z,Zia]
theorem Zui (s:cz)(g:O s<=1048576)(H:Hp):Ze G1 [.str s] H=K (Q J (fr 4 s 0),H):=by
 refine XD (a':=.str s) (H1:=[]) rfl ?_ rfl;rw[aF];have:=Zuj s g [] [] 4 0 0 1 rfl X X co;rw[show ((0:Nat):Int)=0 from rfl,zN]at this;exact this
theorem Zsw (s:cz)(S:O s<=1048576)(H0 H:Hp):∀ (k i:Nat) (d p:Int),i+k=4->0<=d->d+1000<=2000000000*p->p*10 ^ k<=10000 ->
 Fr (.str s) (Q J d) (Q J (i:Int)) H0 H=K (.tuple [Q J (fr k (s.drop i) d),.bool (decide (fr k (s.drop i) d<=10000000000000))],H):=by
 intro k
 induction k with
 |zero =>
  intro i d p A F L D;rw[C9];have h:decide ((i:Int)<4)=Y:=by simp;omega
  simp only[go_sem,h,ZeL,fr];rfl
 |succ k E =>
  intro i d p A F L D;rw[C9];have h:decide ((i:Int)<4)=I:=by simp;omega
  have w:wB.wrap ((i:Int)+1)=((i+1:Nat):Int):=by rw[Zo X X];omega
  have j:p*10*10 ^ k<=10000:=by rw[yT,show (10:Int)*10 ^ k=10 ^ (k+1) by rw[yX,yY]];exact D
  have B:(1:Int)<=10 ^ k:=xJ.2 (wA co)
  have R:p*10<=10000:=by
   by_cases N:0<=p
   ·have:=yM B (show 0<=p*10 by omega);omega
   ·omega
  have C:wB.wrap (d*10)=d*10:=Zo X X;simp only[go_sem,h,ZeM,C,ZY];by_cases hi:i<O s
  ·have hb:=XO s[i];have g:decide ((i:Int)<(O s:Int))=I:=by simp;omega
   have u:wB.wrap (d*10+dg s[i])=d*10+dg s[i]:=Zo X X;simp only[g,go_sem,ZO (zB hi),Zmu,u,C8,w];rw[E (i+1) _ (p*10) X X X j,YU hi,ZbZ]
  ·have g:decide ((i:Int)<(O s:Int))=Y:=by simp;omega
   have M:s.drop i=[]:=zF.2 X;have z:s.drop (i+1)=[]:=zF.2 X;simp only[g,go_sem,C8,w];rw[E (i+1) _ (p*10) X X X j,M,z,Zia]
def HT:cz->Int->Option Int
 |[],d=>K d
 |b::l,d=>if 1000000000<d*10+dg b then U else HT l (d*10+dg b)
theorem ZbN (b:UInt8)(l:cz)(d:Int):HT (b::l) d=if 1000000000<d*10+dg b then U else HT l (d*10+dg b):=de
theorem Zx2:∀ (k:Nat) (l:cz) (d:Int),fr k l d=d*10 ^ k+fr k l 0:=by
 intro k
 induction k with
 |zero=>intro l d;simp[fr]
 |succ k g =>
  intro l d
  cases l with
  |nil=>rw[Zia,Zia,g,g _ (0*10),yX];simp only[xY,xZ];rw[yT,yY 10]
  |cons b l=>rw[ZbZ,ZbZ,g,g _ (0*10+dg b),yX,Int.add_mul];simp only[xY,xZ];rw[yT,yY 10];omega
theorem Zlb (l:cz):0<=fr 4 l 0/\fr 4 l 0<=1000000:=by
 match l with
 |[]=>simp[fr]
 |[a]=>have:=XO a;simp[fr];omega
 |[a,b]=>have:=XO a;have:=XO b;simp[fr];omega
 |[a,b,c]=>have:=XO a;have:=XO b;have:=XO c;simp[fr];omega
 |a::b::c::d::l=>have:=XO a;have:=XO b;have:=XO c;have:=XO d;simp[fr];omega
theorem Zx1 (l:cz):fr 4 (l.take 4) 0=fr 4 l 0:=by
 match l with
 |[]=>rfl
 |[a]=>rfl
 |[a,b]=>rfl
 |[a,b,c]=>rfl
 |a::b::c::d::l=>rfl
def OP (w f:cz):Option Int:=match HT w 0 with
 |none=>U
 |some d=>K (d*10000+fr 4 f 0)
def Kz (w f:cz):Int:=match OP w f with
 |none=>10000000000001
 |some n=>min 10000000000001 n
theorem Zt2 (s f:cz)(L:O s<=1048576)(D:O f<=1048576)(H0 H:Hp):∀ (r done:cz) (d:Int),s=done++r->0<=d->d<=1000000000 ->
 Jz (.str s) (.str f) (Q J d) (Q J (O s:Int)) (Q J (O done:Int)) H0 H=K (Q J (match HT r d with
  |none=>10000000000001
  |some n=>min 10000000000001 (n*10000+fr 4 f 0)),H):=by
 intro r
 induction r with
 |nil =>
  intro done d u B C;rw[zT]at u;subst u;rw[Pu];have g:decide ((O s:Int)<(O s:Int))=Y:=cn
  have E:=Zlb f;have h:wB.wrap (d*10000)=d*10000:=Zo X X;have j:wB.wrap (d*10000+fr 4 f 0)=d*10000+fr 4 f 0:=Zo X X;simp only[go_sem,g,lS,h,Zui f D,j,HT]
 |cons b r F =>
  intro done d u B C;have A:O s=O done+(O r+1):=by rw[u];simp
  have g:decide ((O done:Int)<(O s:Int))=I:=by simp;omega
  have z:wB.wrap ((O done:Int)+1)=((O done+1:Nat):Int):=by rw[Zo X X];omega
  have hb:=XO b;have h:wB.wrap (10*d)=d*10:=by rw[Zo X X];omega
  have j:wB.wrap (d*10+dg b)=d*10+dg b:=Zo X X;rw[Pu,ZbN];simp only[go_sem,g,lT,h,Nj u,Zmu,j];by_cases w:1000000000<d*10+dg b
  ·simp only[decide_eq_true w,go_sem,if_pos w]
  ·have:=F (done++[b]) (d*10+dg b) (by rw[u];simp) X X;rw[zP,zR]at this;simp only[decide_eq_false w,go_sem,if_neg w,lU,z,this]
theorem Zt1 (s f:cz)(h:O s<=1048576)(g:O f<=1048576)(H:Hp):Ze RH [.str s,.str f] H=K (Q J (Kz s f),H):=by
 refine VT (a':=.str s) (b':=.str f) (H1:=[]) rfl rfl ?_ rfl;rw[nQ];unfold Ao;have:=Zt2 s f h g [] [] s [] 0 rfl X X;rw[zI,show ((0:Nat):Int)=0 from rfl]at this;simp only[go_sem,this];unfold Kz OP;cases HT s 0 <;> rfl
theorem Zoi (s f:cz)(F:O s<=1048576)(D:O f<=1048576)(H0 H:Hp):∀ (r done:cz) (d:Int),s=done++r->0<=d->d<=1000000000 ->
 Ft (.str s) (.str f) (Q J d) (Q J (O done:Int)) H0 H=K (match HT r d with
  |none=>.tuple [Q J 0,.bool Y]
  |some n=>.tuple [Q J (n*10000+fr 4 f 0),.bool (decide (n*10000+fr 4 f 0<=10000000000000))],H):=by
 intro r
 induction r with
 |nil =>
  intro done d h A C;rw[zT]at h;subst h;rw[Ca];have g:decide ((O s:Int)<(O s:Int))=Y:=cn
  have:=Zsw f D H0 H 4 0 d 1 rfl A X co;rw[show ((0:Nat):Int)=0 from rfl,zN,Zx2 4 f d]at this;simp only[go_sem,g,ZeK,this,HT];rfl
 |cons b r E =>
  intro done d h A C;have B:O s=O done+(O r+1):=by rw[h];simp
  have g:decide ((O done:Int)<(O s:Int))=I:=by simp;omega
  have z:wB.wrap ((O done:Int)+1)=((O done+1:Nat):Int):=by rw[Zo X X];omega
  have hb:=XO b;have u:wB.wrap (d*10)=d*10:=Zo X X;have w:wB.wrap (d*10+dg b)=d*10+dg b:=Zo X X;rw[Ca,ZbN];simp only[go_sem,g,ZeN,u,Nj h,Zmu,w];by_cases j:1000000000<d*10+dg b
  ·simp only[decide_eq_true j,go_sem,if_pos j]
  ·have:=E (done++[b]) (d*10+dg b) (by rw[h];simp) X X;rw[zP,zR]at this;simp only[decide_eq_false j,go_sem,if_neg j,ZeO,z,this]
theorem Zoh (s f:cz)(j:O s<=1048576)(g:O f<=1048576)(H:Hp):Ze Sy [.str s,.str f] H=K (match OP s f with
 |none=>.tuple [Q J 0,.bool Y]
 |some n=>.tuple [Q J n,.bool (decide (n<=10000000000000))],H):=by
 have:=Zoi s f j g [] [] s [] 0 rfl X X;rw[zI,show ((0:Nat):Int)=0 from rfl]at this;unfold OP
 cases h:HT s 0 with
 |none =>
  rw[h]at this;refine VT (a':=.str s) (b':=.str f) (H1:=[]) rfl rfl ?_ rfl;rw[An];exact this
 |some n =>
  rw[h]at this;refine VT (a':=.str s) (b':=.str f) (H1:=[]) rfl rfl ?_ rfl;rw[An];exact this
end Go.Am
