/- Bytes told apart -/
import Derived.Test.YtjmhpjoedfegkaaGreatDoorRwSx
import Derived.Test.YtjmhpjoedfegkaaGreatDoorRwGCx
open Option renaming some->K,none->U
open Bool renaming true->I,false->Y
open List renaming length->O
open Go.dw renaming b5->X
open Go.Am.AV renaming int->Q
open Go.IntKind renaming i64->J
open Go.IntKind renaming i64->wB
open List renaming getElem?_cons_zero->zA,getElem?_eq_getElem->zB,getElem?_cons_succ->zC,drop_eq_nil_iff->zF,drop_eq_getElem_cons->zG,length_nil->zI,length_map->zL,nil_append->zM,drop_zero->zN,mem_map->zO,length_append->zP,length_singleton->zR,append_nil->zT,length_cons->zW,getElem?_append_right->zX,cons_append->yB,take_add_one->yD,map_append->yE,getElem?_set_ne->yH,length_eq_zero_iff->yI,take_zero->yK,getElem_mem->yL,contains_cons->yN,getD_eq_getElem?_getD->yO,map_cons->yQ,mapM_nil->yR,getElem?_append_left->yS,range->yU,take_append->yW,getElem?_eq_none->xA,mapM_cons->xE,replicate->xF,mem_of_getElem?->xG,all_cons->xH,isEmpty_cons->xK,contains_nil->xL,length_drop->xN,find?_cons->xP,any_cons->xS,all_nil->xT,any_nil->xW,map_nil->xX
open Nat renaming zero_add->zH,le_refl->zY,add_zero->yJ,zero_le->xB,lt_or_ge->xU
open Bool renaming false_eq_true->zE,eq_iff_iff->zQ,false_or->zS,not_false->zU,true_or->zV,true_and->zZ,not_true->yC,false_and->yF,and_eq_true->yV,and_true->xI,or_eq_true->xO,and_false->xQ,not_not->xV
open Prod renaming fst->zK
open Int renaming mul_le_mul_of_nonneg_left->yM,mul_assoc->yT,pow_succ->yX,mul_comm->yY,add_one_le_iff->xJ,zero_mul->xY,zero_add->xZ,pow_pos->wA
open UInt8 renaming lt_iff_toNat_lt->xC,ofNat->xM
open Prod.mk renaming injEq->xR
open Go.Am.AObj renaming cells->zD,row->yG,dead->xD
open Go.Am.AV renaming int->zJ,cells->yA,known->yP,str->yZ
namespace Go.Am
set_option maxRecDepth 100000
theorem Bc {α β γ:Type}(x:Option α)(f:α->Option β)(g:β->Option γ):Z0 (Z0 x f) g=Z0 x λa=>Z0 (f a) g:=by cases x <;> rfl
def SY (j x8:AV):Option AV :=
 Z0 (Z2 .eql j (.int .u8 95)) λu =>
 Z0 (Z8 u Y bf (K j)) λD =>
 Z0 (Z8 u Y bf (Z2 .geq D (.int .u8 97))) λE =>
 Z0 (Z8 u Y bf (K E)) λz =>
 Z0 (Z8 z I bf (K j)) λF =>
 Z0 (Z8 z I bf (Z2 .leq F (.int .u8 122))) λG =>
 Z0 (Z8 u Y bf (Zm z G (.bool Y))) λH =>
 Z0 (Zm u (.bool I) H) λw =>
 Z0 (Z8 w Y bf (K j)) λL =>
 Z0 (Z8 w Y bf (Z2 .geq L (.int .u8 65))) λM =>
 Z0 (Z8 w Y bf (K M)) λA =>
 Z0 (Z8 A I bf (K j)) λN =>
 Z0 (Z8 A I bf (Z2 .leq N (.int .u8 90))) λP =>
 Z0 (Z8 w Y bf (Zm A P (.bool Y))) λR =>
 Z0 (Zm w (.bool I) R) λS =>
 Z0 (YU .not S) λh =>
 Z0 (Z8 h I bf (K x8)) λT =>
 Z0 (Z8 h I bf (Z2 .eql T (Q J 0))) λZ =>
 Z0 (Z8 h I bf (K Z)) λB =>
 Z0 (Z8 B Y bf (K j)) λaa =>
 Z0 (Z8 B Y bf (Z2 .lss aa (.int .u8 48))) λab =>
 Z0 (Z8 h I bf (Zm B (.bool I) ab)) λac =>
 Z0 (Z8 h I bf (K ac)) λC =>
 Z0 (Z8 C Y bf (K j)) λad =>
 Z0 (Z8 C Y bf (Z2 .gtr ad (.int .u8 57))) λae =>
 Z0 (Z8 h I bf (Zm C (.bool I) ae)) λaf =>
 Z0 (Zm h af (.bool Y)) λag =>
 K ag
theorem N9 (w A u B:AV)(z H:Hp):NS w A u B z H =
 Z0 (Zp w u) λj =>
 Z0 (SY j u) λh =>
 Zh h (K ((.bool Y),H)) (NT w A u z H):=by
 rw[Zdz];simp only[SY,Bc,Xz]
def ZiB (h:AV):Option AV :=
 Z0 (Z2 .geq h (.int .u8 97)) λA =>
 Z0 (Z8 A I bf (K h)) λT =>
 Z0 (Z8 A I bf (Z2 .leq T (.int .u8 122))) λZ =>
 Z0 (Zm A Z (.bool Y)) λu =>
 Z0 (Z8 u Y bf (K h)) λaa =>
 Z0 (Z8 u Y bf (Z2 .geq aa (.int .u8 65))) λab =>
 Z0 (Z8 u Y bf (K ab)) λB =>
 Z0 (Z8 B I bf (K h)) λC =>
 Z0 (Z8 B I bf (Z2 .leq C (.int .u8 90))) λD =>
 Z0 (Z8 u Y bf (Zm B D (.bool Y))) λE =>
 Z0 (Zm u (.bool I) E) λj =>
 Z0 (Z8 j Y bf (K h)) λF =>
 Z0 (Z8 j Y bf (Z2 .geq F (.int .u8 48))) λG =>
 Z0 (Z8 j Y bf (K G)) λw =>
 Z0 (Z8 w I bf (K h)) λH =>
 Z0 (Z8 w I bf (Z2 .leq H (.int .u8 57))) λL =>
 Z0 (Z8 j Y bf (Zm w L (.bool Y))) λM =>
 Z0 (Zm j (.bool I) M) λz =>
 Z0 (Z8 z Y bf (K h)) λN =>
 Z0 (Z8 z Y bf (Z2 .eql N (.int .u8 95))) λP =>
 Z0 (Zm z (.bool I) P) λR =>
 Z0 (YU .not R) λS =>
 K S
theorem ZaH (u w:AV)(z H:Hp):LI u w z H =
 Z0 (Zp u w) λj =>
 Z0 (ZiB j) λh =>
 Zh h (K ((.bool Y),H)) (LJ u w z H):=by
 rw[Zfj];simp only[ZiB,Bc,Xz]
def Ziv (h w:AV):Option AV :=
 Z0 (Z8 h Y bf (K w)) λT =>
 Z0 (Z8 h Y bf (Z2 .geq T (.int .u8 48))) λZ =>
 Z0 (Z8 h Y bf (K Z)) λB =>
 Z0 (Z8 B I bf (K w)) λaa =>
 Z0 (Z8 B I bf (Z2 .leq aa (.int .u8 57))) λab =>
 Z0 (Z8 h Y bf (Zm B ab (.bool Y))) λC =>
 Z0 (Zm h (.bool I) C) λj =>
 Z0 (Z8 j Y bf (K w)) λD =>
 Z0 (Z8 j Y bf (Z2 .geq D (.int .u8 97))) λE =>
 Z0 (Z8 j Y bf (K E)) λz =>
 Z0 (Z8 z I bf (K w)) λF =>
 Z0 (Z8 z I bf (Z2 .leq F (.int .u8 122))) λG =>
 Z0 (Z8 j Y bf (Zm z G (.bool Y))) λH =>
 Z0 (Zm j (.bool I) H) λu =>
 Z0 (Z8 u Y bf (K w)) λL =>
 Z0 (Z8 u Y bf (Z2 .geq L (.int .u8 65))) λM =>
 Z0 (Z8 u Y bf (K M)) λA =>
 Z0 (Z8 A I bf (K w)) λN =>
 Z0 (Z8 A I bf (Z2 .leq N (.int .u8 90))) λP =>
 Z0 (Z8 u Y bf (Zm A P (.bool Y))) λR =>
 Z0 (Zm u (.bool I) R) λS =>
 K S
theorem ZfB (A D B:AV)(C H:Hp):aI A D B C H =
 Z0 (Zp A B) λj =>
 Z0 (QF [j] H) λh =>
 Z0 (Ziv h.1 j) λw =>
 Zh w (Z0 ((ZB 1 [(0,j)] [(.int .u8 0)]).map (.vs 1 .clip)) λz=>Z0 (Ya 1 1 D z h.2) λu=>F2 A u.1 B C u.2) (F2 A D B C h.2):=by
 rw[Zjv];simp only[Ziv,Bc,Xz]
def ZlX (h w:AV):Option AV :=
 Z0 (Z8 h Y bf (K w)) λaa =>
 Z0 (Z8 h Y bf (Z2 .geq aa (.int .u8 97))) λab =>
 Z0 (Z8 h Y bf (K ab)) λz =>
 Z0 (Z8 z I bf (K w)) λC =>
 Z0 (Z8 z I bf (Z2 .leq C (.int .u8 122))) λD =>
 Z0 (Z8 h Y bf (Zm z D (.bool Y))) λE =>
 Z0 (Zm h (.bool I) E) λj =>
 Z0 (Z8 j Y bf (K w)) λF =>
 Z0 (Z8 j Y bf (Z2 .geq F (.int .u8 65))) λG =>
 Z0 (Z8 j Y bf (K G)) λA =>
 Z0 (Z8 A I bf (K w)) λH =>
 Z0 (Z8 A I bf (Z2 .leq H (.int .u8 90))) λL =>
 Z0 (Z8 j Y bf (Zm A L (.bool Y))) λM =>
 Z0 (Zm j (.bool I) M) λu =>
 Z0 (Z8 u Y bf (K w)) λN =>
 Z0 (Z8 u Y bf (Z2 .geq N (.int .u8 48))) λP =>
 Z0 (Z8 u Y bf (K P)) λB =>
 Z0 (Z8 B I bf (K w)) λR =>
 Z0 (Z8 B I bf (Z2 .leq R (.int .u8 57))) λS =>
 Z0 (Z8 u Y bf (Zm B S (.bool Y))) λT =>
 Z0 (Zm u (.bool I) T) λZ =>
 K Z
theorem kJ (z A D B E:AV)(C H:Hp):Pu z A D B E C H =
 Z0 (Zp z B) λj =>
 Z0 (Vz [j] H) λh =>
 Z0 (ZlX h.1 j) λw =>
 Zh w (Z0 (byteE.run [A,j] h.2) λu=>QB z A D B C u.2) (QB z A D B C h.2):=by
 rw[Zck];simp only[ZlX,Bc,Xz]
def F4:Option AV->Option Bool
 |some (.bool b)=>K b
 |_=>U
theorem Ud {x:Option AV}{b:Bool}(h:F4 x=K b):x=K (.bool b):=by
 unfold F4 at h;split at h
 ·injection h with h;subst h;rfl
 ·cases h
def ZtW (n:Nat):Bool:=(decide (97<=n)&&decide (n<=122)) || (decide (65<=n)&&decide (n<=90))
def Mv (n:Nat):Bool:=decide (48<=n)&&decide (n<=57)
def WE (n:Nat):Bool:=n==95 || ZtW n || Mv n
theorem ZkI:((yU 256).all λn=>(F4 (SY (.int .u8 (n:Int)) (Q J 1))==K (!WE n))&&(F4 (SY (.int .u8 (n:Int)) (Q J 0))==K (!WE n || Mv n)))=I:=dz
theorem ZrS:((yU 256).all λn=>(F4 (ZiB (.int .u8 (n:Int)))==K (!WE n)))=I:=dz
theorem Oy (b:UInt8):b.toNat<256:=b.toNat_lt
theorem Zex (b:UInt8):SY (.int .u8 b.toNat) (Q J 0)=K (.bool (!WE b.toNat || Mv b.toNat)):=by
 have h:=W2 ZkI (Oy b);simp only[yV,beq_iff_eq]at h;exact Ud h.2
theorem Zij (b:UInt8){i:Int}(hi:(i==0)=Y):SY (.int .u8 b.toNat) (Q J i)=K (.bool (!WE b.toNat)):=by
 have h:=W2 ZkI (Oy b);simp only[yV,beq_iff_eq]at h;rw[<-Ud h.1];have e:Z2 .eql (Q J i) (Q J 0)=Z2 .eql (Q J 1) (Q J 0):=by simp only[Z2,X6,X8,hi];rfl
 unfold SY
 iterate 16 refine congrArg (Z0 _) (funext λt=>?_)
 cases t with
 |bool b =>
  cases b
  ·rfl
  ·simp only[Zn5,Xz,e]
 |_=>rfl
theorem ZuO (b:UInt8):ZiB (.int .u8 b.toNat)=K (.bool (!WE b.toNat)):=by
 have h:=W2 ZrS (Oy b);simp only[beq_iff_eq]at h;exact Ud h
def WG (s:dr):Bool :=
 match s with
 |[]=>Y
 |b::_=>decide (O s<=32)&&!Mv b.toNat&&s.all λc=>WE c.toNat
theorem ZpD (s:dr)(j:O s<=4611686018427387904)(h H:Hp):NR (.str s) h H=K (.bool (!s.isEmpty&&decide (O s<=32)),H):=by
 rw[Zdy]
 cases s with
 |nil=>simp[go_sem,Y1,QC]
 |cons b l =>
  simp only[Y1,QC,go_sem,Zf];have:(!((b::l)==([]:dr)))=I:=rfl;have c:decide (((b::l).length:Int)<=32)=decide ((b::l).length<=32):=by rw[zQ];simp;omega
  simp only[this,go_sem,c,xK,zU,zZ]
theorem Zu9 (s:dr)(C:O s<=4611686018427387904)(w H:Hp):∀ (k i:Nat),O s-i=k->0<i->i<=O s ->
 BP (.str s) (Q J (O s)) (Q J i) w H=K (.bool (((s.drop i).all λc=>WE c.toNat)&&(!s.isEmpty&&decide (O s<=32))),H):=by
 intro k
 induction k with
 |zero =>
  intro i B z hi;rw[Je];have h:decide ((i:Int)<(O s:Int))=Y:=by simp;omega
  have A:s.drop i=[]:=zF.2 X;simp only[go_sem,h,ZpD s C,A,xT,zZ]
 |succ k D =>
  intro i B z hi;rw[Je];have u:i<O s:=X
  have h:decide ((i:Int)<(O s:Int))=I:=by simp;omega
  have hw:wB.wrap ((i:Int)+1)=((i+1:Nat):Int):=by rw[Zl X X];omega
  have j:((i:Int)==0)=Y:=by simp;omega
  simp only[go_sem,h,N9,ZG (zB u),Zij _ j];rw[zG u,xH]
  cases hb:WE s[i].toNat with
  |false=>simp only[go_sem,zU,yF]
  |true =>
   simp only[go_sem,yC,zZ,Sm,hw];exact D (i+1) X X X
theorem Zua (s:dr)(u:O s<=4611686018427387904)(H:Hp):KP [.str s] H=K (.bool (WG s),H):=by
 rw[ZeY];unfold lK;simp only[go_sem,Zf]
 cases s with
 |nil=>rw[Je];simp[go_sem,ZpD [] dh,WG]
 |cons b l =>
  rw[Je];have j:decide ((0:Int)<((b::l).length:Int))=I:=dh
  have hw:wB.wrap ((0:Int)+1)=((0+1:Nat):Int):=di
  have h:Zp (.str (b::l)) (Q J 0)=K (.int .u8 b.toNat):=by simp[Zp]
  simp only[go_sem,j,N9,h,Zex]
  cases hb:(!WE b.toNat || Mv b.toNat) with
  |true =>
   have:WG (b::l)=Y:=by
    unfold WG;simp only[xO,Bool.not_eq_true']at hb;rcases hb with hb|hb <;> simp[hb]
   simp only[go_sem,this]
  |false =>
   simp only[Bool.or_eq_false_iff,Bool.not_eq_false']at hb;simp only[go_sem,Sm,hw];rw[Zu9 (b::l) u H H (O l) 1 dh X dh]
   have:WG (b::l)=(((b::l).drop 1).all (λc=>WE c.toNat)&&(!(b::l).isEmpty&&decide ((b::l).length<=32))):=by
    unfold WG;simp only[hb.1,hb.2,xH,List.drop_one,List.tail_cons,xK,zU,zZ,xI];rw[Bool.and_comm]
   rw[this]
theorem ZrT (s:dr)(B:O s<=4611686018427387904)(u H:Hp):∀ (k i:Nat),O s-i=k->i<=O s ->
 FN (.str s) (Q J i) u H=K (.bool ((s.drop i).all λc=>WE c.toNat),H):=by
 intro k
 induction k with
 |zero =>
  intro i z hi;rw[CY];have h:decide ((i:Int)<(O s:Int))=Y:=by simp;omega
  have w:s.drop i=[]:=zF.2 X;simp only[go_sem,Zf,h,Zfi,w,xT]
 |succ k A =>
  intro i z hi;rw[CY];have j:i<O s:=X
  have h:decide ((i:Int)<(O s:Int))=I:=by simp;omega
  have hw:wB.wrap ((i:Int)+1)=((i+1:Nat):Int):=by rw[Zl X X];omega
  simp only[go_sem,Zf,h,ZaH,ZG (zB j),ZuO];rw[zG j,xH]
  cases hb:WE s[i].toNat with
  |false=>simp only[go_sem,zU,yF]
  |true =>
   simp only[go_sem,yC,zZ,Zfk,hw];exact A (i+1) X X
theorem ZrU (s:dr)(hs:O s<=4611686018427387904)(H:Hp):Jm [.str s] H=K (.bool (WG s),H):=by
 rw[Zgo];unfold Za0;simp only[go_sem,Zf]
 cases s with
 |nil=>simp[go_sem,WG]
 |cons b l =>
  have h0:((((b::l).length:Nat):Int)==0)=Y:=by simp;omega
  have hidx:Zp (.str (b::l)) (Q J 0)=K (.int .u8 b.toNat):=by simp[Zp]
  simp only[go_sem,h0];by_cases h32:32<(b::l).length
  ·have c1:decide ((32:Int)<((b::l).length:Int))=I:=by simp at h32 ⊢;omega
   have    : WG (b :: l) = false := by unfold WG; have : decide ((b :: l).length <= 32) = false := by simp at h32 ⊢; omega
                                       rw[this];rfl
   simp only[go_sem,c1,this]
  ·have c1:decide ((32:Int)<((b::l).length:Int))=Y:=by simp at h32 ⊢;omega
   have c2:decide ((b::l).length<=32)=I:=by simp at h32 ⊢;omega
   have hl:=ZrT (b::l) hs H H (b::l).length 0 dh X;rw[show ((0:Nat):Int)=0 from rfl,zN]at hl;have hn:WG (b::l)=(!Mv b.toNat&&(b::l).all λc=>WE c.toNat):=by unfold WG;simp only[c2,zZ]
   simp only[go_sem,c1,hidx,Zfh,hl,hn];have e1:decide ((48:Int)<=(b.toNat:Int))=decide (48<=b.toNat):=by rw[zQ];simp;omega
   have e2:decide ((b.toNat:Int)<=(57:Int))=decide (b.toNat<=57):=by rw[zQ];simp;omega
   unfold Mv;simp only[e1,e2]
   cases h48:decide (48<=b.toNat) with
   |false=>simp only[go_sem,yF,zU,zZ]
   |true =>
    cases h57:decide (b.toNat<=57) with
    |false=>simp only[go_sem,hidx,e2,h57,zZ,zU]
    |true=>simp only[go_sem,hidx,e2,h57,zZ,yC,yF]
theorem ZkJ (s:dr)(h:O s<=4611686018427387904)(H:Hp):Ze KP [.str s] H=K (.bool (WG s),H):=YG rfl (Zua s h []) rfl
theorem jZ (s:dr)(h:O s<=4611686018427387904)(H:Hp):Ze Jm [.str s] H=K (.bool (WG s),H):=YG rfl (ZrU s h []) rfl
theorem Zqa (a b c d e:AV)(H:Hp):(Z6 0 (.vp [a,b,c,d,e])=K (.vp [a,b,c,d,e]))/\(Z6 1 (.vp [a,b,c,d,e])=K (.vp [b,c,d,e]))/\(Z6 2 (.vp [a,b,c,d,e])=K (.vp [c,d,e]))/\(Z6 3 (.vp [a,b,c,d,e])=K (.vp [d,e])):=⟨rfl,rfl,rfl,rfl⟩
theorem Zhu (a b:AV):(Z6 0 (.vp [a,b])=K (.vp [a,b]))/\(Z6 1 (.vp [a,b])=K (.vp [b])):=⟨rfl,rfl⟩
theorem ZE (a:AV)(l:du)(H:Hp):Z4 Y 1 (.vp (a::l)) H=K a:=dy
theorem P4 (a:AV)(l:du):Xy Y 1 (.vp (a::l))=K a:=dy
theorem Zhx (a b:AV)(H:Hp):Z4 I 2 (.vp [a,b]) H=K (.agg [a,b]):=by simp[Z4,Go.Am.apart]
theorem Zn9 {tok:Tok}{fs:List (Nat×Nat)}{i:Int}{p:Nat×Nat}(j:0<=i)(h:fs[i.toNat]?=K p):Zr 2 (.vs 2 tok (fs.map WL)) (Q J i)=K (.vp [Q J p.1,Q J p.2]):=by
 simp[Zr,j,h,WL,yA]
theorem Zbm (H:Hp)(a b:AV):Zg 2 (.ptr (O H) 0) (.agg [a,b]) (H++[.cells [Q J 0,Q J 0]])=K (.tuple [],H++[.cells [a,b]]):=by
 rw[Uc (sz:=2) (v:=.agg [a,b]) (XY _ _) rfl rfl dh];simp[yA,splice]
theorem ZfX (H:Hp)(l:du)(k:AV->Hp->Z3):XN (.ptr (O H) 0) (H++[.cells l]) k=k (.vp l) (H++[.dead]):=by
 rw[Zia (XY _ _),ZxE]
theorem Oi {j:dr}{f e:Nat}(D:f<=O j)(C:e<=O j)(z H:Hp) :
 Jw (.str j) (Q J (f:Int)) (Q J (e:Int)) z H=K (.str (if e<f then [] else (j.take e).drop f),H):=by
 rw[Zdm];by_cases h:e<=f
 ·have c:decide ((e:Int)<=(f:Int))=I:=by simp;omega
  have u:(if e<f then [] else (j.take e).drop f)=[]:=by
   split
   ·rfl
   ·simp;omega
  simp only[go_sem,c,u]
 ·have c:decide ((e:Int)<=(f:Int))=Y:=by simp;omega
  have w:=VV (s:=j) (n:=(f:Int)) (m:=(e:Int)) .i64 .i64 X X X;have A:((f:Int)).toNat=f:=X
  have B:((e:Int)).toNat=e:=X
  rw[A,B]at w;have u:¬ e<f:=X
  simp only[go_sem,c,Zdn,w,u,if_false]
theorem nC {j:dr}(R:O j<=1048576){k:Ke}(T:KeOk k)(sep:Int)(H:Hp) :
 ∃ H',FA [.str j,.agg k.cells,Q J sep] H=K (.str (ex j (fields j sep) k),H'):=by
 rw[ZeT];unfold lH;have C:ZY (.agg k.cells) H=K (.ptr (O H) 0,H++[.cells k.cells]):=VE rfl;have D:=XY H (.cells k.cells);obtain⟨x',H2,g1,g2,g3⟩:=ZoO R sep (H++[.cells k.cells]);have z:=g3 _ _ D;simp only[Ke.cells]at C D z g1 ⊢;obtain⟨v0,v1,v2,v3⟩:=Zqa (Q J k.ff) (Q J k.fc) (Q J k.tf) (Q J k.tc) (Q J k.fl) H;simp only[C,go_sem,g1,Zia z,v0,v1,ZE,P4,Zu6,g2.len,zL];by_cases N:max k.ff 1<=((fields j sep).length:Int)
 ·have c1:decide (((fields j sep).length:Int)<max k.ff 1)=Y:=by simp;omega
  have ab:=T.ff;have aa:=T.fc;have L:(max k.ff 1-1).toNat<(fields j sep).length:=X
  obtain⟨⟨a,b⟩,F⟩:∃ p,(fields j sep)[(max k.ff 1-1).toNat]?=K p:=⟨_,zB L⟩;obtain⟨r1,r2⟩:=IU j sep _ (xG F);simp only at r1 r2;have w0:wB.wrap (max k.ff 1-1)=max k.ff 1-1:=Zl X X;have w1:wB.wrap (max k.fc 1-1)=max k.fc 1-1:=Zl X X;have w2:wB.wrap ((b:Int)-a)=(b:Int)-a:=Zl X X;have w3:wB.wrap ((a:Int)+min (max k.fc 1-1) ((b:Int)-a))=((Qn a b k:Nat):Int):=by rw[Zl X X];unfold Qn;omega
  have B:Qn a b k<=O j:=by unfold Qn;omega
  rcases g2 with ⟨_,S⟩|⟨tt,te,rfl,_⟩
  ·have:fields j sep=[]:=by simpa using S
   rw[this]at L;simp at L
  have M:=Zn9 (tok:=.own tt te) (fs:=fields j sep) (i:=max k.ff 1-1) X F;obtain⟨u0,u1⟩:=Zhu (Q J (a:Int)) (Q J (b:Int));simp only[c1,go_sem,Zdl,w0,M,Zhx,Zbm,ZfX,u0,u1,P4,ZE,w1,w2,Zig,w3,v2]
  have fin:∀ e:Nat,e<=O j->e=FX j (fields j sep) k->ex j (fields j sep) k=(if e<Qn a b k then [] else (j.take e).drop (Qn a b k)):=by
   intro e _ he;subst he;unfold ex;rw[if_pos N,Cc F]
  by_cases Z:0<k.tf
  ·have c2:decide ((0:Int)<k.tf)=I:=by simp[Z]
   have ad:=T.tf;simp only[c2,go_sem,ZE,zL,v2];by_cases w:k.tf<=((fields j sep).length:Int)
   ·have c3:decide (k.tf<=((fields j sep).length:Int))=I:=by simp[w]
    have P:(k.tf-1).toNat<(fields j sep).length:=X
    obtain⟨⟨A,E⟩,u⟩:∃ p,(fields j sep)[(k.tf-1).toNat]?=K p:=⟨_,zB P⟩;obtain⟨s1,s2⟩:=IU j sep _ (xG u);simp only at s1 s2;have w6:wB.wrap (k.tf-1)=k.tf-1:=Zl X X;have G:=Zn9 (tok:=.own tt te) (fs:=fields j sep) (i:=k.tf-1) X u;obtain⟨t0,t1⟩:=Zhu (Q J (A:Int)) (Q J (E:Int));simp only[c3,go_sem,v2,ZE,w6,G,Zhx,Zbm];have ac:=T.tc;simp only[zH,ZX (XY _ _),zA,zC,go_sem,v3,ZE];by_cases hc:0<k.tc
    ·have c4:decide ((0:Int)<k.tc)=I:=by simp[hc]
     have w4:wB.wrap ((E:Int)-A)=(E:Int)-A:=Zl X X;have w5:wB.wrap ((A:Int)+min k.tc ((E:Int)-A))=((A+(min k.tc ((E:Int)-A)).toNat:Nat):Int):=by rw[Zl X X];omega
     simp only[c4,go_sem,ZfX,t0,t1,P4,ZE,v3,w4,Zig,w5];rw[Oi B X];rw[fin (A+(min k.tc ((E:Int)-A)).toNat) X (by unfold FX;rw[if_pos ⟨Z,w⟩,Cc u];simp[hc])];exact⟨_,rfl⟩
    ·have c4:decide ((0:Int)<k.tc)=Y:=by simp;omega
     simp only[c4,go_sem];rw[Oi B s2];rw[fin E s2 (by unfold FX;rw[if_pos ⟨Z,w⟩,Cc u];simp[hc])];exact⟨_,rfl⟩
   ·have c3:decide (k.tf<=((fields j sep).length:Int))=Y:=by simp;omega
    simp only[c3,go_sem];rw[Oi B (zY _)];rw[fin (O j) (zY _) (by unfold FX;rw[if_neg (λh=>w h.2)])];exact⟨_,rfl⟩
  ·have c2:decide ((0:Int)<k.tf)=Y:=by simp;omega
   simp only[ZE,go_sem,c2];rw[Oi B (zY _)];rw[fin (O j) (zY _) (by unfold FX;rw[if_neg (λh=>Z h.1)])];exact⟨_,rfl⟩
 ·have c1:decide (((fields j sep).length:Int)<max k.ff 1)=I:=by simp;omega
  simp only[c1,go_sem];have:ex j (fields j sep) k=[]:=by unfold ex;rw[if_neg N]
  rw[this];exact⟨_,rfl⟩
def LT {α:Type}(h:α->Option Int)(key:α->dr):List α->List dr->Int
 |[],_=>0
 |c::r,seen=>match h c with
  |some e=>e
  |none=>if seen.contains (key c) then 6 else LT h key r (seen++[key c])
theorem RV {α:Type}(j:α->Option Int)(key:α->dr)(c:α)(r:List α)(h:List dr):LT j key (c::r) h=match j c with
 |some e=>e
 |none=>if h.contains (key c) then 6 else LT j key r (h++[key c]):=dy
def OQ (j:List (AV×AV×Nat))(h:List dr):Prop:=j.map (λe=>(e.1,e.2.1))=h.map λs=>(yZ s,AV.bool I)
theorem Zi1 (k:dr):∀ (w:List (AV×AV×Nat)) (u:List dr) (i:Nat),OQ w u ->
 if u.contains k then ∃ j,X2 (.str k) w i=K (K (j,.bool I)) else X2 (.str k) w i=K U:=by
 intro w
 induction w with
 |nil =>
  intro u i h
  cases u with
  |nil=>simp[X2]
  |cons s r=>simp[OQ]at h
 |cons e w A =>
  intro u i h
  cases u with
  |nil=>simp[OQ]at h
  |cons s r =>
   obtain⟨a,b,c⟩:=e;simp only[OQ,yQ,List.cons.injEq,xR]at h;obtain⟨⟨rfl,rfl⟩,z⟩:=h;have:=A r (i+1) z;simp only[X2,JB,yN]
   cases B:(k==s) with
   |true=>simp
   |false=>simpa using this
theorem Zl0 {H:Hp}{m:Nat}{w:List (AV×AV×Nat)}{c:Nat}{u:List dr}(B:H[m]?=K (.map w c))(C:OQ w u)(k:dr) :
 Yj .string (.bool Y) Y (.map m) (.str k) H=K (.bool (u.contains k)):=by
 have h:=Zi1 k w u 0 C;unfold Yj;simp only[Wr,if_true,Xs,B]
 cases z:u.contains k with
 |true =>
  rw[z]at h;obtain⟨j,A⟩:=h;simp[A]
 |false =>
  rw[z]at h;simp at h;simp[h]
theorem ZnT {H:Hp}{m:Nat}{u:List (AV×AV×Nat)}{c:Nat}{j:List dr}(A:H[m]?=K (.map u c))(w:OQ u j){k:dr}(z:j.contains k=Y) :
 XL .string (.map m) (.str k) (.bool I) H=K (.tuple [],H.set m (.map (u++[(.str k,.bool I,c)]) (c+1)))/\OQ (u++[(.str k,.bool I,c)]) (j++[k]):=by
 have h:=Zi1 k u j 0 w;rw[z]at h;simp at h;constructor
 ·unfold XL;simp only[A,Wr,if_true,h]
 ·unfold OQ at w ⊢;simp[w]
theorem P3 (l:du):Z6 0 (.vp l)=K (.vp l):=by simp[Z6]
def Qk (c:dr×List Int):AV:=.agg (.str c.1::c.2.map (.int .u64))
def HQ (c:dr×List Int):Option Int:=if WG c.1 then U else K 4
def aN (l:List (dr×List Int)):Int:=if 24<O l then 3 else LT HQ zK l []
def Zcu (l:List (dr×List Int)):Prop:=∀ c∈l,O c.2=4/\O c.1<=4611686018427387904
theorem Sl.cls {x:AV}{l:List (dr×List Int)}(h:Sl 5 x (l.map Qk)){i:Nat}{c:dr×List Int}(hi:l[i]?=K c):Zr 5 x (Q J (i:Int))=K (.vp (.str c.1::c.2.map (.int .u64))):=h.idx (c:=Qk c) (by simp[hi])
theorem Ub (n:Nat)(l:du)(h:O l=n)(H:Hp):Z4 I n (.vp l) H=K (.agg l):=by
 subst h;simp[Z4,Go.Am.apart]
theorem HL (H:Hp)(n:Nat)(l z:du)(h:O l=n)(j:O z=n):Zg n (.ptr (O H) 0) (.agg l) (H++[.cells z])=K (.tuple [],H++[.cells l]):=by
 rw[Uc (sz:=n) (v:=.agg l) (XY _ _) rfl h X];simp[yA,splice,j,h]
theorem Zw5 {x:AV}{l:List (dr×List Int)}(h:Sl 5 x (l.map Qk))(hl:O l<=24)(C:Zcu l)(L:Hp)(m:Nat):∀ (k i:Nat) (H:Hp) (A:List (AV×AV×Nat)) (c:Nat),O l-i=k->i<=O l ->
 H[m]?=K (.map A c)->OQ A ((l.take i).map zK) ->
 ∃ H',Vi (.map m) x (Q J (O l:Int)) (Q J (i:Int)) L H=K (Q J (LT HQ zK (l.drop i) ((l.take i).map zK)),H'):=by
 intro k
 induction k with
 |zero =>
  intro i H A c R hi F D;rw[GA];have w:decide ((i:Int)<(O l:Int))=Y:=by simp;omega
  have P:l.drop i=[]:=zF.2 X;simp only[go_sem,w,SR,P];exact⟨_,rfl⟩
 |succ k S =>
  intro i H A c R hi F D;rw[GA];have u:i<O l:=X
  have w:decide ((i:Int)<(O l:Int))=I:=by simp;omega
  have hw:wB.wrap ((i:Int)+1)=((i+1:Nat):Int):=by rw[Zl X X];omega
  obtain⟨M,B⟩:=C l[i] (yL u);have j:(yZ l[i].1::l[i].2.map (zJ .u64)).length=5:=by simp[M]
  have E:=HL H 5 _ [.str [],.int .u64 0,.int .u64 0,.int .u64 0,.int .u64 0] j rfl;simp only[go_sem,w,SU,h.cls (zB u),Ub 5 _ j,E,zH,ZN,zA,ZkJ _ B];rw[zG u,RV];have z:(H++[zD (yZ l[i].1::l[i].2.map (zJ .u64))])[m]?=K (.map A c):=XC F _
  cases hb:WG l[i].1 with
  |false =>
   simp only[go_sem,zU,HQ,hb,zE,if_false];exact⟨_,rfl⟩
  |true =>
   simp only[go_sem,yC,HQ,hb,if_true,SW,zH,ZN,zA,Zl0 z D]
   cases N:((l.take i).map zK).contains l[i].1 with
   |true =>
    simp only[go_sem,if_true];exact⟨_,rfl⟩
   |false =>
    obtain⟨T,Z⟩:=ZnT z D N;simp only[go_sem,zE,if_false,SX,zH,ZN,zA,T,SV,hw]
    have G:(l.take (i+1)).map zK=(l.take i).map zK++[l[i].1]:=by
     rw[yD,zB u,yE];rfl
    rw[<-G];refine S (i+1) _ _ _ X X (Zu _ z) ?_;rw[G];exact Z
theorem Zw6 {x:AV}{l:List (dr×List Int)}(h:Sl 5 x (l.map Qk))(z:Zcu l)(A:O l<=4611686018427387904)(H:Hp):∃ H',Vy [x] H=K (Q J (aN l),H'):=by
 rw[CG];unfold RG aN;have j:=h.len 241;rw[zL]at j;simp only[go_sem,j];by_cases u:24<O l
 ·have w:decide ((24:Int)<(O l:Int))=I:=by simp;omega
  simp only[w,go_sem,u,if_true];exact⟨_,rfl⟩
 ·have w:decide ((24:Int)<(O l:Int))=Y:=by simp;omega
  simp only[w,go_sem,u,if_false,SP,j];have:=Zw5 h X z H (O H) (O l) 0 (H++[.map [] 0]) [] 0 X X (XY H _) rfl;rw[show ((0:Nat):Int)=0 from rfl,zN,yK]at this;exact this
theorem Zz5 {x:AV}{l:List (dr×List Int)}(h:Sl 5 x (l.map Qk))(N:O l<=24)(C H:Hp){i:Nat}{n:dr}{q:List Int}(hi:l[i]?=K (n,q)):∀ (k j:Nat),i-j=k->j<=i ->
 UK x (Q J (i:Int)) (Q J (j:Int)) C H=if (((l.take i).map zK).drop j).contains n then K (Q J 6,H) else G9 x (Q J (i:Int)) C H:=by
 intro k
 have E:i<O l:=by
  rcases xU i (O l) with w|w
  ·exact w
  ·rw[xA w]at hi;cases hi
 induction k with
 |zero =>
  intro j G F;rw[DY];have u:decide ((j:Int)<(i:Int))=Y:=by simp;omega
  have D:((l.take i).map zK).drop j=[]:=zF.2 (by simp;omega);simp only[go_sem,u,D,xL,zE,if_false]
 |succ k M =>
  intro j G F;rw[DY];have A:j<O l:=X
  have u:decide ((j:Int)<(i:Int))=I:=by simp;omega
  have hw:wB.wrap ((j:Int)+1)=((j+1:Nat):Int):=by rw[Zl X X];omega
  have z:((l.take i).map zK).drop j=l[j].1::((l.take i).map zK).drop (j+1):=by
   rw[zG (by simp;omega)];simp
  rw[z,yN];simp only[go_sem,u,OW,h.cls (zB A),h.cls hi,ZE];have L:Y1 .eql (.str l[j].1) (.str n)=K (.bool (l[j].1==n)):=rfl;have B:(n==l[j].1)=(l[j].1==n):=by rw[zQ,beq_iff_eq,beq_iff_eq];exact eq_comm
  simp only[P3,ZE,L,go_sem,B]
  cases hb:(l[j].1==n) with
  |true=>simp only[go_sem,zV,if_true]
  |false =>
   simp only[go_sem,zS,OX,hw];exact M (j+1) X X
theorem Zuv {x:AV}{l:List (dr×List Int)}(h:Sl 5 x (l.map Qk))(F:O l<=24)(B:Zcu l)(C H:Hp):∀ (k i:Nat),O l-i=k->i<=O l ->
 UJ x (Q J (i:Int)) C H=K (Q J (LT HQ zK (l.drop i) ((l.take i).map zK)),H):=by
 have u:=h.len 241;rw[zL]at u;intro k
 induction k with
 |zero =>
  intro i E hi;rw[DX];have w:decide ((i:Int)<(O l:Int))=Y:=by simp;omega
  have D:l.drop i=[]:=zF.2 X;simp only[go_sem,u,w,OS,D];rfl
 |succ k L =>
  intro i E hi;rw[DX];have j:i<O l:=X
  have w:decide ((i:Int)<(O l:Int))=I:=by simp;omega
  have hw:wB.wrap ((i:Int)+1)=((i+1:Nat):Int):=by rw[Zl X X];omega
  obtain⟨M,A⟩:=B l[i] (yL j);simp only[go_sem,u,w,OT,h.cls (zB j),P3,ZE,jZ _ A];rw[zG j,RV]
  cases hb:WG l[i].1 with
  |false=>simp only[go_sem,zU,HQ,hb,zE,if_false]
  |true =>
   have z:=Zz5 h F C H (zB j) i 0 X X;rw[zN,show ((0:Nat):Int)=0 from rfl]at z;simp only[go_sem,yC,HQ,hb,if_true,OV,z]
   have G:(l.take (i+1)).map zK=(l.take i).map zK++[l[i].1]:=by
    rw[yD,zB j,yE];rfl
   cases N:((l.take i).map zK).contains l[i].1 with
   |true=>simp only[if_true]
   |false =>
    simp only[zE,if_false,OU,go_sem,hw];rw[L (i+1) X X,G]
theorem Zuw {x:AV}{l:List (dr×List Int)}(h:Sl 5 x (l.map Qk))(z:Zcu l)(H:Hp):Q7 [x] H=K (Q J (aN l),H):=by
 rw[bM];unfold MD aN;have j:=h.len 241;rw[zL]at j;simp only[go_sem,j];by_cases u:24<O l
 ·have w:decide ((24:Int)<(O l:Int))=I:=by simp;omega
  simp only[w,go_sem,u,if_true]
 ·have w:decide ((24:Int)<(O l:Int))=Y:=by simp;omega
  simp only[w,go_sem,u,if_false,OR];have:=Zuv h X z H H (O l) 0 X X;rw[show ((0:Nat):Int)=0 from rfl,zN,yK]at this;exact this
def Ge (c:dr×Int):AV:=.agg [.str c.1,Q J c.2]
def iI (c:dr×Int):Option Int:=if (O c.1 != 2 || (decide (c.2<0) || decide (65535<c.2)))=I then K 2 else U
def HV (l:List (dr×Int)):Int:=if 64<O l then 3 else LT iI zK l []
def Zcv (l:List (dr×Int)):Prop:=∀ c∈l,O c.1<=4611686018427387904
theorem Sl.els {x:AV}{l:List (dr×Int)}(h:Sl 2 x (l.map Ge)){i:Nat}{c:dr×Int}(hi:l[i]?=K c):Zr 2 x (Q J (i:Int))=K (.vp [.str c.1,Q J c.2]):=h.idx (c:=Ge c) (by simp[hi])
theorem Zht (a:AV)(l:du):Z6 1 (.vp (a::l))=K (.vp l):=by simp[Z6]
theorem Zrh (n:Int)(H:Hp):DR [Q J n] H=K (.bool (!(decide (n<0) || decide (65535<n))),H):=by
 rw[Zj5];unfold ZdG;have h:decide ((0:Int)<=n)=!decide (n<0):=by rw[zQ];simp
 have j:decide (n<=(65535:Int))=!decide (65535<n):=by rw[zQ];simp
 simp only[go_sem,h]
 cases u:decide (n<0) with
 |true=>simp only[go_sem,yC,zV]
 |false=>simp only[go_sem,zU,zS,j]
theorem Zih (n:Int)(H:Hp):Ze DR [Q J n] H=K (.bool (!(decide (n<0) || decide (65535<n))),H):=YG rfl (Zrh n []) rfl
theorem Zwn {x:AV}{l:List (dr×Int)}(h:Sl 2 x (l.map Ge))(hl:O l<=64)(A:Zcv l)(F:Hp)(m:Nat):∀ (k i:Nat) (H:Hp) (z:List (AV×AV×Nat)) (c:Nat),O l-i=k->i<=O l ->
 H[m]?=K (.map z c)->OQ z ((l.take i).map zK) ->
 ∃ H',WV (.map m) x (Q J (O l:Int)) (Q J (i:Int)) F H=K (Q J (LT iI zK (l.drop i) ((l.take i).map zK)),H'):=by
 intro k
 induction k with
 |zero =>
  intro i H z c R hi D B;rw[KW];have u:decide ((i:Int)<(O l:Int))=Y:=by simp;omega
  have P:l.drop i=[]:=zF.2 X;simp only[go_sem,u,LZ,P];exact⟨_,rfl⟩
 |succ k T =>
  intro i H z c R hi D B;rw[KW];have j:i<O l:=X
  have u:decide ((i:Int)<(O l:Int))=I:=by simp;omega
  have hw:wB.wrap ((i:Int)+1)=((i+1:Nat):Int):=by rw[Zl X X];omega
  have S:=A l[i] (yL j);have C:=HL H 2 [.str l[i].1,Q J l[i].2] [.str [],Q J 0] rfl rfl;simp only[go_sem,u,E0,h.els (zB j),Ub 2 [.str l[i].1,Q J l[i].2] rfl,C,zH,ZN,zA,zC,Y0];rw[zG j,RV];have w:(H++[zD [yZ l[i].1,zJ .i64 l[i].2]])[m]?=K (.map z c):=XC D _;have G:((l[i].1.length:Int) != 2)=(l[i].1.length != 2):=by rw[zQ];simp;omega
  rw[G];unfold iI
  cases hb:(l[i].1.length != 2) with
  |true=>simp only[go_sem,zV,if_true];exact⟨_,rfl⟩
  |false =>
  simp only[go_sem,zS,zH,ZN,zA,zC]
  cases L:decide (l[i].2<0) with
  |true=>simp only[go_sem,zV,if_true];exact⟨_,rfl⟩
  |false =>
  simp only[go_sem,zS,zH,ZN,zA,zC]
  cases M:decide (65535<l[i].2) with
  |true=>simp only[go_sem,if_true];exact⟨_,rfl⟩
  |false =>
   simp only[go_sem,zE,if_false,E2,zH,ZN,zA,Zl0 w B]
   cases N:((l.take i).map zK).contains l[i].1 with
   |true =>
    simp only[go_sem,if_true];exact⟨_,rfl⟩
   |false =>
    obtain⟨Z,q2⟩:=ZnT w B N;simp only[go_sem,zE,if_false,E3,zH,ZN,zA,Z,E1,hw]
    have E:(l.take (i+1)).map zK=(l.take i).map zK++[l[i].1]:=by
     rw[yD,zB j,yE];rfl
    rw[<-E];refine T (i+1) _ _ _ X X (Zu _ w) ?_;rw[E];exact q2
theorem Zwo {x:AV}{l:List (dr×Int)}(h:Sl 2 x (l.map Ge))(z:Zcv l)(A:O l<=4611686018427387904)(H:Hp):∃ H',Vf [x] H=K (Q J (HV l),H'):=by
 rw[Sz];unfold DU HV;have j:=h.len 190;rw[zL]at j;simp only[go_sem,j];by_cases u:64<O l
 ·have w:decide ((64:Int)<(O l:Int))=I:=by simp;omega
  simp only[w,go_sem,u,if_true];exact⟨_,rfl⟩
 ·have w:decide ((64:Int)<(O l:Int))=Y:=by simp;omega
  simp only[w,go_sem,u,if_false,LY,j];have:=Zwn h X z H (O H) (O l) 0 (H++[.map [] 0]) [] 0 X X (XY H _) rfl;rw[show ((0:Nat):Int)=0 from rfl,zN,yK]at this;exact this
theorem Zz8 {x:AV}{l:List (dr×Int)}(h:Sl 2 x (l.map Ge))(N:O l<=64)(C H:Hp){i:Nat}{n:dr}{q:Int}(hi:l[i]?=K (n,q)):∀ (k j:Nat),i-j=k->j<=i ->
 VT x (Q J (i:Int)) (Q J (j:Int)) C H=if (((l.take i).map zK).drop j).contains n then K (Q J 6,H) else JY x (Q J (i:Int)) C H:=by
 intro k
 have E:i<O l:=by
  rcases xU i (O l) with w|w
  ·exact w
  ·rw[xA w]at hi;cases hi
 induction k with
 |zero =>
  intro j G F;rw[D8];have u:decide ((j:Int)<(i:Int))=Y:=by simp;omega
  have D:((l.take i).map zK).drop j=[]:=zF.2 (by simp;omega);simp only[go_sem,u,D,xL,zE,if_false]
 |succ k M =>
  intro j G F;rw[D8];have A:j<O l:=X
  have u:decide ((j:Int)<(i:Int))=I:=by simp;omega
  have hw:wB.wrap ((j:Int)+1)=((j+1:Nat):Int):=by rw[Zl X X];omega
  have z:((l.take i).map zK).drop j=l[j].1::((l.take i).map zK).drop (j+1):=by
   rw[zG (by simp;omega)];simp
  rw[z,yN];simp only[go_sem,u,I8,h.els (zB A),h.els hi,ZE];have L:Y1 .eql (.str l[j].1) (.str n)=K (.bool (l[j].1==n)):=rfl;have B:(n==l[j].1)=(l[j].1==n):=by rw[zQ,beq_iff_eq,beq_iff_eq];exact eq_comm
  simp only[P3,ZE,L,go_sem,B]
  cases hb:(l[j].1==n) with
  |true=>simp only[go_sem,zV,if_true]
  |false =>
   simp only[go_sem,zS,I9,hw];exact M (j+1) X X
theorem ZuE {x:AV}{l:List (dr×Int)}(h:Sl 2 x (l.map Ge))(G:O l<=64)(A:Zcv l)(B H:Hp):∀ (k i:Nat),O l-i=k->i<=O l ->
 VS x (Q J (i:Int)) B H=K (Q J (LT iI zK (l.drop i) ((l.take i).map zK)),H):=by
 have u:=h.len 190;rw[zL]at u;intro k
 induction k with
 |zero =>
  intro i F hi;rw[D7];have w:decide ((i:Int)<(O l:Int))=Y:=by simp;omega
  have E:l.drop i=[]:=zF.2 X;simp only[go_sem,u,w,I4,E];rfl
 |succ k N =>
  intro i F hi;rw[D7];have j:i<O l:=X
  have w:decide ((i:Int)<(O l:Int))=I:=by simp;omega
  have hw:wB.wrap ((i:Int)+1)=((i+1:Nat):Int):=by rw[Zl X X];omega
  have L:=A l[i] (yL j);simp only[go_sem,u,w,I5,h.els (zB j),P3,ZE,Y0];rw[zG j,RV];have C:((l[i].1.length:Int) != 2)=(l[i].1.length != 2):=by rw[zQ];simp;omega
  rw[C];unfold iI
  cases hb:(l[i].1.length != 2) with
  |true=>simp only[go_sem,zV,if_true]
  |false =>
  simp only[go_sem,zS,h.els (zB j),Zht,ZE,Zih,xV]
  cases D:(decide (l[i].2<0) || decide (65535<l[i].2)) with
  |true=>simp only[go_sem,if_true]
  |false =>
   have z:=Zz8 h G B H (zB j) i 0 X X;rw[zN,show ((0:Nat):Int)=0 from rfl]at z;simp only[go_sem,zE,if_false,I7,z]
   have M:(l.take (i+1)).map zK=(l.take i).map zK++[l[i].1]:=by
    rw[yD,zB j,yE];rfl
   cases P:((l.take i).map zK).contains l[i].1 with
   |true=>simp only[if_true]
   |false =>
    simp only[zE,if_false,I6,go_sem,hw];rw[N (i+1) X X,M];rfl
theorem ZuF {x:AV}{l:List (dr×Int)}(h:Sl 2 x (l.map Ge))(z:Zcv l)(H:Hp):UG [x] H=K (Q J (HV l),H):=by
 rw[OI];unfold PB HV;have j:=h.len 190;rw[zL]at j;simp only[go_sem,j];by_cases u:64<O l
 ·have w:decide ((64:Int)<(O l:Int))=I:=by simp;omega
  simp only[w,go_sem,u,if_true]
 ·have w:decide ((64:Int)<(O l:Int))=Y:=by simp;omega
  simp only[w,go_sem,u,if_false,I3];have:=ZuE h X z H H (O l) 0 X X;rw[show ((0:Nat):Int)=0 from rfl,zN,yK]at this;exact this
structure Loc where
 name:dr
 w:List Int
 lo:dr
 up:dr
 cls:List (dr×List Int)
 els:List (dr×Int)
def Loc.cells (x c e:AV)(L:Loc):du:=[.str L.name,x,.str L.lo,.str L.up,c,e]
def LocAV (a:AV)(L:Loc):Prop:=∃ x c e,a=.agg (L.cells x c e)/\Sl 1 x (L.w.map (zJ .i64))/\Sl 5 c (L.cls.map Qk)/\Sl 2 e (L.els.map Ge)
structure LocOk (L:Loc):Prop where
 name:O L.name<=4611686018427387904
 w:O L.w<=4611686018427387904
 lo:O L.lo<=4611686018427387904
 up:O L.up<=4611686018427387904
 cls:Zcu L.cls
 els:Zcv L.els
 ncls:O L.cls<=4611686018427387904
 nels:O L.els<=4611686018427387904
theorem IR (c:dr×List Int)(H:Hp)(n f:Nat):Zk H n (f+2) (Qk c)=K (Qk c):=by
 have:(yZ c.1::c.2.map (zJ .u64)).mapM (Zk H n (f+1))=K (yZ c.1::c.2.map (zJ .u64)):=Cd λx hx=>by
  rcases List.mem_cons.1 hx with rfl|hx
  ·rfl
  ·obtain⟨m,_,rfl⟩:=zO.1 hx;rfl
 rw[Qk,F6,this]
theorem iJ (c:dr×Int)(H:Hp)(n f:Nat):Zk H n (f+2) (Ge c)=K (Ge c):=dy
theorem LocAV.close {a:AV}{L:Loc}(h:LocAV a L)(H:Hp)(n f:Nat):∃ a',Zk H n (f+4) a=K a'/\LocAV a' L:=by
 obtain⟨x,c,e,rfl,hx,E,F⟩:=h;obtain⟨D,B,C⟩:=hx.close (H:=H) (n:=n) (f:=f+2) (λy hy=>by obtain⟨m,_,rfl⟩:=zO.1 hy;rfl);obtain⟨c',u,w⟩:=E.close (H:=H) (n:=n) (f:=f+2) (λy hy=>by obtain⟨m,_,rfl⟩:=zO.1 hy;exact IR m H n f);obtain⟨j,z,A⟩:=F.close (H:=H) (n:=n) (f:=f+2) (λy hy=>by obtain⟨m,_,rfl⟩:=zO.1 hy;exact iJ m H n f);refine⟨.agg (L.cells D c' j),?_,D,c',j,rfl,C,w,A⟩
 have:(L.cells x c e).mapM (Zk H n (f+3))=K (L.cells D c' j):=by
  simp only[Loc.cells,xE,B,u,z,yR];rfl
 rw[F6,this]
theorem ZmC {x:AV}{l:List (dr×List Int)}(h:Sl 5 x (l.map Qk))(j:Zcu l)(A:O l<=4611686018427387904)(H:Hp):Ze Vy [x] H=K (Q J (aN l),H)/\Ze Q7 [x] H=K (Q J (aN l),H):=by
 obtain⟨B,u,w⟩:=h.close (H:=[]) (n:=0) (f:=8) (λy hy=>by obtain⟨m,_,rfl⟩:=zO.1 hy;exact IR m [] 0 6);obtain⟨H',z⟩:=Zw6 w j A [];exact⟨YG u z rfl,YG u (Zuw w j []) rfl⟩
theorem ZmQ {x:AV}{l:List (dr×Int)}(h:Sl 2 x (l.map Ge))(j:Zcv l)(A:O l<=4611686018427387904)(H:Hp):Ze Vf [x] H=K (Q J (HV l),H)/\Ze UG [x] H=K (Q J (HV l),H):=by
 obtain⟨B,u,w⟩:=h.close (H:=[]) (n:=0) (f:=8) (λy hy=>by obtain⟨m,_,rfl⟩:=zO.1 hy;exact iJ m [] 0 6);obtain⟨H',z⟩:=Zwo w j A [];exact⟨YG u z rfl,YG u (ZuF w j []) rfl⟩
def Zgk (n:Int):Bool:=decide (n<0) || decide (65535<n)
def kS (L:Loc):Int:=if (aN L.cls != 0)=I then aN L.cls else HV L.els
def Wn (L:Loc):Int :=
 if WG L.name then (if (O L.w != 256 || (O L.lo != 256 || O L.up != 256))=I then 2 else if L.w.any Zgk then 2 else kS L) else 4
theorem Sl.ints {x:AV}{l:List Int}(h:Sl 1 x (l.map (zJ .i64))){i:Nat}(hi:i<O l):Zr 1 x (Q J (i:Int))=K (.vp [Q J l[i]]):=h.idx (c:=Q J l[i]) (by simp[hi])
theorem dV (n:Nat):((n:Int) != 256)=(n != 256):=by rw[zQ];simp;omega
theorem ZtR {x c e:AV}{L:Loc}(hx:Sl 1 x (L.w.map (zJ .i64)))(C:Sl 5 c (L.cls.map Qk))(E:Sl 2 e (L.els.map Ge))(h:LocOk L)(G:O L.w=256)(A H:Hp){o:Nat}(z:H[o]?=K (.cells (L.cells x c e))):∀ (k i:Nat),O L.w-i=k->i<=O L.w ->
 Gz (.ptr o 0) x (Q J (O L.w:Int)) (Q J (i:Int)) A H=K (Q J (if (L.w.drop i).any Zgk then 2 else kS L),H):=by
 intro k
 induction k with
 |zero =>
  intro i F hi;rw[Lh];have j:decide ((i:Int)<(O L.w:Int))=Y:=by simp;omega
  have D:L.w.drop i=[]:=zF.2 X;simp only[go_sem,j,D,xW,zE,if_false,Zc2,zH,ZX z,Loc.cells,zA,zC,(ZmC C h.cls h.ncls H).1];unfold kS
  cases B:(aN L.cls != 0) with
  |true=>simp only[go_sem,if_true]
  |false=>simp only[go_sem,zE,if_false,Zc3,zH,ZX z,Loc.cells,zA,zC,(ZmQ E h.els h.nels H).1]
 |succ k M =>
  intro i F hi;rw[Lh];have u:i<O L.w:=X
  have j:decide ((i:Int)<(O L.w:Int))=I:=by simp;omega
  have hw:wB.wrap ((i:Int)+1)=((i+1:Nat):Int):=by rw[Zl X X];omega
  simp only[go_sem,j,Zc4,hx.ints u,ZE];rw[zG u,xS];unfold Zgk
  cases B:decide (L.w[i]<0) with
  |true=>simp only[go_sem,zV,if_true]
  |false =>
   simp only[go_sem,zS]
   cases N:decide (65535<L.w[i]) with
   |true=>simp only[go_sem,zV,if_true]
   |false =>
    simp only[go_sem,zS,Zc5,hw];exact M (i+1) X X
theorem ZtS {a:AV}{L:Loc}(h:LocAV a L)(u:LocOk L)(H:Hp):∃ H',Bu [a] H=K (Q J (Wn L),H'):=by
 obtain⟨x,c,e,rfl,hx,B,C⟩:=h;rw[ZcU];unfold bW Wn;have j:=hx.len 3;rw[zL]at j;have D:=XY H (.cells (L.cells x c e));simp only[go_sem,zH,ZN,Loc.cells,zA,zC,ZkJ L.name u.name]
 cases G:WG L.name with
 |false=>simp only[go_sem,zU,zE,if_false];exact⟨_,rfl⟩
 |true =>
 simp only[go_sem,yC,if_true,Zc0,zH,ZN,zA,zC,j,dV]
 cases A:(O L.w != 256) with
 |true=>simp only[go_sem,zV,if_true];exact⟨_,rfl⟩
 |false =>
 simp only[go_sem,zS,zH,ZN,zA,zC,Y0,dV]
 cases E:(O L.lo != 256) with
 |true=>simp only[go_sem,zV,if_true];exact⟨_,rfl⟩
 |false =>
 simp only[go_sem,zS,zH,ZN,zA,zC,Y0,dV]
 cases F:(O L.up != 256) with
 |true=>simp only[go_sem,if_true];exact⟨_,rfl⟩
 |false =>
 have z:O L.w=256:=by simpa using A
 have:=ZtR hx B C u z H (H++[.cells (L.cells x c e)]) D (O L.w) 0 X X;rw[show ((0:Nat):Int)=0 from rfl,zN]at this;simp only[Loc.cells]at this;simp only[go_sem,zE,if_false,Zc1,zH,ZN,zA,zC,j,this];exact⟨_,rfl⟩
theorem ZrO {x c e:AV}{L:Loc}(hx:Sl 1 x (L.w.map (zJ .i64)))(C:Sl 5 c (L.cls.map Qk))(E:Sl 2 e (L.els.map Ge))(h:LocOk L)(G:O L.w=256)(A H:Hp){o:Nat}(z:H[o]?=K (.cells (L.cells x c e))):∀ (k i:Nat),256-i=k->i<=256 ->
 Tx (.ptr o 0) (Q J (i:Int)) A H=K (Q J (if (L.w.drop i).any Zgk then 2 else if (O L.lo != 256 || O L.up != 256)=I then 2 else kS L),H):=by
 intro k
 induction k with
 |zero =>
  intro i F hi;rw[IE];have j:decide ((i:Int)<256)=Y:=by simp;omega
  have D:L.w.drop i=[]:=zF.2 X;simp only[go_sem,j,D,xW,zE,if_false,ZgQ,zH,ZX z,Loc.cells,zA,zC,Y0,dV]
  cases N:(O L.lo != 256) with
  |true=>simp only[go_sem,zV,if_true]
  |false =>
  simp only[go_sem,zS,zH,ZX z,Loc.cells,zA,zC,Y0,dV]
  cases P:(O L.up != 256) with
  |true=>simp only[go_sem,if_true]
  |false =>
  simp only[go_sem,zE,if_false,ZgR,zH,ZX z,Loc.cells,zA,zC,(ZmC C h.cls h.ncls H).2];unfold kS
  cases B:(aN L.cls != 0) with
  |true=>simp only[go_sem,if_true]
  |false=>simp only[go_sem,zE,if_false,ZgS,zH,ZX z,Loc.cells,zA,zC,(ZmQ E h.els h.nels H).2]
 |succ k M =>
  intro i F hi;rw[IE];have u:i<O L.w:=X
  have j:decide ((i:Int)<256)=I:=by simp;omega
  have hw:wB.wrap ((i:Int)+1)=((i+1:Nat):Int):=by rw[Zl X X];omega
  simp only[go_sem,j,ZgT,zH,ZX z,Loc.cells,zA,zC,hx.ints u,ZE,Zih,xV];rw[zG u,xS];have e:(decide (L.w[i]<0) || decide (65535<L.w[i]))=Zgk L.w[i]:=rfl;rw[e]
  cases B:Zgk L.w[i] with
  |true=>simp only[go_sem,zV,if_true]
  |false =>
   simp only[go_sem,zS,ZgU,hw];exact M (i+1) X X
theorem ZrP {a:AV}{L:Loc}(h:LocAV a L)(u:LocOk L)(H:Hp):∃ H',M3 [a] H=K (Q J (Wn L),H'):=by
 obtain⟨x,c,e,rfl,hx,B,C⟩:=h;rw[Zj3];unfold ZdE Wn;have j:=hx.len 3;rw[zL]at j;have D:=XY H (.cells (L.cells x c e));simp only[go_sem,zH,ZN,Loc.cells,zA,zC,jZ L.name u.name]
 cases G:WG L.name with
 |false=>simp only[go_sem,zU,zE,if_false];exact⟨_,rfl⟩
 |true =>
 simp only[go_sem,yC,if_true,ZgO,zH,ZN,zA,zC,j,dV]
 cases A:(O L.w != 256) with
 |true=>simp only[go_sem,zV,if_true];exact⟨_,rfl⟩
 |false =>
 have z:O L.w=256:=by simpa using A
 have:=ZrO hx B C u z H (H++[.cells (L.cells x c e)]) D 256 0 X X;rw[show ((0:Nat):Int)=0 from rfl,zN]at this;simp only[Loc.cells]at this;simp only[go_sem,zS,ZgP,this];refine⟨_,congrArg K (Prod.ext (congrArg (zJ .i64) ?_) rfl)⟩;cases E:(O L.lo != 256 || O L.up != 256) <;> cases F:L.w.any Zgk <;> simp
theorem ZkB {a:AV}{L:Loc}(h:LocAV a L)(j:LocOk L)(H:Hp):Ze Bu [a] H=K (Q J (Wn L),H)/\Ze M3 [a] H=K (Q J (Wn L),H):=by
 obtain⟨a',u,w⟩:=h.close [] 0 5;obtain⟨H',A⟩:=ZtS w j [];obtain⟨z,B⟩:=ZrP w j [];exact⟨YG u A rfl,YG u B rfl⟩
set_option maxRecDepth 1000000
def defL:Loc:={
 name:=[112,111,115,105,120]
 w:=(yU 256).map Int.ofNat
 lo:=(yU 256).map λn=>xM (if 65<=n/\n<=90 then n+32 else n)
 up:=(yU 256).map λn=>xM (if 97<=n/\n<=122 then n-32 else n)
 cls:=[]
 els:=[] }
def ZbR:du->Option (List Int)
 |[]=>K []
 |Q J n::r=>match ZbR r with
  |some l=>K (n::l)
  |none=>U
 |_=>U
theorem ZoY:∀ {l:du} {r:List Int},ZbR l=K r->l=r.map (zJ .i64):=by
 intro l
 induction l with
 |nil=>intro r h;simp[ZbR]at h;subst h;rfl
 |cons a l A =>
  intro r h;unfold ZbR at h;split at h
  ·rename_i j;cases j
  ·rename_i n B j;injection j with u w;subst u w;split at h
   ·rename_i m z;injection h with h;subst h;rw[A z];rfl
   ·cases h
  ·cases h
def ZlY (L:Loc)(r:Z3):Bool :=
 match r with
 |some (v,H1)=>match Zk H1 0 9 v with
  |some (.agg [.str n,.vs 1 .no l,.str lo,.str up,.nils,.nils])=>n==L.name&&(ZbR l==K L.w&&(lo==L.lo&&(up==L.up&&(L.cls.isEmpty&&L.els.isEmpty))))
  |_=>Y
 |none=>Y
theorem Zid {f:du->Hp->Z3}{L:Loc}{x:Z3}(hx:ZlY L x=I)(D:∀ r,x=K r->f [] []=K r)(H:Hp):∃ a,Ze f [] H=K (a,H)/\LocAV a L:=by
 unfold ZlY at hx;split at hx
 ·rename_i v H1;split at hx
  ·rename_i n l lo up h;simp only[yV,beq_iff_eq,List.isEmpty_iff]at hx;obtain⟨j,u,w,z,A,B⟩:=hx;have C:=D _ rfl;refine⟨.agg [.str n,.vs 1 .no l,.str lo,.str up,.nils,.nils],?_,.vs 1 .no l,.nils,.nils,?_,.inr ⟨.no,?_⟩,.inl ⟨rfl,by rw[A];rfl⟩,.inl ⟨rfl,by rw[B];rfl⟩⟩
   ·unfold Ze;simp only[yR];show (match f [] [] with|some (v,H1)=>_|none=>_)=_;rw[C];simp only[h]
   ·rw[j,w,z];rfl
   ·rw[ZoY u]
  ·cases hx
 ·cases hx
theorem X7 {α:Type}{x:Option α}{f g:α->Z3}{r:AV×Hp}(h:∀ a,f a=K r->g a=K r):Z0 x f=K r->Z0 x g=K r:=by
 cases x with
 |none=>exact id
 |some a=>exact h a
theorem dX {c:AV}{x y h j:Z3}{r:AV×Hp}(u:x=K r->h=K r)(w:y=K r->j=K r):Zh c x y=K r->Zh c h j=K r:=by
 unfold Zh;split
 ·split
  ·exact u
  ·exact w
 ·exact id
def dfD (k:AV->AV->AV->Hp->Z3)(u z A w B C:AV)(H:Hp):Z3 :=
 Z0 (Z6 1 u) λa =>
 Z0 (Z4 Y 1 a H) λb =>
 Z0 ((ZB 1 [(0,w)] [(Q J 0)]).map (.vs 1 .clip)) λc =>
 Z0 (Ya 1 8 b c H) λd =>
 Z0 (Z6 1 u) λe =>
 Z0 (Zg 1 e d.1 d.2) λf =>
 Z0 ((ZB 1 [(0,B)] [(.int .u8 0)]).map (.vs 1 .clip)) λg =>
 Z0 (Ya 1 1 z g f.2) λh =>
 Z0 ((ZB 1 [(0,C)] [(.int .u8 0)]).map (.vs 1 .clip)) λi =>
 Z0 (Ya 1 1 A i h.2) λj =>
 Z0 (Z2 .add w (Q J 1)) λl =>
 k h.1 j.1 l j.2
def dfC (k:AV->AV->AV->Hp->Z3)(j u w h z A:AV)(H:Hp):Z3 :=
 Z0 (Z2 .geq h (Q J 97)) λa =>
 Z0 (Z8 a I bf (K h)) λb =>
 Z0 (Z8 a I bf (Z2 .leq b (Q J 122))) λc =>
 Z0 (Zm a c (.bool Y)) λd =>
 Zh d (Z0 (Z2 .sub h (Q J 32)) λe=>Z0 (ZS .u8 e) λf=>dfD k j u w h z f H) (dfD k j u w h z A H)
def dfB (k:AV->AV->AV->Hp->Z3)(j u w h:AV)(H:Hp):Z3 :=
 Z0 (ZS .u8 h) λA =>
 Z0 (ZS .u8 h) λz =>
 Z0 (Z2 .geq h (Q J 65)) λa =>
 Z0 (Z8 a I bf (K h)) λb =>
 Z0 (Z8 a I bf (Z2 .leq b (Q J 90))) λc =>
 Z0 (Zm a c (.bool Y)) λd =>
 Zh d (Z0 (Z2 .add h (Q J 32)) λe=>Z0 (ZS .u8 e) λf=>dfC k j u w h f z H) (dfC k j u w h A z H)
def dfA (u j w z:AV)(H:Hp):Z3 :=
 Z0 (XM w H) λa =>
 Z0 (Z6 2 j) λb =>
 Z0 (Zg 1 b a H) λc =>
 Z0 (XM z c.2) λd =>
 Z0 (Z6 3 j) λe =>
 Z0 (Zg 1 e d c.2) λf =>
 Z0 (Z4 I 6 j f.2) λg =>
 Z0 (Zg 6 u g f.2) λh =>
 Z0 (Z4 I 6 u h.2) λi =>
 K (i,h.2)
def dfL (j h:AV):Nat->AV->AV->AV->Hp->Z3
 |0,_,_,_,_=>U
 |n+1,x2,x3,x4,H=>Z0 (Z2 .lss x4 (Q J 256)) λt=>Zh t (dfB (dfL j h n) h x2 x3 x4 H) (dfA j h x2 x3 H)
theorem Ztb {k k':AV->AV->AV->Hp->Z3}{r:AV×Hp}(h:∀ a b c H,k a b c H=K r->k' a b c H=K r)(j u w z A B:AV)(H:Hp):dfD k j u w z A B H=K r->dfD k' j u w z A B H=K r:=by
 unfold dfD;repeat refine X7 λ_=>?_
 exact h _ _ _ _
theorem Zt9 {k k':AV->AV->AV->Hp->Z3}{r:AV×Hp}(h:∀ a b c H,k a b c H=K r->k' a b c H=K r)(j u w z A B:AV)(H:Hp):dfC k j u w z A B H=K r->dfC k' j u w z A B H=K r:=by
 unfold dfC;repeat refine X7 λ_=>?_
 exact dX (X7 λ_=>X7 λ_=>Ztb h _ _ _ _ _ _ _) (Ztb h _ _ _ _ _ _ _)
theorem ZzM {k k':AV->AV->AV->Hp->Z3}{r:AV×Hp}(h:∀ a b c H,k a b c H=K r->k' a b c H=K r)(j u w z:AV)(H:Hp):dfB k j u w z H=K r->dfB k' j u w z H=K r:=by
 unfold dfB;repeat refine X7 λ_=>?_
 exact dX (X7 λ_=>X7 λ_=>Zt9 h _ _ _ _ _ _ _) (Zt9 h _ _ _ _ _ _ _)
theorem ZzO (j u:AV)(B:Hp){r:AV×Hp}:∀ (n:Nat) (w z A:AV) (H:Hp),dfL j u n w z A H=K r->Jr j u w z A B H=K r:=by
 intro n
 induction n with
 |zero=>intro _ _ _ _ h;cases h
 |succ n C =>
  intro w z A H h;rw[Zdb];simp only[Zd6,Zd7,Zd9,Zda,Zd8];exact X7 (λ_=>dX (ZzM (k':=λa b c H=>Jr j u a b c B H) C _ _ _ _ _) id) h
def dfR:Z3 :=
 Z0 ((Yb [(0,1,(.str [112,111,115,105,120]))] [(.str []),.nils,(.str []),(.str []),.nils,.nils]).map .agg) λa =>
 Z0 (Zg 6 (.ptr 1 0) a [.cells [(.str []),.nils,(.str []),(.str []),.nils,.nils],.cells [(.str []),.nils,(.str []),(.str []),.nils,.nils]]) λb =>
 dfL (.ptr 0 0) (.ptr 1 0) 300 .nils .nils (Q J 0) b.2
theorem ZyD:ZlY defL dfR=I:=dz
theorem R2 (H:Hp):∃ a,Ze Q0 [] H=K (a,H)/\LocAV a defL:=Zid ZyD (λr h=>by
 rw[ZeO];unfold lB;simp only[Xz];unfold dfR at h;exact X7 (λ_=>X7 λ_=>ZzO _ _ _ _ _ _ _ _) h) H
def shA (h:AV)(H:Hp):Z3:=Z0 (XM h H) λa=>K (a,H)
def shB (k:AV->Hp->Z3)(z A B w u:AV)(H:Hp):Z3 :=
 Z0 (ZS .u8 u) λa =>
 Z0 (Zr 1 w u) λb =>
 Z0 (Zg 1 b a H) λc =>
 Z0 (ZS .u8 u) λd =>
 Z0 (Z2 .geq d z) λe =>
 Z0 (Z8 e I bf (K u)) λf =>
 Z0 (Z8 e I bf (ZS .u8 f)) λg =>
 Z0 (Z8 e I bf (K A)) λh =>
 Z0 (Z8 e I bf (Z2 .leq g h)) λi =>
 Z0 (Zm e i (.bool Y)) λj =>
 Zh j (Z0 (Z2 .add u B) λl=>Z0 (ZS .u8 l) λm=>Z0 (Zr 1 w u) λn=>Z0 (Zg 1 n m c.2) λo=>Z0 (Z2 .add u (Q J 1)) λp=>k p o.2) (Z0 (Z2 .add u (Q J 1)) λp=>k p c.2)
def shL (u w z j h:AV):Nat->AV->Hp->Z3
 |0,_,_=>U
 |n+1,x12,H=>Z0 (Z2 .lss x12 h) λt=>Zh t (shB (shL u w z j h n) u w z j x12 H) (shA j H)
theorem ZAi (z A B C u:AV)(D:Hp){r:AV×Hp}:∀ (n:Nat) (j:AV) (H:Hp),shL z A B C u n j H=K r->Jg z A B C u j D H=K r:=by
 intro n
 induction n with
 |zero=>intro _ _ h;cases h
 |succ n w =>
  intro j H h;rw[jL];simp only[jI,jJ,jK];refine X7 (λ_=>dX ?_ id) h;unfold shB;repeat refine X7 λ_=>?_
  exact dX (X7 λ_=>X7 λ_=>X7 λ_=>X7 λ_=>X7 λ_=>w _ _) (X7 λ_=>w _ _)
def shR (a b c:AV):Z3 :=
 Z0 (K8 1 1 Y (.int .u8 0) (Q J 256) (Q J 256) []) λr=>Z0 (Zf (.slice 5) r.1) λt=>shL a b c r.1 t 300 (Q J 0) r.2
def Zy8 (s:dr)(r:Z3):Bool:=match r with
 |some (.str t,_)=>t==s
 |_=>Y
theorem ZnU {a b c:AV}{s:dr}(ha:[a,b,c].mapM (Zk [] 0 9)=K [a,b,c])(h:Zy8 s (shR a b c)=I)(H:Hp):Ze V7 [a,b,c] H=K (.str s,H):=by
 unfold Zy8 at h;split at h
 ·rename_i t H1 j;have:=eq_of_beq h;subst this;refine Kg ha (H1:=H1) ?_ rfl;rw[nX];unfold CH;unfold shR at j;exact X7 (λ_=>X7 λ_=>ZAi _ _ _ _ _ _ _ _ _) j
 ·cases h
theorem ZAG (H:Hp):Ze V7 [(.int .u8 65),(.int .u8 90),(Q J 32)] H=K (.str defL.lo,H):=ZnU rfl dz H
theorem ZAH (H:Hp):Ze V7 [(.int .u8 97),(.int .u8 122),(Q J (-32))] H=K (.str defL.up,H):=ZnU rfl dz H
def dgA (h j:AV)(H:Hp):Z3 :=
 Z0 ((Yb [(0,1,(.str [112,111,115,105,120])),(1,1,j),(2,1,.str defL.lo),(3,1,.str defL.up)] [(.str []),.nils,(.str []),(.str []),.nils,.nils]).map .agg) λa =>
 Z0 (Zg 6 h a H) λb=>Z0 (Z4 I 6 h b.2) λc=>K (c,b.2)
def dgL (j h u:AV):Nat->AV->Hp->Z3
 |0,_,_=>U
 |n+1,x6,H=>Z0 (Z2 .lss x6 u) λt=>Zh t (Z0 (Zr 1 h x6) λa=>Z0 (Zg 1 a x6 H) λb=>Z0 (Z2 .add x6 (Q J 1)) λc=>dgL j h u n c b.2) (dgA j h H)
theorem ZzQ (u w z:AV)(A:Hp){r:AV×Hp}:∀ (n:Nat) (j:AV) (H:Hp),dgL u w z n j H=K r->Jd u w z j A H=K r:=by
 intro n
 induction n with
 |zero=>intro _ _ h;cases h
 |succ n B =>
  intro j H h;rw[jH];simp only[jE,jF,jG,ZAG,ZAH,Xz];exact X7 (λ_=>dX (X7 λ_=>X7 λ_=>X7 λ_=>B _ _) id) h
def dgR:Z3 :=
 Z0 (K8 1 8 Y (Q J 0) (Q J 256) (Q J 256) [.cells [(.str []),.nils,(.str []),(.str []),.nils,.nils]]) λr=>Z0 (Zf (.slice 3) r.1) λt=>dgL (.ptr 0 0) r.1 t 300 (Q J 0) r.2
theorem ZyE:ZlY defL dgR=I:=dz
theorem ZmI (H:Hp):∃ a,Ze Ra [] H=K (a,H)/\LocAV a defL:=Zid ZyE (λr h=>by
 rw[nW];unfold CF;simp only[Xz];unfold dgR at h;exact X7 (λ_=>X7 λ_=>ZzQ _ _ _ _ _ _ _) h) H
theorem ZhI:∀ (n:Nat) (l:du),O l=n->Vr Y 1 n l=l:=by
 intro n
 induction n with
 |zero=>intro l h;simp at h;subst h;rfl
 |succ n j =>
  intro l h
  cases l with
  |nil=>simp at h
  |cons a l =>
   have:O l=n:=by simpa using h
   unfold Vr;simp[j l this]
theorem Zww (l:List Int):((l.map (zJ .i64)).map yA).flatten=l.map (zJ .i64):=by
 induction l with
 |nil=>rfl
 |cons a l h=>simp[yA]at h ⊢;exact h
theorem ZvE (h:Nat)(hb:256*(h+1)<=140737488355328)(z:AV)(w:z.known=I)(j:O z.cells=1)(H:Hp):K8 1 h Y z (Q J 256) (Q J 256) H=K (.rs Y 1 (O H) 0 256 256,H++[.cells ((xF 256 z.cells).flatten)]):=by
 have u:Xe 256 h=I:=by simpa[Xe]using hb
 unfold K8;simp only;rw[if_pos ⟨di,di,w,j,di,u⟩,if_neg di];rfl
theorem Zwl {k:Nat}{x:AV}{l:du}(h:Sl k x l)(H:Hp):elems k x H=K l:=by
 rcases h with ⟨rfl,rfl⟩|⟨tok,rfl⟩
 ·rfl
 ·simp[elems]
theorem Zsx {x:AV}{l:List Int}(h:Sl 1 x (l.map (zJ .i64))){H:Hp}{o n:Nat}{z:du}(u:H[o]?=K (.cells z))(A:O z=n)(j:O l=n)(w:0<n) :
 IN 1 (.rs Y 1 o 0 n n) x H=K (Q J n,H.set o (.cells (l.map (zJ .i64)))):=by
 unfold IN;simp only[Zwl h H];rw[if_neg (by intro e;have:=congrArg List.length e;simp at this;simp[this]at j;omega),if_pos (by simp;omega)];simp only[u];rw[if_pos (by simp;omega)];simp only[zL,j,splice,yK,zM,Zww];rw[zF.2 (by simp;omega)];simp
theorem Zt0 (H:Hp)(n f:Nat)(ag:Bool)(k o off len cap:Nat):Zk H n (f+1) (.rs ag k o off len cap)=if o<n then K (.rs ag k o off len cap) else
 match elems k (.rs ag k o off len cap) H with
 |some l=>match l.mapM (Zk H n f) with
  |some l=>K (.vs k .no l)
  |none=>U
 |none=>U:=dy
def Y6 (L:Loc):Loc:=if (Wn L != 0)=I then defL else L
theorem Bi {f:du->Hp->Z3}{a a' v v':AV}{H H1:Hp}(ha:Zk [] 0 9 a=K a')(h:f [a'] []=K (v,H1))(j:Zk H1 0 9 v=K v'):Ze f [a] H=K (v',H):=by
 unfold Ze;simp[ha,h,j]
theorem checked {L:Loc}(h:(Wn L != 0)=Y):O L.w=256/\O L.lo=256/\O L.up=256:=by
 simp only[Wn,bne_eq_false_iff_eq]at h;split at h
 ·split at h
  ·cases h
  ·rename_i j;simp only[xO,bne_iff_ne,ne_eq,not_or,Decidable.not_not]at j;exact j
 ·cases h
theorem O8 {H1:Hp}{x c e h:AV}{L:Loc}(hx:Zk H1 0 8 x=K h)(C:Sl 1 h (L.w.map (zJ .i64)))(D:Sl 5 c (L.cls.map Qk))(E:Sl 2 e (L.els.map Ge)) :
 ∃ a',Zk H1 0 9 (.agg (L.cells x c e))=K a'/\LocAV a' L:=by
 obtain⟨c',u,z⟩:=D.close (H:=H1) (n:=0) (f:=7) (λy hy=>by obtain⟨m,_,rfl⟩:=zO.1 hy;exact IR m H1 0 5);obtain⟨j,A,B⟩:=E.close (H:=H1) (n:=0) (f:=7) (λy hy=>by obtain⟨m,_,rfl⟩:=zO.1 hy;exact iJ m H1 0 5);refine⟨.agg (L.cells h c' j),?_,h,c',j,rfl,C,z,B⟩
 have:(L.cells x c e).mapM (Zk H1 0 8)=K (L.cells h c' j):=by
  simp only[Loc.cells,xE,hx,u,A,yR];rfl
 rw[F6,this]
theorem ZiS {a:AV}{L:Loc}(h:LocAV a L)(ae:LocOk L)(H:Hp):∃ a',Ze Ui [a] H=K (a',H)/\LocAV a' (Y6 L):=by
 obtain⟨a1,h1,h2⟩:=h.close [] 0 5;have D:=λH=>(ZkB h2 ae H).1;obtain⟨x,c,e,rfl,hx,hc,he⟩:=h2;obtain⟨d,N,P⟩:=ZmI [zD (L.cells x c e),.cells [(.str []),.nils,(.str []),(.str []),.nils,.nils]];unfold Y6
 cases hb:(Wn L != 0) with
 |true =>
  obtain⟨B,u,A,rfl,T,R,S⟩:=P
  have j:Ui [.agg (L.cells x c e)] []=K (.agg (defL.cells B u A),[zD (L.cells x c e),.cells (defL.cells B u A)]):=by
   rw[Eh];unfold NA;have hl:Z4 I 6 (.ptr 0 0) [zD (L.cells x c e),.cells [(.str []),.nils,(.str []),(.str []),.nils,.nils]]=K (.agg (L.cells x c e)):=by simp[Z4,Go.Am.apart,Loc.cells]
   have ai:Zg 6 (.ptr 1 0) (.agg (defL.cells B u A)) [zD (L.cells x c e),.cells [(.str []),.nils,(.str []),(.str []),.nils,.nils]]=K (.tuple [],[zD (L.cells x c e),.cells (defL.cells B u A)]):=by simp[Zg,YE,yP,yA,Loc.cells,splice]
   have ab:Z4 I 6 (.ptr 1 0) [zD (L.cells x c e),.cells (defL.cells B u A)]=K (.agg (defL.cells B u A)):=by simp[Z4,Go.Am.apart,Loc.cells]
   simp only[go_sem,zM,zI,zW,yB,zH,hl,D,hb,N,ai,ab]
  obtain⟨aj,F,G⟩:=T.close (H:=[zD (L.cells x c e),.cells (defL.cells B u A)]) (n:=0) (f:=7) (λy hy=>by obtain⟨m,_,rfl⟩:=zO.1 hy;rfl);obtain⟨a',q1,q2⟩:=O8 F G R S;exact⟨a',Bi h1 j q1,by simpa using q2⟩
 |false =>
  obtain⟨hw,ak,al⟩:=checked hb
  have j:Ui [.agg (L.cells x c e)] []=K (.agg (L.cells (.rs Y 1 2 0 256 256) c e),[zD (L.cells (.rs Y 1 2 0 256 256) c e),.cells (L.cells (.rs Y 1 2 0 256 256) c e),.cells (L.w.map (zJ .i64))]):=by
   rw[Eh];unfold NA;have hl:Z4 I 6 (.ptr 0 0) [zD (L.cells x c e),.cells [(.str []),.nils,(.str []),(.str []),.nils,.nils]]=K (.agg (L.cells x c e)):=by simp[Z4,Go.Am.apart,Loc.cells]
   have C:=ZvE 8 di (Q J 0) rfl rfl [zD (L.cells x c e),.cells [(.str []),.nils,(.str []),(.str []),.nils,.nils]];have M:((xF 256 (zJ .i64 0).cells).flatten).length=256:=by simp[yA]
   generalize ((xF 256 (zJ .i64 0).cells).flatten)=z at C M;simp only[zW,zI,yB,zM]at C;have aa:Z4 Y 1 (.ptr 0 1) [zD (L.cells x c e),.cells [(.str []),.nils,(.str []),(.str []),.nils,.nils],.cells z]=K x:=by simp[Z4,Go.Am.apart,Loc.cells]
   have E:=Zsx hx (H:=[zD (L.cells x c e),.cells [(.str []),.nils,(.str []),(.str []),.nils,.nils],.cells z]) (o:=2) rfl M hw X;simp only[List.set_cons_succ,List.set_cons_zero]at E;have ag:Zg 1 (.ptr 0 1) (.rs Y 1 2 0 256 256) [zD (L.cells x c e),.cells [(.str []),.nils,(.str []),(.str []),.nils,.nils],.cells (L.w.map (zJ .i64))]=K (.tuple [],[zD (L.cells (.rs Y 1 2 0 256 256) c e),.cells [(.str []),.nils,(.str []),(.str []),.nils,.nils],.cells (L.w.map (zJ .i64))]):=by simp[Zg,YE,yP,yA,Loc.cells,splice]
   have ac:Z4 I 6 (.ptr 0 0) [zD (L.cells (.rs Y 1 2 0 256 256) c e),.cells [(.str []),.nils,(.str []),(.str []),.nils,.nils],.cells (L.w.map (zJ .i64))]=K (.agg (L.cells (.rs Y 1 2 0 256 256) c e)):=by simp[Z4,Go.Am.apart,Loc.cells]
   have ah:Zg 6 (.ptr 1 0) (.agg (L.cells (.rs Y 1 2 0 256 256) c e)) [zD (L.cells (.rs Y 1 2 0 256 256) c e),.cells [(.str []),.nils,(.str []),(.str []),.nils,.nils],.cells (L.w.map (zJ .i64))]=K (.tuple [],[zD (L.cells (.rs Y 1 2 0 256 256) c e),.cells (L.cells (.rs Y 1 2 0 256 256) c e),.cells (L.w.map (zJ .i64))]):=by simp[Zg,YE,yP,yA,Loc.cells,splice]
   have ad:Z4 I 6 (.ptr 1 0) [zD (L.cells (.rs Y 1 2 0 256 256) c e),.cells (L.cells (.rs Y 1 2 0 256 256) c e),.cells (L.w.map (zJ .i64))]=K (.agg (L.cells (.rs Y 1 2 0 256 256) c e)):=by simp[Z4,Go.Am.apart,Loc.cells]
   simp only[go_sem,zM,zI,zW,yB,zH,hl,D,hb,Zc6,C,aa,E,ag,ac,ah,ad]
  have af:Zk [zD (L.cells (.rs Y 1 2 0 256 256) c e),.cells (L.cells (.rs Y 1 2 0 256 256) c e),.cells (L.w.map (zJ .i64))] 0 8 (.rs Y 1 2 0 256 256)=K (.vs 1 .no (L.w.map (zJ .i64))):=by
   have Z:elems 1 (.rs Y 1 2 0 256 256) [zD (L.cells (.rs Y 1 2 0 256 256) c e),.cells (L.cells (.rs Y 1 2 0 256 256) c e),.cells (L.w.map (zJ .i64))]=K (L.w.map (zJ .i64)):=by
    simp[elems,hw];exact ZhI 256 _ (by simp[hw])
   rw[Zt0,if_neg X,Z];simp only;rw[Cd (λy hy=>by obtain⟨m,_,rfl⟩:=zO.1 hy;rfl)]
  obtain⟨a',q1,q2⟩:=O8 af (.inr ⟨.no,rfl⟩) hc he;exact⟨a',Bi h1 j q1,by simpa using q2⟩
theorem ZeG {a:AV}{L:Loc}(h:LocAV a L)(R:LocOk L)(H:Hp):∃ a',Ze G1 [a] H=K (a',H)/\LocAV a' (Y6 L):=by
 obtain⟨a1,h1,h2⟩:=h.close [] 0 5;have C:=λH=>(ZkB h2 R H).2;obtain⟨x,c,e,rfl,hx,hc,he⟩:=h2;obtain⟨d,F,G⟩:=R2 [zD (L.cells x c e),.cells [(.str []),.nils,(.str []),(.str []),.nils,.nils]];unfold Y6;have hl:Z4 I 6 (.ptr 0 0) [zD (L.cells x c e),.cells [(.str []),.nils,(.str []),(.str []),.nils,.nils]]=K (.agg (L.cells x c e)):=by simp[Z4,Go.Am.apart,Loc.cells]
 cases hb:(Wn L != 0) with
 |true =>
  obtain⟨z,u,w,rfl,P,M,N⟩:=G
  have j:G1 [.agg (L.cells x c e)] []=K (.agg (defL.cells z u w),[zD (L.cells x c e),.cells (defL.cells z u w)]):=by
   rw[bN];unfold OJ;have B:Zg 6 (.ptr 1 0) (.agg (defL.cells z u w)) [zD (L.cells x c e),.cells [(.str []),.nils,(.str []),(.str []),.nils,.nils]]=K (.tuple [],[zD (L.cells x c e),.cells (defL.cells z u w)]):=by simp[Zg,YE,yP,yA,Loc.cells,splice]
   have A:Z4 I 6 (.ptr 1 0) [zD (L.cells x c e),.cells (defL.cells z u w)]=K (.agg (defL.cells z u w)):=by simp[Z4,Go.Am.apart,Loc.cells]
   simp only[go_sem,zM,zI,zW,yB,zH,hl,C,hb,F,B,A]
  obtain⟨aa,D,E⟩:=P.close (H:=[zD (L.cells x c e),.cells (defL.cells z u w)]) (n:=0) (f:=7) (λy hy=>by obtain⟨m,_,rfl⟩:=zO.1 hy;rfl);obtain⟨a',Z,q2⟩:=O8 D E M N;exact⟨a',Bi h1 j Z,by simpa using q2⟩
 |false =>
  have j:G1 [.agg (L.cells x c e)] []=K (.agg (L.cells x c e),[zD (L.cells x c e),.cells (L.cells x c e)]):=by
   rw[bN];unfold OJ;have B:Zg 6 (.ptr 1 0) (.agg (L.cells x c e)) [zD (L.cells x c e),.cells [(.str []),.nils,(.str []),(.str []),.nils,.nils]]=K (.tuple [],[zD (L.cells x c e),.cells (L.cells x c e)]):=by simp[Zg,YE,yP,yA,Loc.cells,splice]
   have A:Z4 I 6 (.ptr 1 0) [zD (L.cells x c e),.cells (L.cells x c e)]=K (.agg (L.cells x c e)):=by simp[Z4,Go.Am.apart,Loc.cells]
   simp only[go_sem,zM,zI,zW,yB,zH,hl,C,hb,Zh1,B,A]
  obtain⟨x',S,T⟩:=hx.close (H:=[zD (L.cells x c e),.cells (L.cells x c e)]) (n:=0) (f:=7) (λy hy=>by obtain⟨m,_,rfl⟩:=zO.1 hy;rfl);obtain⟨a',Z,q2⟩:=O8 S T hc he;exact⟨a',Bi h1 j Z,by simpa using q2⟩
def UW (b:UInt8):AV:=.int .u8 b.toNat
def Vu (t s:dr):dr:=s.map λb=>t.getD b.toNat 0
theorem Zeq:∀ s:dr,V8 (s.map UW)=K s:=by
 intro s
 induction s with
 |nil=>rfl
 |cons b l h =>
  show (match V8 (l.map UW) with|some l=>K (xM (b.toNat:Int).toNat::l)|none=>U)=_;rw[h];simp
theorem ZpN {t:dr}(h:O t=256)(b:UInt8):Zp (.str t) (.int .u8 b.toNat)=K (.int .u8 (t.getD b.toNat 0).toNat):=by
 have hb:b.toNat<O t:=by rw[h];exact b.toNat_lt
 simp[Zp,zB hb,yO]
theorem ZAn (o e n:Nat){i:Nat}(hi:i<n):Zr 1 (.ws Y 1 o e n) (Q J (i:Int))=K (.wp o e i):=by
 simp[Zr,hi]
theorem ZuQ (e:Nat)(l:du)(i:Nat):Z4 Y 1 (.wp 0 e i) [yG e l]=l[i]?:=by simp[Z4,Go.Am.apart]
theorem ZrZ (e:Nat)(l:du){i:Nat}(hi:i<O l)(v:AV)(h:v.known=I)(j:O v.cells=1):Zg 1 (.wp 0 e i) v [yG e l]=K (.tuple [],[yG e (splice l i v.cells)]):=by
 unfold Zg YE;simp only[zA];rw[if_pos ⟨trivial,h,j,X⟩];rfl
theorem Zrn (a:du)(x y:AV)(b:du):splice (a++x::b) (O a) [y]=a++y::b:=by
 unfold splice;simp
theorem Zp2 {t:dr}(E:O t=256)(s:dr)(G:O s<=4611686018427387904)(B:Hp):∀ (r done:dr),s=done++r ->
 Ko (.str t) (.ws Y 1 0 0 (O s)) (Q J (O s:Int)) (Q J (O done:Int)) B [yG 0 ((Vu t done).map UW++r.map UW)]=K (.str (Vu t s),[yG 0 ((Vu t s).map UW)]):=by
 intro r
 induction r with
 |nil =>
  intro done w;obtain rfl:done=s:=by rw[w,zT]
  rw[N8];have h:decide ((O done:Int)<(O done:Int))=Y:=dh
  have z:Qm (.ws Y 1 0 0 (O done)) [yG 0 ((Vu t done).map UW)]=K ((Vu t done).map UW):=by
   simp[Qm,elems,Vu];exact ZhI _ _ dh
  have D:XM (.ws Y 1 0 0 (O done)) [yG 0 ((Vu t done).map UW)]=K (.str (Vu t done)):=by
   unfold XM;simp only[Ql,z,Zeq]
  simp only[go_sem,h,oX,xX,zT,D]
 |cons b r F =>
  intro done w;rw[N8];have C:O done<O s:=by rw[w];simp
  have h:decide ((O done:Int)<(O s:Int))=I:=by simp;omega
  have hw:wB.wrap ((O done:Int)+1)=((O done+1:Nat):Int):=by rw[Zl X X];omega
  have u:((Vu t done).map UW).length=O done:=by simp[Vu]
  have j:((Vu t done).map UW++(b::r).map UW)[O done]?=K (.int .u8 b.toNat):=by
   rw[zX X,u];simp[UW]
  have A:Zg 1 (.wp 0 0 (O done)) (.int .u8 (t.getD b.toNat 0).toNat) [yG 0 ((Vu t done).map UW++(b::r).map UW)]=K (.tuple [],[yG 0 ((Vu t (done++[b])).map UW++r.map UW)]):=by
   rw[ZrZ 0 _ (by simp[Vu]) _ rfl rfl];have:=Zrn ((Vu t done).map UW) (UW b) (.int .u8 (t.getD b.toNat 0).toNat) (r.map UW);rw[u]at this;simp only[yQ,yA];rw[this];simp[Vu,UW]
  have:=F (done++[b]) (by rw[w];simp);rw[zP,zR]at this;simp only[go_sem,h,oY,ZAn 0 0 (O s) C,ZuQ,j,ZpN E,A,oZ,hw];exact this
theorem Zp1 {t:dr}(u:O t=256)(s:dr)(j:O s<=4611686018427387904)(H:Hp):Ze Tf [.str t,.str s] H=K (.str (Vu t s),H):=by
 refine Xn (a':=.str t) (b':=.str s) (H1:=[yG 0 ((Vu t s).map UW)]) rfl rfl ?_ rfl;rw[Zaa];unfold Is;have:=Zp2 u s j [] s [] rfl;simp only[zI,Vu,xX,zM]at this;have e:SM (.str s) []=K (.ws Y 1 0 0 (O s),[yG 0 (s.map UW)]):=rfl;have h:Zf (.slice 5) (.ws Y 1 0 0 (O s))=K (Q J (O s)):=rfl;simp only[e,h,go_sem];exact this
theorem Zun (b:UInt8):(ZB 1 [(0,zJ .u8 b.toNat)] [(.int .u8 0)]).map (AV.vs 1 .clip)=K (.vs 1 .clip [UW b]):=rfl
theorem ZpJ {n:Nat}{H:Hp}{x:AV}{s:dr}(h:RowN n H 1 x (s.map UW)):XM x H=K (.str s):=by
 rcases h with ⟨rfl,h⟩|⟨t,e,rfl,_⟩
 ·have:s=[]:=by cases s with
   |nil=>rfl
   |cons a l=>simp at h
  subst this;rfl
 ·unfold XM Ql;simp only[if_true,Zeq]
theorem ZnL {t:dr}(A:O t=256)(s:dr)(E:O s<=1048576)(u:Hp):∀ (r done:dr) (x:AV) (H:Hp),s=done++r->RowN 0 H 1 x ((Vu t done).map UW) ->
 ∃ H',FP (.str t) (.str s) x (Q J (O done:Int)) u H=K (.str (Vu t s),H'):=by
 intro r
 induction r with
 |nil =>
  intro done x H j hx;rw[zT]at j;subst j;rw[H9];have h:decide ((O s:Int)<(O s:Int))=Y:=dh
  simp only[go_sem,Y0,h,Zfm,ZpJ hx];exact⟨_,rfl⟩
 |cons b r B =>
  intro done x H j hx;rw[H9];have D:O done<O s:=by rw[j];simp
  have h:decide ((O done:Int)<(O s:Int))=I:=by simp;omega
  have hw:wB.wrap ((O done:Int)+1)=((O done+1:Nat):Int):=by rw[Zl X X];omega
  have hb:s[O done]?=K b:=by rw[j,zX X];simp
  obtain⟨C,H',w,z,_,_,_⟩:=hx.app (xB _) 1 (.vs 1 .clip [UW (t.getD b.toNat 0)]) [UW (t.getD b.toNat 0)] (by simp[elems]) (by simp[Vu];omega);simp only[go_sem,Y0,h,Zfn,ZG hb,ZpN A,Zun,w,Zfo,hw];have:=B (done++[b]) C H' (by rw[j];simp) (by simpa[Vu]using z);rw[zP,zR]at this;exact this
theorem ZnK {t:dr}(u:O t=256)(s:dr)(j:O s<=1048576)(H:Hp):Ze Cj [.str t,.str s] H=K (.str (Vu t s),H):=by
 obtain⟨H',h⟩:=ZnL u s j [] s [] .nils [] rfl (RowN.nil 0 [] 1);refine Xn (a':=.str t) (b':=.str s) (H1:=H') rfl rfl ?_ rfl;rw[Zgq];unfold Za1;exact h
theorem Zpv:O defL.up=256/\O defL.w=256:=⟨by simp[defL],by simp[defL]⟩
theorem Zl8 (L:Loc):(Y6 L).up.length=256:=by
 unfold Y6
 cases h:(Wn L != 0) with
 |true=>exact Zpv.1
 |false=>exact (checked h).2.2
theorem kZ (L:Loc):(Y6 L).w.length=256:=by
 unfold Y6
 cases h:(Wn L != 0) with
 |true=>exact Zpv.2
 |false=>exact (checked h).1
def upS (L:Loc)(s:dr):dr:=Vu (Y6 L).up s
theorem ZiN {a:AV}{L:Loc}(h:LocAV a L)(u:LocOk L)(s:dr)(F:O s<=1048576)(H:Hp):Ze Nx [a,.str s] H=K (.str (upS L s),H)/\Ze OF [a,.str s] H=K (.str (upS L s),H):=by
 obtain⟨M,D,z⟩:=h.close [] 0 5;have G:=λH=>ZiS z u H;have B:=λH=>ZeG z u H;obtain⟨x,c,e,rfl,hx,N,P⟩:=z;have E:Z4 I 6 (.ptr 0 0) [zD (L.cells x c e)]=K (.agg (L.cells x c e)):=by simp[Z4,Go.Am.apart,Loc.cells]
 constructor
 ·obtain⟨v,j,C,w,ev,rfl,_⟩:=G [zD (L.cells x c e)];have A:Cb Y 1 3 (.agg ((Y6 L).cells C w ev))=K (.str (Y6 L).up):=rfl;refine Xn D (b':=.str s) rfl (H1:=[zD (L.cells x c e)]) ?_ rfl;rw[ZcV];unfold bY;simp only[go_sem,zM,zI,E,j,A,Zp1 (Zl8 L) s X];rfl
 ·obtain⟨v,j,C,w,ev,rfl,_⟩:=B [zD (L.cells x c e)];have A:Cb Y 1 3 (.agg ((Y6 L).cells C w ev))=K (.str (Y6 L).up):=rfl;refine Xn D (b':=.str s) rfl (H1:=[zD (L.cells x c e)]) ?_ rfl;rw[Zj4];unfold ZdF;simp only[go_sem,zM,zI,E,j,A,ZnK (Zl8 L) s F];rfl
theorem ZsR {α:Type}{j:α->Option Int}{key:α->dr}(hb:∀ c e,j c=K e->e≠0){l:List α}(h:LT j key l []=0):∀ i,i<=O l->LT j key (l.drop i) ((l.take i).map key)=0:=by
 intro i
 induction i with
 |zero=>intro _;simpa using h
 |succ i z =>
  intro hi;have:=z X;rw[zG X,RV]at this
  cases u:j l[i] with
  |some e=>rw[u]at this;exact absurd this (hb _ _ u)
  |none =>
   rw[u]at this;simp only at this;split at this
   ·cases this
   ·have w:(l.take (i+1)).map key=(l.take i).map key++[key l[i]]:=by
     rw[yD,zB X,yE];rfl
    rw[w];exact this
theorem Zw3 {α:Type}{j:α->Option Int}{key:α->dr}(hb:∀ c e,j c=K e->e≠0){l:List α}(h:LT j key l []=0){i:Nat}(hi:i<O l):((l.take i).map key).contains (key l[i])=Y:=by
 have:=ZsR hb h i X;rw[zG X,RV]at this
 cases u:j l[i] with
 |some e=>rw[u]at this;exact absurd this (hb _ _ u)
 |none =>
  rw[u]at this;simp only at this;split at this
  ·cases this
  ·rename_i w;exact Bool.eq_false_iff.2 w
theorem Zwk:∀ c e,iI c=K e->e≠0:=by
 intro c e h;unfold iI at h;split at h
 ·injection h with h;omega
 ·cases h
def Zm3 (l:List (dr×Int)):Prop:=∀ i (hi:i<O l),((l.take i).map zK).contains l[i].1=Y
theorem ZiR (L:Loc):Zm3 (Y6 L).els:=by
 unfold Y6
 cases h:(Wn L != 0) with
 |true=>intro i hi;simp[defL]at hi
 |false =>
  simp only[Wn,bne_eq_false_iff_eq]at h
  have:HV L.els=0:=by
   split at h
   ·split at h
    ·cases h
    ·split at h
     ·cases h
     ·unfold kS at h;split at h
      ·rename_i j;simp[h]at j
      ·exact h
   ·cases h
  unfold HV at this;split at this
  ·cases this
  ·intro i hi;exact Zw3 (key:=zK) Zwk this hi
def CP (h:List (AV×AV×Nat))(l:List (dr×Int)):Prop:=h.map (λe=>(e.1,e.2.1))=l.map λe=>(yZ e.1,zJ .i64 e.2)
theorem Zks (k:dr):∀ (u:List (AV×AV×Nat)) (l:List (dr×Int)) (i:Nat),CP u l ->
 match l.find? (λe=>e.1==k) with
 |some e=>∃ j,X2 (.str k) u i=K (K (j,Q J e.2))
 |none=>X2 (.str k) u i=K U:=by
 intro u
 induction u with
 |nil =>
  intro l i h
  cases l with
  |nil=>simp[X2]
  |cons s r=>simp[CP]at h
 |cons e u A =>
  intro l i h
  cases l with
  |nil=>simp[CP]at h
  |cons s r =>
   obtain⟨a,b,c⟩:=e;simp only[CP,yQ,List.cons.injEq,xR]at h;obtain⟨⟨rfl,rfl⟩,z⟩:=h;have:=A r (i+1) z;have w:(k==s.1)=(s.1==k):=by rw[zQ,beq_iff_eq,beq_iff_eq];exact eq_comm
   simp only[X2,JB,xP,w]
   cases B:(s.1==k) with
   |true=>exact⟨i,rfl⟩
   |false=>exact this
theorem Zwm {H:Hp}{m:Nat}{u:List (AV×AV×Nat)}{c:Nat}{l:List (dr×Int)}(A:H[m]?=K (.map u c))(B:CP u l)(k:dr) :
 Yj .string (Q J 0) I (.map m) (.str k) H=K (match l.find? (λe=>e.1==k) with|some e=>.tuple [Q J e.2,.bool I]|none=>.tuple [Q J 0,.bool Y]):=by
 have h:=Zks k u l 0 B;unfold Yj;simp only[Wr,if_true,Xs,A]
 cases w:l.find? (λe=>e.1==k) with
 |some e =>
  rw[w]at h;obtain⟨j,z⟩:=h;simp[z]
 |none =>
  rw[w]at h;simp at h;simp[h]
theorem Ztw {l:List (dr×Int)}{k:dr}(h:(l.map zK).contains k=Y):l.find? (λe=>e.1==k)=U:=by
 rw[List.find?_eq_none];intro e he hk;have:k∈l.map zK:=zO.2 ⟨e,he,by simpa using hk⟩;simp at h
 exact h e.2 (by have : e.1 = k := by simpa using hk
                 subst this;exact he)
theorem ZyG {H:Hp}{m:Nat}{j:List (AV×AV×Nat)}{c:Nat}{l:List (dr×Int)}(z:H[m]?=K (.map j c))(u:CP j l){e:dr×Int}(w:(l.map zK).contains e.1=Y) :
 XL .string (.map m) (.str e.1) (Q J e.2) H=K (.tuple [],H.set m (.map (j++[(.str e.1,Q J e.2,c)]) (c+1)))/\CP (j++[(.str e.1,Q J e.2,c)]) (l++[e]):=by
 have h:=Zks e.1 j l 0 u;rw[Ztw w]at h;constructor
 ·unfold XL;simp only[z,Wr,if_true,h]
 ·unfold CP at u ⊢;simp[u]
theorem Zwj {x:AV}{l:List (dr×Int)}(h:Sl 2 x (l.map Ge))(C:Zm3 l)(hl:O l<=1048576)(L M:AV)(G:Hp):∀ (k i:Nat) (H:Hp) (A:List (AV×AV×Nat)) (c:Nat),O l-i=k->i<=O l ->
 H[2]?=K (.map A c)->CP A (l.take i)->3<=O H ->
 ∃ H' j c',BN L M (.ptr 1 0) (.map 2) x (Q J (O l:Int)) (Q J (i:Int)) G H=NQ L M (.ptr 1 0) (.map 2) G H'/\H'[0]?=H[0]?/\H'[1]?=H[1]?/\H'[2]?=K (.map j c')/\CP j l/\3<=O H':=by
 intro k
 induction k with
 |zero =>
  intro i H A c hk hi E D u;rw[Sk];have z:decide ((i:Int)<(O l:Int))=Y:=by simp;omega
  simp only[go_sem,z];exact⟨H,A,c,rfl,rfl,rfl,E,by rw[List.take_of_length_le X]at D;exact D,u⟩
 |succ k ih =>
  intro i H A c hk hi E D u;rw[Sk];have w:i<O l:=X
  have z:decide ((i:Int)<(O l:Int))=I:=by simp;omega
  have hw:wB.wrap ((i:Int)+1)=((i+1:Nat):Int):=by rw[Zl X X];omega
  have F:=HL H 2 [.str l[i].1,Q J l[i].2] [.str [],Q J 0] rfl rfl;have B:(H++[zD [yZ l[i].1,zJ .i64 l[i].2]])[2]?=K (.map A c):=XC E _;obtain⟨q1,q2⟩:=ZyG B D (e:=l[i]) (C i w);simp only[go_sem,z,Zdw,h.els (zB w),Ub 2 [.str l[i].1,Q J l[i].2] rfl,F,zH,ZN,zA,zC,q1,Zdx,hw];have ht:l.take (i+1)=l.take i++[l[i]]:=by rw[yD,zB w];rfl
  obtain⟨H',j,c',N,P,R,S,T,Z⟩:=ih (i+1) _ _ _ X X (Zu _ B) (by rw[ht];exact q2) (by simp;omega);refine⟨H',j,c',N,?_,?_,S,T,Z⟩
  ·rw[P,yH X,yS X]
  ·rw[R,yH X,yS X]
def nL (L:Loc)(b:UInt8):Int:=L.w.getD b.toNat 0
def wS (L:Loc):dr->List Int
 |[]=>[]
 |[b]=>[nL L b]
 |b::c::r=>match L.els.find? (λe=>e.1==[b,c]) with
  |some e=>e.2::wS L r
  |none=>nL L b::wS L (c::r)
theorem eJ (n:Int):(ZB 1 [(0,zJ .i64 n)] [(Q J 0)]).map (AV.vs 1 .clip)=K (.vs 1 .clip [Q J n]):=rfl
theorem QO {s:dr}{i j:Nat}(h:i<=j)(z:j<=O s):ZR (.str s) (K (Q J (i:Int))) (K (Q J (j:Int))) U=K (.str ((s.take j).drop i)):=by
 have u:Xd (Q J (j:Int)) (O s)=K j:=by simp[Xd,z]
 have w:Xd (Q J (i:Int)) j=K i:=by simp[Xd,h]
 unfold ZR Bb Yy;simp only[u,w]
theorem Zya {x:AV}{L:Loc}(h:Sl 1 x (L.w.map (zJ .i64)))(hw:O L.w=256)(b:UInt8):Zr 1 x (.int .u8 b.toNat)=K (.vp [Q J (nL L b)]):=by
 have hb:b.toNat<O L.w:=by rw[hw];exact b.toNat_lt
 rcases h with ⟨rfl,h⟩|⟨tok,rfl⟩
 ·simp at h;simp[h]at hb
 ·simp[Zr,zB hb,nL,yO,yA]
structure WSt (L:Loc)(x c e:AV)(es:List (AV×AV×Nat))(acc:List Int)(H:Hp):Prop where
 out:∃ y,H[0]?=K (.cells [y])/\RowN 3 H 1 y (acc.map (zJ .i64))
 loc:H[1]?=K (.cells (L.cells x c e))
 mp:∃ k,H[2]?=K (.map es k)
 len:3<=O H
theorem Zpu {L:Loc}{x c e:AV}{E:List (AV×AV×Nat)}{j:List Int}{H:Hp}(h:WSt L x c e E j H)(hl:O j<=1048576)(t:AV)(w:Int) :
 ∃ H',YJ cfg (Za cfg) (.fn (.func 121) [] [.ptr 0 0]) [t,Q J w] H=K (.bool I,H')/\WSt L x c e E (j++[w]) H':=by
 obtain⟨⟨y,F,T⟩,M,⟨k,N⟩,P⟩:=h;obtain⟨u,H1,G,D,e3,A,e5⟩:=T.app P 8 (.vs 1 .clip [Q J w]) [Q J w] (by simp[elems]) (by simp;omega);have z:H1[0]?=K (.cells [y]):=by rw[A 0 X];exact F
 have C:Zg 1 (.ptr 0 0) u H1=K (.tuple [],H1.set 0 (.cells [u])):=by
  have B:u.known=I/\u.cells=[u]:=by
   rcases D with ⟨rfl,_⟩|⟨t,e,rfl,_⟩ <;> exact⟨rfl,rfl⟩
  rw[Uc (sz:=1) z B.1 (by rw[B.2];rfl) dh];rw[B.2];rfl
 refine⟨H1.set 0 (.cells [u]),?_,⟨⟨u,Zu _ z,?_⟩,?_,⟨k,?_⟩,by simp;omega⟩⟩
 ·rw[gU];show JT [t,Q J w,.ptr 0 0] H=_;rw[AZ];unfold Tj;simp only[ZX F,zA,go_sem,eJ,G,C]
 ·rcases D with ⟨rfl,R⟩|⟨t,e,rfl,Z,S⟩
  ·exact .inl ⟨rfl,by rw[yE];exact R⟩
  ·exact .inr ⟨t,e,dh,YX _ X Z,S⟩
 ·rw[yH X,A 1 X];exact M
 ·rw[yH X,A 2 X];exact N
theorem Zth {L:Loc}{x c e:AV}(hx:Sl 1 x (L.w.map (zJ .i64)))(hw:O L.w=256){E:List (AV×AV×Nat)}(Z:CP E L.els)(s:dr)(hs:O s<=1048576)(H0:Hp):∀ (n:Nat) (done r:dr) (h:List Int) (H:Hp),O r<=n->s=done++r->O h<=O done->WSt L x c e E h H ->
 ∃ H',BM (.str s) (.fn (.func 121) [] [.ptr 0 0]) (.ptr 1 0) (.map 2) (Q J (O done:Int)) H0 H=K (.tuple [],H')/\WSt L x c e E (h++wS L r) H':=by
 intro n
 induction n with
 |zero =>
  intro done r h H hr u ha j;have:r=[]:=yI.1 X;subst this;rw[zT]at u;subst u;rw[DG];have z:decide ((O s:Int)<(O s:Int))=Y:=dh
  simp only[go_sem,Y0,z];exact⟨H,rfl,by simpa[wS]using j⟩
 |succ n ih =>
  intro done r h H hr u ha j
  cases r with
  |nil =>
   rw[zT]at u;subst u;rw[DG];have z:decide ((O s:Int)<(O s:Int))=Y:=dh
   simp only[go_sem,Y0,z];exact⟨H,rfl,by simpa[wS]using j⟩
  |cons b r =>
   have hl:O done<O s:=by rw[u];simp
   have C:O s=O done+(O r+1):=by rw[u];simp
   have z:decide ((O done:Int)<(O s:Int))=I:=by simp;omega
   have M:wB.wrap ((O done:Int)+1)=((O done+1:Nat):Int):=by rw[Zl X X];omega
   have N:wB.wrap ((O done:Int)+2)=((O done+2:Nat):Int):=by rw[Zl X X];omega
   have hb:s[O done]?=K b:=by rw[u,zX X];simp
   have aa:(s.take (O done+1)).drop (O done)=[b]:=by rw[u,yW];simp
   have one:∀ H,WSt L x c e E h H->∃ H',JC (.str s) (.fn (.func 121) [] [.ptr 0 0]) (.ptr 1 0) (.map 2) (Q J (O done:Int)) (.str [b]) (Q J (nL L b)) H0 H=K (.tuple [],H')/\WSt L x c e E (h++nL L b::wS L r) H':=by
    intro H j;obtain⟨H1,R,S⟩:=Zpu j X (.str [b]) (nL L b);obtain⟨P,F,T⟩:=ih (done++[b]) r (h++[nL L b]) H1 (by simp at hr;omega) (by rw[u];simp) (by simp;omega) S;rw[zP,zR]at F;rw[Si];have A:(([b]:dr).length:Int)=1:=rfl;simp only[R,go_sem,Sj,Y0,A,M,F];exact⟨P,rfl,by simpa using T⟩
   rw[DG];obtain⟨⟨y,h0,G⟩,h1,⟨k,h2⟩,h3⟩:=j;have j:WSt L x c e E h H:=⟨⟨y,h0,G⟩,h1,⟨k,h2⟩,h3⟩;simp only[go_sem,Y0,z,Zdv,M,QO (Nat.le_succ _) (show O done+1<=O s by omega),aa,zH,ZX h1,Loc.cells,zA,zC,ZG hb,Zya hx hw,ZE,N]
   cases r with
   |nil =>
    have B:decide (((O done+2:Nat):Int)<=(O s:Int))=Y:=by simp at C ⊢;omega
    simp only[B,go_sem];have:=one H j;simpa[wS]using this
   |cons D r =>
    have B:decide (((O done+2:Nat):Int)<=(O s:Int))=I:=by simp at C ⊢;omega
    have ab:(s.take (O done+2)).drop (O done)=[b,D]:=by rw[u,yW];simp
    simp only[B,go_sem,QO (show O done<=O done+2 by omega) (show O done+2<=O s by simp at C;omega),ab,Zwm h2 Z];unfold wS
    cases hf:L.els.find? (λe=>e.1==[b,D]) with
    |none =>
     simp only[go_sem,zA,zC];exact one H j
    |some el =>
     simp only[go_sem,zA,zC];obtain⟨H1,R,S⟩:=Zpu j X (.str [b,D]) el.2;obtain⟨P,F,T⟩:=ih (done++[b,D]) r (h++[el.2]) H1 (by simp at hr;omega) (by rw[u];simp) (by simp;omega) S;rw[zP,show ([b,D]:dr).length=2 from rfl]at F;rw[Si];have A:(([b,D]:dr).length:Int)=2:=rfl;simp only[R,go_sem,Sj,Y0,A,N,F];exact⟨P,rfl,by simpa using T⟩
def LocCells (l:du)(L:Loc):Prop:=∃ x c e,l=L.cells x c e/\Sl 1 x (L.w.map (zJ .i64))/\Sl 5 c (L.cls.map Qk)/\Sl 2 e (L.els.map Ge)
theorem LocCells.close {l:du}{L:Loc}(h:LocCells l L)(H:Hp)(n f:Nat):∃ D,l.mapM (Zk H n (f+3))=K D/\LocCells D L:=by
 obtain⟨x,c,e,rfl,hx,F,G⟩:=h;obtain⟨E,A,B⟩:=hx.close (H:=H) (n:=n) (f:=f+2) (λy hy=>by obtain⟨m,_,rfl⟩:=zO.1 hy;rfl);obtain⟨c',j,u⟩:=F.close (H:=H) (n:=n) (f:=f+2) (λy hy=>by obtain⟨m,_,rfl⟩:=zO.1 hy;exact IR m H n f);obtain⟨C,w,z⟩:=G.close (H:=H) (n:=n) (f:=f+2) (λy hy=>by obtain⟨m,_,rfl⟩:=zO.1 hy;exact iJ m H n f);refine⟨L.cells E c' C,?_,E,c',C,rfl,B,u,z⟩;simp only[Loc.cells,xE,A,j,w,yR];rfl
theorem Qj (H:Hp)(n f:Nat)(l:du):Zk H n (f+1) (.vp l)=match l.mapM (Zk H n f) with
 |some l=>K (.vp l)
 |none=>U:=dy
theorem RX {f:du->Hp->Z3}{a a' b b' v v':AV}{H H1:Hp}(ha:Zk [] 0 9 a=K a')(hb:Zk [] 0 9 b=K b')(h:f [a',b'] []=K (v,H1))(j:Zk H1 0 9 v=K v'):Ze f [a,b] H=K (v',H):=by
 unfold Ze;simp[ha,hb,h,j]
theorem RowN.close {n:Nat}{H:Hp}{x:AV}{l:List Int}(h:RowN n H 1 x (l.map (zJ .i64)))(H1:Hp):∃ j,Zk H1 0 9 x=K j/\Sl 1 j (l.map (zJ .i64)) :=
 h.sl.close (f:=8) (λy hy=>by obtain⟨m,_,rfl⟩:=zO.1 hy;rfl)
theorem Zcr {l:du}{L:Loc}(h:LocCells l L)(hw:O L.w=256)(u:Zm3 L.els)(T:O L.els<=1048576)(s:dr)(Z:O s<=1048576)(H:Hp) :
 ∃ v,Ze Q9 [.str s,.vp l] H=K (v,H)/\Sl 1 v ((wS L s).map (zJ .i64)):=by
 obtain⟨l',S,x,c,e,rfl,hx,hc,F⟩:=h.close [] 0 5;have z:Zk [] 0 9 (.vp l)=K (.vp (L.cells x c e)):=by rw[Qj,S]
 have j:=F.len 190;rw[zL]at j;obtain⟨H1,R,k,G,q2,q3,q4,q5,q6⟩:=Zwj F u T (.str s) (.fn (.func 121) [] [.ptr 0 0]) [zD [.nils]] (O L.els) 0 [zD [.nils],.cells (L.cells x c e),.map [] 0] [] 0 X X rfl rfl dh;rw[show ((0:Nat):Int)=0 from rfl]at G;have B:WSt L x c e R [] H1:=⟨⟨.nils,by rw[q2];rfl,RowN.nil _ _ _⟩,by rw[q3];rfl,⟨k,q4⟩,q6⟩;obtain⟨E,M,⟨⟨y,q8,N⟩,_,_,_⟩⟩:=Zth hx hw q5 s Z [zD [.nils]] (O s) [] s [] H1 (zY _) rfl dh B;rw[zI,show ((0:Nat):Int)=0 from rfl]at M;rw[zM]at N;obtain⟨v,C,D⟩:=N.close E;refine⟨v,RX (a':=.str s) rfl z ?_ C,D⟩;rw[bX];unfold MJ
 have P:Lw [.agg (L.cells x c e),.str s,.fn (.func 121) [] [.ptr 0 0]] [zD [.nils]]=K (.tuple [],E):=by
  rw[ZeX];unfold lJ;have A:Z4 Y 1 (.ptr 1 5) [zD [.nils],.cells (L.cells x c e),.map [] 0]=K e:=by simp[Z4,Go.Am.apart,Loc.cells]
  simp only[go_sem,zW,zI,yB,zM,zH,A,j,G,Zdu,M]
 simp only[go_sem,zI,zM,Ub 6 (L.cells x c e) rfl,P,ZX q8,zA]
def JD (r:dr)(e:dr×Int):Bool :=
 match r with
 |b::c::_=>e.1==[b,c]
 |_=>Y
def Pk (r:dr):List (dr×Int)->Nat->Int
 |[],_=>-1
 |e::l,k=>if JD r e then (k:Int) else Pk r l (k+1)
theorem Ztv {x c e:AV}{L:Loc}(P:Sl 2 e (L.els.map Ge))(hl:O L.els<=1048576)(s done r:dr)(hs:O s<=1048576)(B:s=done++r)(R H:Hp){o:Nat}(G:H[o]?=K (.cells (L.cells x c e))):∀ (n k:Nat),O L.els-k=n->k<=O L.els ->
 Md (.str s) (Q J (O done:Int)) (.ptr o 0) (Q J (k:Int)) R H=K (Q J (Pk r (L.els.drop k) k),H):=by
 have u:=P.len 190;rw[zL]at u;have h:O s=O done+O r:=by rw[B];simp
 have D:wB.wrap ((O done:Int)+2)=((O done+2:Nat):Int):=by rw[Zl X X];omega
 intro n
 induction n with
 |zero =>
  intro k T S;rw[cN];have z:decide ((k:Int)<(O L.els:Int))=Y:=by simp;omega
  have E:L.els.drop k=[]:=zF.2 X;simp only[go_sem,zH,ZX G,Loc.cells,zA,zC,u,z,Zjm,E];rfl
 |succ n Z =>
  intro k T S;rw[cN];have C:k<O L.els:=X
  have z:decide ((k:Int)<(O L.els:Int))=I:=by simp;omega
  have A:wB.wrap ((k:Int)+1)=((k+1:Nat):Int):=by rw[Zl X X];omega
  rw[zG C];simp only[go_sem,zH,ZX G,Loc.cells,zA,zC,u,z,Zjn,D,Y0];have w:=Z (k+1) X X
  match r,B,h,w with
  |[],B,h,w =>
   have j:decide (((O done+2:Nat):Int)<=(O s:Int))=Y:=by simp at h ⊢;omega
   simp only[j,go_sem,ND,A,w];simp[Pk,JD]
  |[b],B,h,w =>
   have j:decide (((O done+2:Nat):Int)<=(O s:Int))=Y:=by simp at h ⊢;omega
   simp only[j,go_sem,ND,A,w];simp[Pk,JD]
  |b::b2::r,B,h,w =>
   have j:decide (((O done+2:Nat):Int)<=(O s:Int))=I:=by simp at h ⊢;omega
   have M:(s.take (O done+2)).drop (O done)=[b,b2]:=by rw[B,yW];simp
   have N:Y1 .eql (.str [b,b2]) (.str L.els[k].1)=K (.bool (JD (b::b2::r) L.els[k])):=by
    show K (AV.bool ([b,b2]==L.els[k].1))=K (.bool (L.els[k].1==[b,b2]));congr 2;rw[zQ,beq_iff_eq,beq_iff_eq];exact eq_comm
   simp only[j,go_sem,QO (show O done<=O done+2 by omega) (show O done+2<=O s by simp at h;omega),M,zH,D,ZX G,Loc.cells,zA,zC,P.els (zB C),P3,ZE,N];have F:Pk (b::b2::r) (L.els[k]::L.els.drop (k+1)) k=if JD (b::b2::r) L.els[k] then (k:Int) else Pk (b::b2::r) (L.els.drop (k+1)) (k+1):=rfl;rw[F]
   cases hm:JD (b::b2::r) L.els[k] with
   |true=>simp only[go_sem,if_true]
   |false=>simp only[go_sem,zE,if_false,ND,A,w]
theorem Zo6 (L:Loc)(b c:UInt8)(r:dr):wS L (b::c::r)=match L.els.find? (JD (b::c::r)) with
 |some e=>e.2::wS L r
 |none=>nL L b::wS L (c::r):=dy
theorem Ztu {a:AV}{L:Loc}(h:LocAV a L)(A:O L.els<=1048576)(s done r:dr)(B:O s<=1048576)(w:s=done++r)(H:Hp):Ze Su [a,.str s,Q J (O done:Int)] H=K (Q J (Pk r L.els 0),H):=by
 obtain⟨C,u,x,c,e,rfl,hx,D,z⟩:=h.close [] 0 5
 have j:Su [.agg (L.cells x c e),.str s,Q J (O done:Int)] []=K (Q J (Pk r L.els 0),[zD (L.cells x c e)]):=by
  rw[Zla];unfold Zgp;have:=Ztv (x:=x) (c:=c) z A s done r B w [] [zD (L.cells x c e)] (o:=0) rfl (O L.els) 0 X X;rw[zN,show ((0:Nat):Int)=0 from rfl]at this;simp only[go_sem,zI,zM,this]
 exact Kg (args':=[.agg (L.cells x c e),.str s,Q J (O done:Int)]) (by simp[u];rfl) j rfl
theorem ZqY (r:dr):∀ (l:List (dr×Int)) (k:Nat),match l.find? (JD r) with
 |some e=>∃ i,Pk r l k=((k+i:Nat):Int)/\l[i]?=K e
 |none=>Pk r l k=-1:=by
 intro l
 induction l with
 |nil=>intro k;rfl
 |cons e l j =>
  intro k;rw[xP];unfold Pk
  cases A:JD r e with
  |true=>exact⟨0,dh,rfl⟩
  |false =>
   have:=j (k+1);simp only
   cases h:l.find? (JD r) with
   |none=>rw[h]at this;simpa using this
   |some z =>
    rw[h]at this;obtain⟨i,u,w⟩:=this;exact⟨i+1,by simp only[zE,if_false];rw[u];congr 1;omega,by simpa using w⟩
theorem ZlN {x c e:AV}{L:Loc}(hx:Sl 1 x (L.w.map (zJ .i64)))(hc:Sl 5 c (L.cls.map Qk))(he:Sl 2 e (L.els.map Ge))(hw:O L.w=256)(hl:O L.els<=1048576)(s:dr)(hs:O s<=1048576)(H0:Hp):∀ (n:Nat) (done r:dr) (h:List Int) (y:AV) (H:Hp),O r<=n->s=done++r->O h<=O done->H[0]?=K (.cells (L.cells x c e))->1<=O H->RowN 1 H 1 y (h.map (zJ .i64)) ->
 ∃ D H',Js (.str s) (.ptr 0 0) y (Q J (O done:Int)) H0 H=K (D,H')/\RowN 1 H' 1 D ((h++wS L r).map (zJ .i64)):=by
 intro n
 induction n with
 |zero =>
  intro done r h y H hr z ha M E j;have:r=[]:=yI.1 X;subst this;rw[zT]at z;subst z;rw[Dw];have B:decide ((O s:Int)<(O s:Int))=Y:=dh
  simp only[go_sem,Y0,B,Ex];exact⟨y,H,rfl,by simpa[wS]using j⟩
 |succ n ih =>
  intro done r h y H hr z ha M E j
  cases r with
  |nil =>
   rw[zT]at z;subst z;rw[Dw];have B:decide ((O s:Int)<(O s:Int))=Y:=dh
   simp only[go_sem,Y0,B,Ex];exact⟨y,H,rfl,by simpa[wS]using j⟩
  |cons b r =>
   have ad:O done<O s:=by rw[z];simp
   have ae:O s=O done+(O r+1):=by rw[z];simp
   have B:decide ((O done:Int)<(O s:Int))=I:=by simp;omega
   have ab:wB.wrap ((O done:Int)+1)=((O done+1:Nat):Int):=by rw[Zl X X];omega
   have ac:wB.wrap ((O done:Int)+2)=((O done+2:Nat):Int):=by rw[Zl X X];omega
   have hb:s[O done]?=K b:=by rw[z,zX X];simp
   have aa:LocAV (.agg (L.cells x c e)) L:=⟨x,c,e,rfl,hx,hc,he⟩;have hf:=Ztu aa hl s done (b::r) hs z H;have N:Z4 I 6 (.ptr 0 0) H=K (.agg (L.cells x c e)):=by rw[Wg M];simp[Go.Am.apart,Loc.cells]
   have app:∀ w:Int,∃ D H',Ya 1 8 y (.vs 1 .clip [Q J w]) H=K (D,H')/\RowN 1 H' 1 D ((h++[w]).map (zJ .i64))/\1<=O H'/\H'[0]?=K (.cells (L.cells x c e)):=λw=>by
    obtain⟨D,H',P,R,S,Z,G⟩:=j.app E 8 (.vs 1 .clip [Q J w]) [Q J w] (by simp[elems]) (by simp;omega);exact⟨D,H',P,by simpa using R,S,G _ _ M⟩
   rw[Dw];simp only[go_sem,Y0,B,Zdd,N,hf];have u:=ZqY (b::r) L.els 0
   cases A:L.els.find? (JD (b::r)) with
   |none =>
    rw[A]at u;simp only at u
    have F:wS L (b::r)=nL L b::wS L r:=by
     cases r with
     |nil=>rfl
     |cons T r =>
      rw[Zo6,A]
    obtain⟨D,H',P,R,S,Z⟩:=app (nL L b);obtain⟨y2,H2,G,q6⟩:=ih (done++[b]) r (h++[nL L b]) D H' (by simp at hr;omega) (by rw[z];simp) (by simp;omega) Z S R;rw[zP,zR]at G;have C:decide ((-1:Int)<0)=I:=rfl;rw[u,F];simp only[go_sem,C,zH,ZX M,Loc.cells,zA,zC,ZG hb,Zya hx hw,ZE,eJ,P,ab,G];exact⟨y2,H2,rfl,by simpa using q6⟩
   |some el =>
    rw[A]at u;simp only at u;obtain⟨i,q7,q8⟩:=u
    cases r with
    |nil =>
     have:=List.find?_some A;simp[JD]at this
    |cons T r =>
     have F:wS L (b::T::r)=el.2::wS L r:=by
      rw[Zo6,A]
     obtain⟨D,H',P,R,S,Z⟩:=app el.2;obtain⟨y2,H2,G,q6⟩:=ih (done++[b,T]) r (h++[el.2]) D H' (by simp at hr;omega) (by rw[z];simp) (by simp;omega) Z S R;rw[zP,show ([b,T]:dr).length=2 from rfl]at G;rw[q7,F,zH];have C:decide ((i:Int)<0)=Y:=dh
     simp only[go_sem,C,zH,ZX M,Loc.cells,zA,zC,he.els q8,Zht,ZE,eJ,P,ac,G];exact⟨y2,H2,rfl,by simpa using q6⟩
theorem nK {a:AV}{L:Loc}(h:LocAV a L)(hw:O L.w=256)(C:O L.els<=1048576)(s:dr)(D:O s<=1048576)(H:Hp) :
 ∃ v,Ze Fy [a,.str s] H=K (v,H)/\Sl 1 v ((wS L s).map (zJ .i64)):=by
 obtain⟨G,z,x,c,e,rfl,hx,A,B⟩:=h.close [] 0 5;obtain⟨M,H',j,u⟩:=ZlN hx A B hw C s D [] (O s) [] s [] .nils [zD (L.cells x c e)] (zY _) rfl dh rfl dh (RowN.nil _ _ _);rw[zI,show ((0:Nat):Int)=0 from rfl]at j;rw[zM]at u;obtain⟨v,E,F⟩:=u.close H';refine⟨v,RX z (b':=.str s) rfl ?_ E,F⟩;rw[ZeP];unfold lC;simp only[go_sem,zI,zM,j]
set_option linter.unusedSectionVars false
def W6:List Int->List Int->Int
 |[],[]=>0
 |[],_::_=>-1
 |_::_,[]=>1
 |a::l,b::m=>if a<b then -1 else if b<a then 1 else W6 l m
theorem Qv (a b:Int)(l m:List Int):W6 (a::l) (b::m)=if a<b then -1 else if b<a then 1 else W6 l m:=dy
theorem ZkO {l m:List Int}(h:l=[]\/m=[]):W6 l m=if O l<O m then -1 else if O m<O l then 1 else 0:=by
 rcases h with rfl|rfl
 ·cases m <;> simp[W6]
 ·cases l <;> simp[W6]
theorem ZfP:∀ a b:dr,W6 (a.map λc=>(c.toNat:Int)) (b.map λc=>(c.toNat:Int))=QI a b:=by
 intro a
 induction a with
 |nil=>intro b;cases b <;> simp[W6,QI]
 |cons x a A =>
  intro b
  cases b with
  |nil=>simp[W6,QI]
  |cons y b =>
   simp only[yQ,Qv,QI];by_cases h:x=y
   ·subst h;simp[A b]
   ·have z:x.toNat≠y.toNat:=λe=>h (UInt8.toNat_inj.1 e);by_cases j:x<y
    ·have:(x.toNat:Int)<y.toNat:=by have:=xC.1 j;omega
     simp[h,j,this]
    ·have u:¬ (x.toNat:Int)<y.toNat:=by
      intro B;exact j (xC.2 X)
     have w:(y.toNat:Int)<x.toNat:=X
     simp[h,j,u,w]
theorem ZuZ (a b:dr)(H:Hp):Ze Ds [.str a,.str b] H=K (Q J (QI a b),H):=by
 have h:∀ H,Ze We [.str a,.str b] H=K (Q J (QI a b),H):=λH=>by
  refine Xn (a':=.str a) (b':=.str b) (H1:=[]) rfl rfl ?_ rfl;rw[Bx];rfl
 refine Xn (a':=.str a) (b':=.str b) (H1:=[]) rfl rfl ?_ rfl;rw[fT];unfold En;simp only[h,go_sem]
section
variable {x y:AV}{a b:List Int}(hx:Sl 1 x (a.map (zJ .i64)))(hy:Sl 1 y (b.map (zJ .i64)))(ha:O a<=4611686018427387904)(hb:O b<=4611686018427387904)
include hx hy ha hb
theorem Zru (F H:Hp):∀ (k i:Nat),O a-i=k->i<=O a->i<=O b ->
 TE x y (Q J (i:Int)) F H=K (Q J (W6 (a.drop i) (b.drop i)),H):=by
 have j:=hx.len 3;have w:=hy.len 3;rw[zL]at j w
 have fin:∀ i,i<=O a->i<=O b->(i=O a\/i=O b)->Ha x y F H=K (Q J (W6 (a.drop i) (b.drop i)),H):=by
  intro i D E G;have L:a.drop i=[]\/b.drop i=[]:=G.imp (λh=>zF.2 X) (λh=>zF.2 X);rw[ZkO L,ZgV];simp only[xN,go_sem,j,w];by_cases z:O a<O b
  ·have c:decide ((O a:Int)<(O b:Int))=I:=by simp;omega
   simp only[c,go_sem];rw[if_pos X]
  ·have c:decide ((O a:Int)<(O b:Int))=Y:=by simp;omega
   simp only[c,go_sem,ZgW,j,w];rw[if_neg X];by_cases M:O b<O a
   ·have c:decide ((O b:Int)<(O a:Int))=I:=by simp;omega
    simp only[c,go_sem];rw[if_pos X]
   ·have c:decide ((O b:Int)<(O a:Int))=Y:=by simp;omega
    simp only[c,go_sem,ZgX];rw[if_neg X]
 intro k
 induction k with
 |zero =>
  intro i N D E;rw[IF];have z:decide ((i:Int)<(O a:Int))=Y:=by simp;omega
  simp only[go_sem,j,z];exact fin i D E (.inl X)
 |succ k P =>
  intro i N D E;rw[IF];have hi:i<O a:=X
  have z:decide ((i:Int)<(O a:Int))=I:=by simp;omega
  have hw:wB.wrap ((i:Int)+1)=((i+1:Nat):Int):=by rw[Zl X X];omega
  simp only[go_sem,j,w,z];by_cases A:i<O b
  ·have u:decide ((i:Int)<(O b:Int))=I:=by simp;omega
   simp only[u,go_sem,ZgY,hx.ints hi,hy.ints A,ZE];rw[zG hi,zG A,Qv];by_cases B:a[i]<b[i]
   ·simp only[decide_eq_true B,go_sem,if_pos B]
   ·simp only[decide_eq_false B,go_sem,if_neg B,Zh0,hx.ints hi,hy.ints A,ZE];by_cases C:b[i]<a[i]
    ·simp only[decide_eq_true C,go_sem,if_pos C]
    ·simp only[decide_eq_false C,go_sem,if_neg C,ZgZ,hw];exact P (i+1) X X X
  ·have u:decide ((i:Int)<(O b:Int))=Y:=by simp;omega
   simp only[u,go_sem];exact fin i D E (.inr X)
theorem Zrv (H:Hp):DS [x,y] H=K (Q J (W6 a b),H):=by
 rw[Zj6];unfold ZdH;have:=Zru hx hy ha hb H H (O a) 0 rfl X X;rw[show ((0:Nat):Int)=0 from rfl,zN,zN]at this;exact this
theorem Zup (s t:dr)(F H:Hp):∀ (k i:Nat),min (O a) (O b)-i=k->i<=min (O a) (O b) ->
 Jb (.str s) (.str t) x y (Q J ((min (O a) (O b):Nat):Int)) (Q J (i:Int)) F H=K (Q J (if (W6 (a.drop i) (b.drop i) != 0)=I then W6 (a.drop i) (b.drop i) else QI s t),H):=by
 have A:=hx.len 3;have B:=hy.len 3;rw[zL]at A B;intro k
 induction k with
 |zero =>
  intro i L hi;rw[Po];have C:decide ((i:Int)<((min (O a) (O b):Nat):Int))=Y:=by simp;omega
  have G:a.drop i=[]\/b.drop i=[]:=by
   rcases Nat.le_total (O a) (O b) with h|h
   ·exact .inl (zF.2 X)
   ·exact .inr (zF.2 X)
  rw[ZkO G];simp only[xN,go_sem,C,iY,A,B];by_cases N:O a<O b
  ·have c:decide ((O a:Int)<(O b:Int))=I:=by simp;omega
   have j:O a-i<O b-i:=X
   simp only[c,go_sem,j,if_true];rfl
  ·have c:decide ((O a:Int)<(O b:Int))=Y:=by simp;omega
   have j:¬ O a-i<O b-i:=X
   simp only[c,go_sem,j,if_false,iZ,A,B];by_cases P:O b<O a
   ·have c:decide ((O b:Int)<(O a:Int))=I:=by simp;omega
    have u:O b-i<O a-i:=X
    simp only[c,go_sem,u,if_true];rfl
   ·have c:decide ((O b:Int)<(O a:Int))=Y:=by simp;omega
    have u:¬ O b-i<O a-i:=X
    simp only[c,go_sem,u,if_false,jA,ZuZ];rfl
 |succ k M =>
  intro i L hi;rw[Po];have w:i<O a:=X
  have z:i<O b:=X
  have C:decide ((i:Int)<((min (O a) (O b):Nat):Int))=I:=by simp;omega
  have hw:wB.wrap ((i:Int)+1)=((i+1:Nat):Int):=by rw[Zl X X];omega
  simp only[go_sem,C,jB,hx.ints w,hy.ints z,ZE];rw[zG w,zG z,Qv];by_cases D:a[i]<b[i]
  ·simp only[decide_eq_true D,go_sem,if_pos D];rfl
  ·simp only[decide_eq_false D,go_sem,if_neg D,jD,hx.ints w,hy.ints z,ZE];by_cases E:b[i]<a[i]
   ·simp only[decide_eq_true E,go_sem,if_pos E];rfl
   ·simp only[decide_eq_false E,go_sem,if_neg E,jC,hw];exact M (i+1) X X
end
theorem ZiU (L:Loc):∀ (n:Nat) (s:dr),O s<=n->(wS L s).length<=O s:=by
 intro n
 induction n with
 |zero=>intro s h;have:s=[]:=yI.1 X;subst this;simp[wS]
 |succ n j =>
  intro s h
  match s,h with
  |[],_=>simp[wS]
  |[b],_=>simp[wS]
  |b::c::r,h =>
   rw[Zo6];simp only[zW]at h
   cases L.els.find? (JD (b::c::r)) with
   |none=>have:=j (c::r) (by simp;omega);simp only[zW]at this ⊢;omega
   |some e=>have:=j r X;simp only[zW];omega
theorem Ca (L:Loc):(Y6 L).els.length<=64:=by
 unfold Y6
 cases h:(Wn L != 0) with
 |true=>simp[defL]
 |false =>
  simp only[Wn,bne_eq_false_iff_eq]at h
  have:HV L.els=0:=by
   split at h
   ·split at h
    ·cases h
    ·split at h
     ·cases h
     ·unfold kS at h;split at h
      ·rename_i j;simp[h]at j
      ·exact h
   ·cases h
  unfold HV at this;split at this
  ·cases this
  ·simp;omega
def QJ (L:Loc)(s t:dr):Int:=if (W6 (wS (Y6 L) s) (wS (Y6 L) t) != 0)=I then W6 (wS (Y6 L) s) (wS (Y6 L) t) else QI s t
theorem ZkC {v:AV}{L:Loc}(h:LocAV v L)(F:LocOk L)(s t:dr)(hs:O s<=1048576)(ht:O t<=1048576)(H:Hp):Ze Uo [v,.str s,.str t] H=K (Q J (QJ L s t),H):=by
 obtain⟨P,h1,R⟩:=h.close [] 0 5;have hv:=λH=>ZiS R F H;obtain⟨x,c,e,rfl,hx,hc,he⟩:=R;obtain⟨v',M,u,j,ev,rfl,N,C,D⟩:=hv [zD (L.cells x c e)];have w:LocCells ((Y6 L).cells u j ev) (Y6 L):=⟨u,j,ev,rfl,N,C,D⟩;obtain⟨w1,q1,S⟩:=Zcr w (kZ L) (ZiR L) (by have:=Ca L;omega) s hs [xD];obtain⟨w2,q3,T⟩:=Zcr w (kZ L) (ZiR L) (by have:=Ca L;omega) t ht [xD];have aa:=ZiU (Y6 L) (O s) s (zY _);have ab:=ZiU (Y6 L) (O t) t (zY _)
 have B:Uo [.agg (L.cells x c e),.str s,.str t] []=K (Q J (QJ L s t),[xD]):=by
  rw[nV];unfold CE;have hl:Z4 I 6 (.ptr 0 0) [zD (L.cells x c e)]=K (.agg (L.cells x c e)):=by simp[Z4,Go.Am.apart,Loc.cells]
  have G:Zg 6 (.ptr 0 0) (.agg ((Y6 L).cells u j ev)) [zD (L.cells x c e)]=K (.tuple [],[zD ((Y6 L).cells u j ev)]):=by simp[Zg,YE,yP,yA,Loc.cells,splice]
  have E:∀ k:AV->Hp->Z3,XN (.ptr 0 0) [zD ((Y6 L).cells u j ev)] k=k (.vp ((Y6 L).cells u j ev)) [xD]:=λk=>rfl;have P:Zf (.slice 3) w1=K (Q J (wS (Y6 L) s).length):=by have:=S.len 3;rwa [zL]at this
  have Z:Zf (.slice 3) w2=K (Q J (wS (Y6 L) t).length):=by have:=T.len 3;rwa [zL]at this
  have A:WU (Q J ((wS (Y6 L) s).length:Int)) (Q J ((wS (Y6 L) t).length:Int))=K (Q J ((min (wS (Y6 L) s).length (wS (Y6 L) t).length:Nat):Int)):=by
   unfold WU;simp only[if_true];congr 2;split <;> omega
  have z:=Zup S T X X s t [] [xD] _ 0 rfl (xB _);rw[show ((0:Nat):Int)=0 from rfl,zN,zN]at z;simp only[go_sem,zI,zM,hl,M,G,E,Zao,Zbe,yB,q1,q3,P,Z,A,z];rfl
 exact Kg (args':=[.agg (L.cells x c e),.str s,.str t]) (by simp[h1];rfl) B rfl
def NX (s:dr):List Int:=s.map λc=>(c.toNat:Int)
theorem Zy3 (b:UInt8):ZS .i64 (.int .u8 b.toNat)=K (Q J (b.toNat:Int)):=by
 have:=b.toNat_lt;simp only[ZS,Zl (show -(9223372036854775808:Int)<=(b.toNat:Int) by omega) X]
theorem NO {s done r:dr}{b:UInt8}(h:s=done++b::r):Zp (.str s) (Q J (O done:Int))=K (.int .u8 b.toNat) :=
 ZG (by rw[h,zX (zY _)];simp)
theorem RowN.appInt {n:Nat}{H:Hp}{y:AV}{j:List Int}(h:RowN n H 1 y (j.map (zJ .i64)))(A:n<=O H)(F:O j<=1048576)(w:Int) :
 ∃ u H',Ya 1 8 y (.vs 1 .clip [Q J w]) H=K (u,H')/\RowN n H' 1 u ((j++[w]).map (zJ .i64))/\n<=O H'/\(∀ i x,H[i]?=K x->i<n->H'[i]?=K x):=by
 obtain⟨u,H',B,C,D,E,G⟩:=h.app A 8 (.vs 1 .clip [Q J w]) [Q J w] (by simp[elems]) (by simp;omega);exact⟨u,H',B,by simpa using C,D,λi x hi z=>(E i z).trans hi⟩
theorem Zio {x y:AV}{a b:List Int}(hx:Sl 1 x (a.map (zJ .i64)))(hy:Sl 1 y (b.map (zJ .i64)))(ha:O a<=4611686018427387904)(hb:O b<=4611686018427387904)(H:Hp) :
 Ze DS [x,y] H=K (Q J (W6 a b),H):=by
 obtain⟨z,h,j⟩:=hx.close (H:=[]) (n:=0) (f:=8) (λy hy=>by obtain⟨m,_,rfl⟩:=zO.1 hy;rfl);obtain⟨A,u,w⟩:=hy.close (H:=[]) (n:=0) (f:=8) (λy hy=>by obtain⟨m,_,rfl⟩:=zO.1 hy;rfl);exact Xn h u (Zrv j w ha hb []) rfl
theorem jO (s:dr):(NX s).length=O s:=by simp[NX]
theorem ZkL (s:dr)(b:UInt8):NX (s++[b])=NX s++[(b.toNat:Int)]:=by simp[NX]
theorem ZvX {A:AV}{a:List Int}(hx:Sl 1 A (a.map (zJ .i64)))(t:dr)(L:O t<=1048576)(ha:O a<=1048576)(B:Hp):∀ (r done:dr) (y:AV) (H:Hp),t=done++r->RowN 0 H 1 y ((NX done).map (zJ .i64)) ->
 ∃ H',Tu (.str t) A y (Q J (O done:Int)) B H=K (Q J (W6 a (NX t)),H'):=by
 intro r
 induction r with
 |nil =>
  intro done y H j hy;rw[zT]at j;subst j;refine⟨H,?_⟩;rw[IC];have h:decide ((O t:Int)<(O t:Int))=Y:=dh
  simp only[go_sem,Y0,h,ZgJ,Zio hx hy.sl X (by rw[jO];omega)]
 |cons b r D =>
  intro done y H j hy;have w:O t=O done+(O r+1):=by rw[j];simp
  have h:decide ((O done:Int)<(O t:Int))=I:=by simp;omega
  have u:wB.wrap ((O done:Int)+1)=((O done+1:Nat):Int):=by rw[Zl X X];omega
  obtain⟨G,H1,E,F,M,N⟩:=hy.appInt (xB _) (by rw[jO];omega) (b.toNat:Int);obtain⟨C,z⟩:=D (done++[b]) G H1 (by rw[j];simp) (by rw[ZkL];exact F);rw[zP,zR]at z;refine⟨C,?_⟩;rw[IC];simp only[go_sem,Y0,h,ZgK,NO j,Zy3,eJ,E,ZgL,u,z]
theorem ZvY (s t:dr)(M:O s<=1048576)(D:O t<=1048576)(z:Hp):∀ (r done:dr) (y:AV) (H:Hp),s=done++r->RowN 0 H 1 y ((NX done).map (zJ .i64)) ->
 ∃ H',Tv (.str s) (.str t) y .nils (Q J (O done:Int)) z H=K (Q J (W6 (NX s) (NX t)),H'):=by
 intro r
 induction r with
 |nil =>
  intro done y H u hy;rw[zT]at u;subst u;obtain⟨H',h⟩:=ZvX hy.sl t D (by rw[jO];omega) z t [] .nils H rfl (RowN.nil _ _ _);rw[zI,show ((0:Nat):Int)=0 from rfl]at h;refine⟨H',?_⟩;rw[ID];have j:decide ((O s:Int)<(O s:Int))=Y:=dh
  simp only[go_sem,Y0,j,ZgI,h]
 |cons b r E =>
  intro done y H u hy;have A:O s=O done+(O r+1):=by rw[u];simp
  have j:decide ((O done:Int)<(O s:Int))=I:=by simp;omega
  have w:wB.wrap ((O done:Int)+1)=((O done+1:Nat):Int):=by rw[Zl X X];omega
  obtain⟨L,H1,F,G,N,P⟩:=hy.appInt (xB _) (by rw[jO];omega) (b.toNat:Int);obtain⟨C,B⟩:=E (done++[b]) L H1 (by rw[u];simp) (by rw[ZkL];exact G);rw[zP,zR]at B;refine⟨C,?_⟩;rw[ID];simp only[go_sem,Y0,j,ZgM,NO u,Zy3,eJ,F,ZgN,w,B]
theorem Zqu (s t:dr)(j:O s<=1048576)(u:O t<=1048576)(H:Hp):Ze OE [.str s,.str t] H=K (Q J (QI s t),H):=by
 obtain⟨H',h⟩:=ZvY s t j u [] s [] .nils [] rfl (RowN.nil _ _ _);rw[zI,show ((0:Nat):Int)=0 from rfl,show W6 (NX s) (NX t)=QI s t from ZfP s t]at h;refine Xn (a':=.str s) (b':=.str t) (H1:=H') rfl rfl ?_ rfl;rw[Zj2];exact h
theorem ZkW {v:AV}{L:Loc}(h:LocAV v L)(D:LocOk L)(s t:dr)(N:O s<=1048576)(P:O t<=1048576)(H:Hp):Ze KM [v,.str s,.str t] H=K (Q J (QJ L s t),H):=by
 obtain⟨a1,R,M⟩:=h.close [] 0 5;have hv:=λH=>ZeG M D H;obtain⟨x,c,e,rfl,hx,S,he⟩:=M;obtain⟨v',F,u,j,ev,rfl,G,B,C⟩:=hv [zD (L.cells x c e)];have z:LocAV (.agg ((Y6 L).cells u j ev)) (Y6 L):=⟨u,j,ev,rfl,G,B,C⟩;obtain⟨w1,q1,q2⟩:=nK z (kZ L) (by have:=Ca L;omega) s N [zD ((Y6 L).cells u j ev)];obtain⟨w2,q3,q4⟩:=nK z (kZ L) (by have:=Ca L;omega) t P [zD ((Y6 L).cells u j ev)];have Z:=ZiU (Y6 L) (O s) s (zY _);have aa:=ZiU (Y6 L) (O t) t (zY _)
 have A:KM [.agg (L.cells x c e),.str s,.str t] []=K (Q J (QJ L s t),[zD ((Y6 L).cells u j ev)]):=by
  rw[ZeN];unfold lA;have T:Z4 I 6 (.ptr 0 0) [zD (L.cells x c e)]=K (.agg (L.cells x c e)):=by simp[Z4,Go.Am.apart,Loc.cells]
  have E:Zg 6 (.ptr 0 0) (.agg ((Y6 L).cells u j ev)) [zD (L.cells x c e)]=K (.tuple [],[zD ((Y6 L).cells u j ev)]):=by simp[Zg,YE,yP,yA,Loc.cells,splice]
  have w:Z4 I 6 (.ptr 0 0) [zD ((Y6 L).cells u j ev)]=K (.agg ((Y6 L).cells u j ev)):=by simp[Z4,Go.Am.apart,Loc.cells]
  unfold QJ;simp only[go_sem,zI,zM,T,F,E,w,q1,q3,Zio q2 q4 X X]
  cases S:(W6 (wS (Y6 L) s) (wS (Y6 L) t) != 0) with
  |true=>rfl
  |false=>simp only[go_sem,Zd5,Zqu s t N P,zE,if_false]
 exact Kg (args':=[.agg (L.cells x c e),.str s,.str t]) (by simp[R];rfl) A rfl
def isD (b:UInt8):Bool:=decide (48<=(b.toNat:Int))&&decide ((b.toNat:Int)<=57)
def Zn (l:dr):Nat:=(l.takeWhile isD).length
theorem Zl2:Zn []=0:=rfl
theorem kH (b:UInt8)(l:dr):Zn (b::l)=if isD b then Zn l+1 else 0:=by
 unfold Zn;rw[List.takeWhile_cons];split <;> simp_all
theorem kI (l:dr):Zn l<=O l:=by
 induction l with
 |nil=>simp[Zn]
 |cons b l h=>rw[kH];split <;> simp <;> omega
theorem ZoE {s:dr}(E:O s<=1048576)(z H:Hp):∀ (k p:Nat),O s-p=k->p<=O s ->
 J9 (.str s) (Q J (p:Int)) z H=K (Q J ((p+Zn (s.drop p):Nat):Int),H):=by
 intro k
 induction k with
 |zero =>
  intro p B C;rw[Pf];have h:decide ((p:Int)<(O s:Int))=Y:=by simp;omega
  have A:s.drop p=[]:=zF.2 X;simp only[go_sem,h,A,Zl2,yJ,Ka]
 |succ k D =>
  intro p B C;rw[Pf];have h:decide ((p:Int)<(O s:Int))=I:=by simp;omega
  have j:p<O s:=X
  have hw:wB.wrap ((p:Int)+1)=((p+1:Nat):Int):=by rw[Zl X X];omega
  simp only[go_sem,h,ZG (zB j)];rw[YV j,kH]
  cases u:decide (48<=((s[p].toNat:Int))) with
  |false=>simp only[isD,u,go_sem,yF,zE,if_false,yJ,Ka]
  |true =>
   cases w:decide (((s[p].toNat:Int))<=57) with
   |false=>simp only[isD,u,w,go_sem,ZG (zB j),xQ,zE,if_false,yJ,Ka]
   |true =>
    simp only[isD,u,w,go_sem,ZG (zB j),xI,if_true,iE,hw];rw[D (p+1) X X,show p+1+Zn (s.drop (p+1))=p+(Zn (s.drop (p+1))+1) by omega]
theorem Zes (s:dr)(h:O s<=1048576)(H:Hp):Ze JS [.str s] H=K (Q J (Zn s:Int),H):=by
 refine YG (a':=.str s) (H1:=[]) rfl ?_ rfl;rw[nU];have:=ZoE h [] [] (O s) 0 rfl X;rw[show ((0:Nat):Int)=0 from rfl,zN,zH]at this;exact this
theorem ZnA {s:dr}(E:O s<=1048576)(z H:Hp):∀ (k p:Nat),O s-p=k->p<=O s ->
 FH (.str s) (Q J (p:Int)) z H=K (Q J ((p+Zn (s.drop p):Nat):Int),H):=by
 intro k
 induction k with
 |zero =>
  intro p B C;rw[CT];have h:decide ((p:Int)<(O s:Int))=Y:=by simp;omega
  have A:s.drop p=[]:=zF.2 X;simp only[go_sem,h,A,Zl2,yJ,Rg]
 |succ k D =>
  intro p B C;rw[CT];have h:decide ((p:Int)<(O s:Int))=I:=by simp;omega
  have j:p<O s:=X
  have hw:wB.wrap ((p:Int)+1)=((p+1:Nat):Int):=by rw[Zl X X];omega
  simp only[go_sem,h,ZG (zB j)];rw[YV j,kH]
  cases u:decide (48<=((s[p].toNat:Int))) with
  |false=>simp only[isD,u,go_sem,yF,zE,if_false,yJ,Rg]
  |true =>
   cases w:decide (((s[p].toNat:Int))<=57) with
   |false=>simp only[isD,u,w,go_sem,ZG (zB j),xQ,zE,if_false,yJ,Rg]
   |true =>
    simp only[isD,u,w,go_sem,ZG (zB j),xI,if_true,Zfb,hw];rw[D (p+1) X X,show p+1+Zn (s.drop (p+1))=p+(Zn (s.drop (p+1))+1) by omega]
theorem Zca (s:dr)(j:O s<=1048576){p:Nat}(h:p<=O s)(H:Hp):Ze T9 [.str s,Q J (p:Int)] H=K (Q J ((p+Zn (s.drop p):Nat):Int),H):=by
 refine Xn (a':=.str s) (b':=Q J (p:Int)) (H1:=[]) rfl rfl ?_ rfl;rw[Zgn];exact ZnA j [] [] _ p rfl h
def dg (b:UInt8):Int:=IntKind.u8.wrap ((b.toNat:Int)-48)
theorem XX (b:UInt8):0<=dg b/\dg b<=255:=by
 unfold dg;have h:=b.toNat_lt;show 0<=((b.toNat:Int)-48) % 256/\((b.toNat:Int)-48) % 256<=255;omega
theorem ZlV (b:UInt8):ZS .i64 (.int .u8 (IntKind.u8.wrap ((b.toNat:Int)-48)))=K (Q J (dg b)):=by
 have:=XX b;show K (zJ .i64 (wB.wrap (dg b)))=_;rw[Zl X X]
def fr:Nat->dr->Int->Int
 |0,_,d=>d
 |k+1,[],d=>fr k [] (d*10)
 |k+1,b::l,d=>fr k l (d*10+dg b)
theorem Zi5 (k:Nat)(d:Int):fr (k+1) [] d=fr k [] (d*10):=dy
theorem ZcG (k:Nat)(b:UInt8)(l:dr)(d:Int):fr (k+1) (b::l) d=fr k l (d*10+dg b):=dy
theorem ZtB (s:dr)(S:O s<=1048576)(G H:Hp):∀ (k i:Nat) (d p:Int),i+k=4->0<=d->d+1000<=2000000000*p->p*10 ^ k<=10000 ->
 UM (.str s) (Q J d) (Q J (i:Int)) G H=K (Q J (fr k (s.drop i) d),H):=by
 intro k
 induction k with
 |zero =>
  intro i d p B L M E;rw[F8];have j:decide ((i:Int)<4)=Y:=by simp;omega
  simp only[go_sem,j,aQ,fr]
 |succ k F =>
  intro i d p B L M E;rw[F8];have j:decide ((i:Int)<4)=I:=by simp;omega
  have z:wB.wrap ((i:Int)+1)=((i+1:Nat):Int):=by rw[Zl X X];omega
  have u:p*10*10 ^ k<=10000:=by rw[yT,show (10:Int)*10 ^ k=10 ^ (k+1) by rw[yX,yY]];exact E
  have C:(1:Int)<=10 ^ k:=xJ.2 (wA di)
  have R:p*10<=10000:=by
   by_cases P:0<=p
   ·have:=yM C (show 0<=p*10 by omega);omega
   ·omega
  have D:wB.wrap (d*10)=d*10:=Zl X X;simp only[go_sem,j,aR,D,Y0];by_cases hi:i<O s
  ·have hb:=XX s[i];have h:decide ((i:Int)<(O s:Int))=I:=by simp;omega
   have w:wB.wrap (d*10+dg s[i])=d*10+dg s[i]:=Zl X X;simp only[h,go_sem,ZG (zB hi),ZlV,w,F7,z];rw[F (i+1) _ (p*10) X X X u,YV hi,ZcG]
  ·have h:decide ((i:Int)<(O s:Int))=Y:=by simp;omega
   have N:s.drop i=[]:=zF.2 X;have A:s.drop (i+1)=[]:=zF.2 X;simp only[h,go_sem,F7,z];rw[F (i+1) _ (p*10) X X X u,N,A,Zi5]
theorem ZtA (s:dr)(h:O s<=1048576)(H:Hp):Ze GN [.str s] H=K (Q J (fr 4 s 0),H):=by
 refine YG (a':=.str s) (H1:=[]) rfl ?_ rfl;rw[bT];have:=ZtB s h [] [] 4 0 0 1 rfl X X di;rw[show ((0:Nat):Int)=0 from rfl,zN]at this;exact this
theorem ZrL (s:dr)(S:O s<=1048576)(G H:Hp):∀ (k i:Nat) (d p:Int),i+k=4->0<=d->d+1000<=2000000000*p->p*10 ^ k<=10000 ->
 FK (.str s) (Q J d) (Q J (i:Int)) G H=K (.tuple [Q J (fr k (s.drop i) d),.bool (decide (fr k (s.drop i) d<=10000000000000))],H):=by
 intro k
 induction k with
 |zero =>
  intro i d p B L M E;rw[CV];have j:decide ((i:Int)<4)=Y:=by simp;omega
  simp only[go_sem,j,Zfd,fr];rfl
 |succ k F =>
  intro i d p B L M E;rw[CV];have j:decide ((i:Int)<4)=I:=by simp;omega
  have z:wB.wrap ((i:Int)+1)=((i+1:Nat):Int):=by rw[Zl X X];omega
  have u:p*10*10 ^ k<=10000:=by rw[yT,show (10:Int)*10 ^ k=10 ^ (k+1) by rw[yX,yY]];exact E
  have C:(1:Int)<=10 ^ k:=xJ.2 (wA di)
  have R:p*10<=10000:=by
   by_cases P:0<=p
   ·have:=yM C (show 0<=p*10 by omega);omega
   ·omega
  have D:wB.wrap (d*10)=d*10:=Zl X X;simp only[go_sem,j,Zfe,D,Y0];by_cases hi:i<O s
  ·have hb:=XX s[i];have h:decide ((i:Int)<(O s:Int))=I:=by simp;omega
   have w:wB.wrap (d*10+dg s[i])=d*10+dg s[i]:=Zl X X;simp only[h,go_sem,ZG (zB hi),ZlV,w,CU,z];rw[F (i+1) _ (p*10) X X X u,YV hi,ZcG]
  ·have h:decide ((i:Int)<(O s:Int))=Y:=by simp;omega
   have N:s.drop i=[]:=zF.2 X;have A:s.drop (i+1)=[]:=zF.2 X;simp only[h,go_sem,CU,z];rw[F (i+1) _ (p*10) X X X u,N,A,Zi5]
def AY:dr->Int->Option Int
 |[],d=>K d
 |b::l,d=>if 1000000000<d*10+dg b then U else AY l (d*10+dg b)
theorem Zcq (b:UInt8)(l:dr)(d:Int):AY (b::l) d=if 1000000000<d*10+dg b then U else AY l (d*10+dg b):=dy
theorem ZwB:∀ (k:Nat) (l:dr) (d:Int),fr k l d=d*10 ^ k+fr k l 0:=by
 intro k
 induction k with
 |zero=>intro l d;simp[fr]
 |succ k h =>
  intro l d
  cases l with
  |nil=>rw[Zi5,Zi5,h,h _ (0*10),yX];simp only[xY,xZ];rw[yT,yY 10]
  |cons b l=>rw[ZcG,ZcG,h,h _ (0*10+dg b),yX,Int.add_mul];simp only[xY,xZ];rw[yT,yY 10];omega
theorem Zkt (l:dr):0<=fr 4 l 0/\fr 4 l 0<=1000000:=by
 match l with
 |[]=>simp[fr]
 |[a]=>have:=XX a;simp[fr];omega
 |[a,b]=>have:=XX a;have:=XX b;simp[fr];omega
 |[a,b,c]=>have:=XX a;have:=XX b;have:=XX c;simp[fr];omega
 |a::b::c::d::l=>have:=XX a;have:=XX b;have:=XX c;have:=XX d;simp[fr];omega
theorem ZwA (l:dr):fr 4 (l.take 4) 0=fr 4 l 0:=by
 match l with
 |[]=>rfl
 |[a]=>rfl
 |[a,b]=>rfl
 |[a,b,c]=>rfl
 |a::b::c::d::l=>rfl
def bB (w f:dr):Option Int:=match AY w 0 with
 |none=>U
 |some d=>K (d*10000+fr 4 f 0)
def Gl (w f:dr):Int:=match bB w f with
 |none=>10000000000001
 |some n=>min 10000000000001 n
theorem Zsl (s f:dr)(M:O s<=1048576)(F:O f<=1048576)(C H:Hp):∀ (r done:dr) (d:Int),s=done++r->0<=d->d<=1000000000 ->
 Kc (.str s) (.str f) (Q J d) (Q J (O s:Int)) (Q J (O done:Int)) C H=K (Q J (match AY r d with
  |none=>10000000000001
  |some n=>min 10000000000001 (n*10000+fr 4 f 0)),H):=by
 intro r
 induction r with
 |nil =>
  intro done d w D E;rw[zT]at w;subst w;rw[N7];have h:decide ((O s:Int)<(O s:Int))=Y:=dh
  have G:=Zkt f;have j:wB.wrap (d*10000)=d*10000:=Zl X X;have u:wB.wrap (d*10000+fr 4 f 0)=d*10000+fr 4 f 0:=Zl X X;simp only[go_sem,h,oT,j,ZtA f F,u,AY]
 |cons b r L =>
  intro done d w D E;have B:O s=O done+(O r+1):=by rw[w];simp
  have h:decide ((O done:Int)<(O s:Int))=I:=by simp;omega
  have A:wB.wrap ((O done:Int)+1)=((O done+1:Nat):Int):=by rw[Zl X X];omega
  have hb:=XX b;have j:wB.wrap (10*d)=d*10:=by rw[Zl X X];omega
  have u:wB.wrap (d*10+dg b)=d*10+dg b:=Zl X X;rw[N7,Zcq];simp only[go_sem,h,oU,j,NO w,ZlV,u];by_cases z:1000000000<d*10+dg b
  ·simp only[decide_eq_true z,go_sem,if_pos z]
  ·have:=L (done++[b]) (d*10+dg b) (by rw[w];simp) X X;rw[zP,zR]at this;simp only[decide_eq_false z,go_sem,if_neg z,oV,A,this]
theorem Zsk (s f:dr)(j:O s<=1048576)(h:O f<=1048576)(H:Hp):Ze Td [.str s,.str f] H=K (Q J (Gl s f),H):=by
 refine Xn (a':=.str s) (b':=.str f) (H1:=[]) rfl rfl ?_ rfl;rw[Za9];unfold Iq;have:=Zsl s f j h [] [] s [] 0 rfl X X;rw[zI,show ((0:Nat):Int)=0 from rfl]at this;simp only[go_sem,this];unfold Gl bB;cases AY s 0 <;> rfl
theorem ZnN (s f:dr)(L:O s<=1048576)(F:O f<=1048576)(B H:Hp):∀ (r done:dr) (d:Int),s=done++r->0<=d->d<=1000000000 ->
 FL (.str s) (.str f) (Q J d) (Q J (O done:Int)) B H=K (match AY r d with
  |none=>.tuple [Q J 0,.bool Y]
  |some n=>.tuple [Q J (n*10000+fr 4 f 0),.bool (decide (n*10000+fr 4 f 0<=10000000000000))],H):=by
 intro r
 induction r with
 |nil =>
  intro done d j C E;rw[zT]at j;subst j;rw[CW];have h:decide ((O s:Int)<(O s:Int))=Y:=dh
  have:=ZrL f F B H 4 0 d 1 rfl C X di;rw[show ((0:Nat):Int)=0 from rfl,zN,ZwB 4 f d]at this;simp only[go_sem,h,Zfc,this,AY];rfl
 |cons b r G =>
  intro done d j C E;have D:O s=O done+(O r+1):=by rw[j];simp
  have h:decide ((O done:Int)<(O s:Int))=I:=by simp;omega
  have A:wB.wrap ((O done:Int)+1)=((O done+1:Nat):Int):=by rw[Zl X X];omega
  have hb:=XX b;have w:wB.wrap (d*10)=d*10:=Zl X X;have z:wB.wrap (d*10+dg b)=d*10+dg b:=Zl X X;rw[CW,Zcq];simp only[go_sem,h,Zff,w,NO j,ZlV,z];by_cases u:1000000000<d*10+dg b
  ·simp only[decide_eq_true u,go_sem,if_pos u]
  ·have:=G (done++[b]) (d*10+dg b) (by rw[j];simp) X X;rw[zP,zR]at this;simp only[decide_eq_false u,go_sem,if_neg u,Zfg,A,this]
theorem ZnM (s f:dr)(u:O s<=1048576)(j:O f<=1048576)(H:Hp):Ze Ci [.str s,.str f] H=K (match bB s f with
 |none=>.tuple [Q J 0,.bool Y]
 |some n=>.tuple [Q J n,.bool (decide (n<=10000000000000))],H):=by
 have:=ZnN s f u j [] [] s [] 0 rfl X X;rw[zI,show ((0:Nat):Int)=0 from rfl]at this;unfold bB
 cases h:AY s 0 with
 |none =>
  rw[h]at this;refine Xn (a':=.str s) (b':=.str f) (H1:=[]) rfl rfl ?_ rfl;rw[Ik];exact this
 |some n =>
  rw[h]at this;refine Xn (a':=.str s) (b':=.str f) (H1:=[]) rfl rfl ?_ rfl;rw[Ik];exact this
end Go.Am
