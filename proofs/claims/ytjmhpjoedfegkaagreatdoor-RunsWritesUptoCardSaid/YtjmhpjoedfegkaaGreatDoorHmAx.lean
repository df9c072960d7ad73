/- THE ABSTRACT MACHINE -/
import Derived.WalkKit
import Derived.Lib.FrozenHead
import Derived.ChangeKeysEq
import Derived.Laws.IdiomStrings
theorem dy {α:Sort _}{a:α}:a=a:=(Eq.refl _).trans (Eq.refl _)
theorem dz {p:Prop}(h:p:=by kernel_rfl):p:=h
theorem b5 {p:Prop}(h:p:=by omega):p:=h
theorem Go.dw.b5 {p:Prop}(h:p:=by omega):p:=h
theorem dh {p:Prop}(h:p:=by simp):p:=h
theorem Go.dw.dh {p:Prop}(h:p:=by simp):p:=h
theorem di {p:Prop}(h:p:=by decide):p:=h
theorem Go.dw.di {p:Prop}(h:p:=by decide):p:=h
abbrev dr:=List UInt8
abbrev dv:=List Nat
def Go.dw.dx:Nat->Nat->List Nat->List Nat
 |0,_,l=>l
 |k+1,n,l=>cond (Nat.ble n 1) l (Go.dw.dx k (n/2) (n%2::l))
abbrev dx (n:Nat):=Go.dw.dx 60 n []
open Option renaming some->O,none->L
open Bool renaming true->Q,false->J
open List renaming length->Z
open Go.dw renaming b5->I
open List renaming getElem?_eq_none->zA,eq_nil_of_length_eq_zero->zF,replicate->zG,all_eq_true->zI,getElem?_map->zK,getElem?_append_left->zL,mem_of_mem_drop->zM,getElem?_append_right->zN,getElem?_take_of_lt->zQ,getElem?_eq_getElem->zR,eq_of_mem_replicate->zS,getElem?_drop->zT,range->zX,mem_of_getElem?->yC,mem_of_mem_take->yD,mem_or_eq_of_mem_set->yF,foldl_cons->yH,mapM_cons->yK,length_cons->yP,mem_flatten->yQ,mem_map->yV
open Nat renaming beq->zC,lt_or_ge->zD,mul_le_mul_right->zE,beq_eq->zJ,add_mul->zP,succ_le_of_lt->zW,le_refl->yA,lt_succ_of_lt->yE,succ_mul->yG,zero_add->yN,mul_comm->yO,div_add_mod->yR,le_trans->yT,add_comm->yU
open Bool renaming and_eq_true->zB,false_eq_true->zU,not_true->yS
open Option renaming map_eq_some_iff->zZ,map_some->yI
open Array renaming getElem?_eq_getElem->zH,getElem?_eq_none->zY,getElem?_toList->yB,range->yJ,getElem?_map->yM
open UInt8 renaming ofNat->zO
open Option.some renaming injEq->zV
open Prod.mk renaming injEq->yL
namespace Go.Am
inductive Tok where
 |no
 |own (t e:Nat)
 |clip
 deriving DecidableEq
inductive AV where
 |undef
 |bool (b:Bool)
 |int (k:IntKind) (n:Int)
 |str (s:dr)
 |nilp
 |ptr (o off:Nat)
 |vp (cells:List AV)
 |nils
 |vs (k:Nat) (tok:Tok) (l:List AV)
 |rs (ag:Bool) (k o off len cap:Nat)
 |ws (ag:Bool) (k o e len:Nat)
 |wp (o e off:Nat)
 |nilm
 |map (o:Nat)
 |nilf
 |fn (fn:Fn) (first captured:List AV)
 |nili
 |iface (t:TypeId) (v:AV)
 |agg (cells:List AV)
 |tuple (l:List AV)
def AV.cells:AV->List AV
 |.agg cs=>cs
 |v=>[v]
def AV.isCell:AV->Bool
 |.undef|.agg _|.tuple _=>J
 |_=>Q
inductive AObj where
 |cells (l:List AV)
 |bld (T u:TypeId) (l:dr)
 |tok (e:Nat)
 |row (e:Nat) (l:List AV)
 |map (es:List (AV×AV×Nat)) (clock:Nat)
 |siter (s:dr) (pos:Nat)
 |dead
 |free
structure Snap where
 w:World
 phi:Nat->Option Nat
 pub:Nat->Nat->Prop
 tk:Nat->Option (Nat×Nat×Nat×Nat)
 lim:Nat
def TokOk (S:Snap)(k:Nat)(tok:Tok)(len b off cap:Nat):Prop :=
 match tok with
 |.no=>True
 |.clip=>cap=len
 |.own t e=>∃ e0 j hw0 h,S.tk t=O (e0,j,hw0,h)/\e<=e0/\(e=e0->len<cap->b=j/\off+len*k=hw0/\off+cap*k<=h)
def RowOk (S:Snap)(o e b hw j:Nat):Prop:=∃ e0 u hw0 h,S.tk o=O (e0,u,hw0,h)/\e<=e0/\(e=e0->b=u/\hw<=hw0/\j<=h)
def RowIn (S:Snap)(o e b:Nat):Prop:=∃ e0 j hw0 h,S.tk o=O (e0,j,hw0,h)/\e<=e0/\(e=e0->b=j)
inductive VRel (S:Snap):AV->Value->Prop
 |undef (v:Value):VRel S .undef v
 |bool (b:Bool):VRel S (.bool b) (.bool b)
 |int (k:IntKind) (n:Int):VRel S (.int k n) (.int k n)
 |str (s:dr) (b:ByteArray) (h:b.data.toList=s):VRel S (.str s) (.string b)
 |nilp:VRel S .nilp (.pointer L)
 |ptr (o off b:Nat) (h:S.phi o=O b):VRel S (.ptr o off) (.pointer (O ⟨b,off,L⟩))
 |vp (cells:List AV) (b off:Nat) (f:Nat->Value) (hc:cells.all AV.isCell=Q)
  (h1:∀ i,i<Z cells->S.w.cell? ⟨b,off+i,L⟩=O (f i)/\S.pub b (off+i))
  (h2:∀ (i:Nat) (c:AV),cells[i]?=O c->VRel S c (f i)):VRel S (.vp cells) (.pointer (O ⟨b,off,L⟩))
 |nils:VRel S .nils (.slice L 0 0)
 |vs (k:Nat) (tok:Tok) (l:List AV) (b off cap:Nat) (f:Nat->Nat->Value)
  (hcap:Z l<=cap)
  (hk:∀ e,e∈l->Z e.cells=k/\e.cells.all AV.isCell=Q)
  (h1:∀ j i,j<Z l->i<k->S.w.cell? ⟨b,off+j*k+i,L⟩=O (f j i)/\S.pub b (off+j*k+i))
  (h2:∀ (j:Nat) (e:AV) (i:Nat) (c:AV),l[j]?=O e->e.cells[i]?=O c->VRel S c (f j i))
  (ht:TokOk S k tok (Z l) b off cap) (sp:Option Nat) (hsp:sp=L\/cap=0):VRel S (.vs k tok l) (.slice (O ⟨b,off,sp⟩) (Z l) cap)
 |rs (ag:Bool) (k o off len cap b:Nat) (h:S.phi o=O b) (hlen:len<=cap):VRel S (.rs ag k o off len cap) (.slice (O ⟨b,off,L⟩) len cap)
 |ws (ag:Bool) (k o e len cap b:Nat) (h:RowOk S o e b (len*k) (cap*k)) (hlen:len<=cap):VRel S (.ws ag k o e len) (.slice (O ⟨b,0,L⟩) len cap)
 |wp (o e off b:Nat) (h:RowIn S o e b):VRel S (.wp o e off) (.pointer (O ⟨b,off,L⟩))
 |nilm:VRel S .nilm (.map L)
 |map (o b:Nat) (h:S.phi o=O b):VRel S (.map o) (.map (O b))
 |nilf:VRel S .nilf .nilFunc
 |fn (fn:Fn) (first captured:List AV) (F C:Array Value) (hF:F.size=Z first) (hC:C.size=Z captured)
  (h1:∀ (i:Nat) (c:AV) (v:Value),first[i]?=O c->F[i]?=O v->VRel S c v)
  (h2:∀ (i:Nat) (c:AV) (v:Value),captured[i]?=O c->C[i]?=O v->VRel S c v):VRel S (.fn fn first captured) (.func fn F C)
 |nili:VRel S .nili .nilIface
 |iface (t:TypeId) (v:AV) (u:Value) (h:VRel S v u):VRel S (.iface t v) (.iface t u)
 |agg (cells:List AV) (vs:Array Value) (hc:cells.all AV.isCell=Q) (hs:vs.size=Z cells) (h:∀ (i:Nat) (c:AV) (v:Value),cells[i]?=O c->vs[i]?=O v->VRel S c v):VRel S (.agg cells) (.agg vs)
 |tuple (l:List AV) (vs:Array Value) (hs:vs.size=Z l) (h:∀ (i:Nat) (c:AV) (v:Value),l[i]?=O c->vs[i]?=O v->VRel S c v):VRel S (.tuple l) (.tuple vs)
structure Ext0 (S S':Snap):Prop where
 phi:∀ o b,S.phi o=O b->S'.phi o=O b
 pub:∀ b i,S.pub b i->S'.pub b i/\S'.w.cell? ⟨b,i,L⟩=S.w.cell? ⟨b,i,L⟩
 tk:∀ t e b hw sz,S.tk t=O (e,b,hw,sz)->∃ e' b' hw' sz',S'.tk t=O (e',b',hw',sz')/\e<=e'/\(e'=e->b'=b/\hw'=hw/\sz'=sz)
structure Ext (S S':Snap):Prop extends Ext0 S S' where
 lim:S'.lim=S.lim
 old:∀ b i,S'.pub b i->b<S.lim->S.pub b i
theorem Ext.refl (S:Snap):Ext S S :=
 ⟨⟨λ_ _ h=>h,λ_ _ h=>⟨h,rfl⟩,λ_ e b hw sz h=>⟨e,b,hw,sz,h,yA _,λ_=>⟨rfl,rfl,rfl⟩⟩⟩,rfl,λ_ _ h _=>h⟩
theorem Ext.trans {A B C:Snap}(h:Ext A B)(k:Ext B C):Ext A C:=by
 refine⟨⟨λo b e=>k.phi o b (h.phi o b e),λb i e=>?_,λt e b hw sz X=>?_⟩,k.lim.trans h.lim,λb i hp N=>h.old b i (k.old b i hp (by rw[h.lim];exact N)) N⟩
 ·obtain⟨p,q⟩:=h.pub b i e;obtain⟨p',q'⟩:=k.pub b i p;exact⟨p',q'.trans q⟩
 ·obtain⟨w,R,D,F,Y,z,y⟩:=h.tk t e b hw sz X;obtain⟨K,T,E,G,h3,u,j⟩:=k.tk t w R D F Y;refine⟨K,T,E,G,h3,yT z u,λhe=>?_⟩;have:w=e:=I
  obtain⟨rfl,rfl,rfl⟩:=y this;have:K=w:=I
  exact j this
theorem TokOk.mono0 {S B:Snap}(T:Ext0 S B){k:Nat}{tok:Tok}{len b off cap:Nat}(h:TokOk S k tok len b off cap):TokOk B k tok len b off cap:=by
 cases tok with
 |no=>trivial
 |clip=>exact h
 |own t e =>
  obtain⟨e0,E,hw0,z,G,N,R⟩:=h;obtain⟨C,F,y,A,K,D,w⟩:=T.tk t e0 E hw0 z G;refine⟨C,F,y,A,K,I,λX u=>?_⟩;have j:C=e0:=I
  obtain⟨rfl,rfl,rfl⟩:=w j;exact R I u
theorem RowOk.mono0 {S B:Snap}(T:Ext0 S B){o e b hw j:Nat}(h:RowOk S o e b hw j):RowOk B o e b hw j:=by
 obtain⟨e0,E,hw0,z,G,N,R⟩:=h;obtain⟨C,F,y,A,K,D,w⟩:=T.tk o e0 E hw0 z G;refine⟨C,F,y,A,K,I,λX=>?_⟩;have u:C=e0:=I
 obtain⟨rfl,rfl,rfl⟩:=w u;exact R I
theorem RowIn.mono0 {S A:Snap}(R:Ext0 S A){o e b:Nat}(h:RowIn S o e b):RowIn A o e b:=by
 obtain⟨e0,D,hw0,y,F,K,N⟩:=h;obtain⟨B,E,w,z,G,C,u⟩:=R.tk o e0 D hw0 y F;refine⟨B,E,w,z,G,I,λT=>?_⟩;have j:B=e0:=I
 obtain⟨rfl,rfl,rfl⟩:=u j;exact N I
theorem VRel.mono0 {S Y:Snap}(A:Ext0 S Y){a:AV}{v:Value}(h:VRel S a v):VRel Y a v:=by
 induction h with
 |undef v=>exact .undef v
 |bool b=>exact .bool b
 |int k n=>exact .int k n
 |str s b h=>exact .str s b h
 |nilp=>exact .nilp
 |ptr o off b h=>exact .ptr o off b (A.phi _ _ h)
 |vp cells b off f E D h2 z =>
  refine .vp cells b off f E (λi hi=>?_) z;obtain⟨p,q⟩:=D i hi;obtain⟨T,X⟩:=A.pub _ _ q;exact⟨X.trans p,T⟩
 |nils=>exact .nils
 |vs k tok l b off cap f B hk D h2 ht sp K z =>
  refine .vs k tok l b off cap f B hk (λj i hj hi=>?_) z (ht.mono0 A) sp K;obtain⟨p,q⟩:=D j i hj hi;obtain⟨T,X⟩:=A.pub _ _ q;exact⟨X.trans p,T⟩
 |rs ag k o off len cap b h y=>exact .rs ag k o off len cap b (A.phi _ _ h) y
 |ws ag k o e len cap b h y=>exact .ws ag k o e len cap b (h.mono0 A) y
 |wp o e off b h=>exact .wp o e off b (h.mono0 A)
 |nilm=>exact .nilm
 |map o b h=>exact .map o b (A.phi _ _ h)
 |nilf=>exact .nilf
 |fn fn first w F C hF hC D h2 N R=>exact .fn fn first w F C hF hC N R
 |nili=>exact .nili
 |iface t v u h z=>exact .iface t v u z
 |agg cells vs E G h z=>exact .agg cells vs E G z
 |tuple l vs G h z=>exact .tuple l vs G z
theorem VRel.mono {S j:Snap}(u:Ext S j){a:AV}{v:Value}(h:VRel S a v):VRel j a v:=h.mono0 u.toExt0
def ZpX (n:Nat)(fz:Nat×Nat):Prop:=∀ i,i<n->¬ (fz.1<=i/\i<fz.2)
def ORel (S:Snap)(j:Nat)(o:Nat):AObj->Prop
 |.cells l=>∃ b c el,S.phi o=O b/\j<=b/\S.w.heap[b]?=O (.cells c el (0,0))/\c.size=Z l /\
  (∀ (i:Nat) (x:AV) (v:Value),l[i]?=O x->c[i]?=O v->VRel S x v)/\(∀ i,¬ S.pub b i)/\l.all AV.isCell=Q
 |.bld T u l=>∃ b,S.phi o=O b/\Lib.IsBuilderF T u j b (Lib.byteCells l) S.w/\T≠u/\(∀ i,¬ S.pub b i) /\
  ∀ v g,S.w.cell? ⟨b,1,L⟩=O v->v.ownBlock=O g->(∃ n hw sz,S.tk o=O (n,g,hw,sz))/\∀ i,¬ S.pub g i
 |.row e l=>∃ b sz c el fz,S.tk o=O (e,b,Z l,sz)/\j<=b/\S.w.heap[b]?=O (.cells c el fz)/\c.size=sz/\Z l<=sz /\
  (∀ (i:Nat) (x:AV) (v:Value),l[i]?=O x->c[i]?=O v->VRel S x v)/\(∀ i,¬ S.pub b i)/\l.all AV.isCell=Q/\ZpX c.size fz
 |.tok e=>∃ b hw sz c el fz,S.tk o=O (e,b,hw,sz)/\j<=b/\S.w.heap[b]?=O (.cells c el fz)/\c.size=sz/\hw<=sz /\
  (∀ i,hw<=i->¬ S.pub b i)/\ZpX c.size fz
 |.map es clock=>∃ b h,S.phi o=O b/\j<=b/\S.w.heap[b]?=O (.map h clock)/\h.size=Z es/\(∀ i,¬ S.pub b i) /\
  (∀ (i:Nat) (k v:AV) (n:Nat) (e:MapEntry),es[i]?=O (k,v,n)->h[i]?=O e->VRel S k e.key/\VRel S v e.val/\e.born=n)
 |.siter s pos=>∃ b s',S.phi o=O b/\j<=b/\S.w.heap[b]?=O (.stringIter s' pos)/\s'.data.toList=s/\(∀ i,¬ S.pub b i)
 |.dead=>True
 |.free=>S.phi o=L/\S.tk o=L
structure Inv (W0:World)(S:Snap)(H:List AObj):Prop where
 below:RowKit.Below W0.heap.size W0 S.w
 objs:∀ o x,H[o]?=O x->ORel S W0.heap.size o x
 past:∀ o,Z H<=o->S.phi o=L/\S.tk o=L
 inj:∀ o o' b,S.phi o=O b->S.phi o'=O b->H[o]?≠O .dead->H[o']?≠O .dead->o=o'
 tinj:∀ t t' e b hw sz e' hw' sz',S.tk t=O (e,b,hw,sz)->S.tk t'=O (e',b,hw',sz')->t=t'
 apart:∀ t e b hw sz o,S.tk t=O (e,b,hw,sz)->S.phi o≠O b
 puball:∀ b i,S.pub b i->b<S.w.heap.size
 dom:∀ o b,S.phi o=O b->b<S.w.heap.size
 tdom:∀ t e b hw sz,S.tk t=O (e,b,hw,sz)->b<S.w.heap.size
 lim:S.lim<=W0.heap.size
end Go.Am
namespace Go.Am
abbrev Hp:=List AObj
inductive ExtK where
 |same
 |indexByte
 |cmp
 |count
 deriving DecidableEq
def KU (c:UInt8):dr->Nat->Int
 |[],_=>-1
 |b::l,i=>if b=c then i else KU c l (i+1)
def QI:dr->dr->Int
 |[],[]=>0
 |[],_::_=>-1
 |_::_,[]=>1
 |a::l,b::m=>if a=b then QI l m else if a<b then -1 else 1
def P8 (c:UInt8):dr->Nat
 |[]=>0
 |b::l=>if b=c then P8 c l+1 else P8 c l
def ZmX:ExtK->List AV->Option AV
 |.same,[x]=>O x
 |.indexByte,[.str s,.int .u8 n]=>O (.int .i64 (KU (zO n.toNat) s 0))
 |.cmp,[.str a,.str b]=>O (.int .i64 (QI a b))
 |.count,[.str s,.int .u8 n]=>O (.int .i64 (P8 (zO n.toNat) s))
 |_,_=>L
def Jz:ExtK->Array Value->Sem Value
 |.same=>Extern.AbiNoEscape.same
 |.indexByte=>Extern.BytealgIndexByte.indexByte
 |.cmp=>Extern.BytealgCompare.compare
 |.count=>Extern.BytealgCount.count
def iL (e:ExtK)(args:List AV)(H:List AObj):Option (AV×List AObj) :=
 match ZmX e args with
 |some v=>O (v,H)
 |none=>L
def Xr {α:Type}(g:Hp->Option (α×Hp)):Prop :=
 ∀ H v H',g H=O (v,H')->Z H<=Z H'/\∀ o,o<Z H->H'[o]?=O .free->H[o]?=O .free/\∀ x,g (H.set o x)=O (v,H'.set o x)
structure EffFn where
 run:List AV->Hp->Option (AV×Hp)
 frm:∀ args,Xr (run args)
structure Cfg where
 P:Program
 glob:Nat->Option (List AV)
 user:FuncId->Bool
 eqok:TypeId->Bool
 pure:FuncId->Bool
 flat:FuncId->Bool
 ext:FuncId->Option ExtK
 sum:FuncId->Option (List AV->Option AV)
 keep:FuncId->Nat->Option dv
 eff:FuncId->Option EffFn:=λ_=>L
 bld:TypeId->Option TypeId:=λ_=>L
 lin:TypeId->Bool:=λ_=>J
 qk:Nat->dv->Bool:=λ_ _=>J
 wrb:TypeId->Bool:=λ_=>J
 ro:FuncId->Bool:=λ_=>J
 rst:TypeId->Nat->Nat->Nat:=λ_ _ _=>0
 far:Option (TypeId->Nat->TypeId->Nat->Bool):=L
 dfr:FuncId->Bool:=λ_=>J
def XD (P:Program)(t:TypeId):Option Bool :=
 match P.underlying t with
 |some (.struct _)=>O Q
 |some (.array _ _)=>O Q
 |some _=>O J
 |none=>L
def Xt (P:Program)(t:TypeId):Option Nat :=
 match P.info? t with
 |some i=>O i.size
 |none=>L
def F5 (P:Program)(t:TypeId):Option Nat :=
 match P.info? t with
 |some i=>O i.bytes
 |none=>L
def ZcC (P:Program)(t:TypeId):Option TypeId :=
 match P.underlying t with
 |some (.slice e)=>O e
 |_=>L
def eA (P:Program)(t:TypeId)(f:Nat):Option Field :=
 match P.underlying t with
 |some (.struct fs)=>fs[f]?
 |_=>L
def Q4:Nat->Value->AV
 |_,.bool b=>.bool b
 |_,.int k n=>.int k n
 |_,.string s=>.str s.data.toList
 |_,.pointer L=>.nilp
 |_,.slice L 0 0=>.nils
 |_,.map L=>.nilm
 |_,.nilFunc=>.nilf
 |_,.nilIface=>.nili
 |n+1,.agg cs=>if (cs.toList.map (Q4 n)).all AV.isCell then .agg (cs.toList.map (Q4 n)) else .undef
 |n+1,.tuple cs=>.tuple (cs.toList.map (Q4 n))
 |n+1,.iface t v=>.iface t (Q4 n v)
 |n+1,.func fn f c=>.fn fn (f.toList.map (Q4 n)) (c.toList.map (Q4 n))
 |_,_=>.undef
def KK (P:Program)(t:TypeId):Option AV :=
 match P.info? t with
 |some i=>match i.zero with
  |some z=>O (Q4 3 z)
  |none=>L
 |none=>L
def eval (C:Cfg)(tm:List AV):Operand->AV
 |.tmp t=>tm.getD t (.tuple [])
 |.const v=>Q4 4 v
 |.global g=>match C.glob g with
  |some h=>.vp h
  |none=>.undef
 |.func f=>.fn (.func f) [] []
def apart (g:Bool)(sz:Nat)(cells:List AV)(off:Nat):Option AV :=
 if g then (if off+sz<=Z cells then O (.agg ((cells.drop off).take sz)) else L) else cells[off]?
def Z4 (g:Bool)(sz:Nat)(a:AV)(H:Hp):Option AV :=
 match a with
 |.ptr o off=>match H[o]? with
  |some (.cells l)=>apart g sz l off
  |_=>L
 |.vp cells=>apart g sz cells 0
 |.wp o e off=>match H[o]? with
  |some (.row e' l)=>if e'=e then apart g sz l off else L
  |_=>L
 |_=>L
def Xy (g:Bool)(sz:Nat)(a:AV):Option AV :=
 match a with
 |.vp cells=>apart g sz cells 0
 |_=>L
def AV.known:AV->Bool
 |.undef|.tuple _=>J
 |_=>Q
def splice (l:List AV)(off:Nat)(h:List AV):List AV:=l.take off++h++l.drop (off+Z h)
def YE (sz:Nat)(a v:AV)(H:Hp):Option Hp :=
 match a with
 |.ptr o off=>match H[o]? with
  |some (.cells l)=>if v.known=Q/\Z v.cells=sz/\off+sz<=Z l then O (H.set o (.cells (splice l off v.cells))) else L
  |_=>L
 |.wp o e off=>match H[o]? with
  |some (.row e' l)=>if e'=e/\v.known=Q/\Z v.cells=sz/\off+sz<=Z l then O (H.set o (.row e (splice l off v.cells))) else L
  |_=>L
 |_=>L
def Z6 (off:Nat)(a:AV):Option AV :=
 match a with
 |.ptr o x=>O (.ptr o (x+off))
 |.wp o e x=>O (.wp o e (x+off))
 |.vp cells=>if off<=Z cells then O (.vp (cells.drop off)) else L
 |_=>L
def Zr (size:Nat)(x i:AV):Option AV :=
 match x,i with
 |.vs k _ l,.int _ n=>if k=size/\0<=n then match l[n.toNat]? with
  |some e=>O (.vp e.cells)
  |none=>L else L
 |.rs _ _ o off len _,.int _ n=>if 0<=n/\n<len then O (.ptr o (off+n.toNat*size)) else L
 |.ws _ _ o e len,.int _ n=>if 0<=n/\n<len then O (.wp o e (n.toNat*size)) else L
 |_,_=>L
def NJ (len size:Nat)(x i:AV):Option AV :=
 match i with
 |.int _ n=>if 0<=n/\n<len then Z6 (n.toNat*size) x else L
 |_=>L
def Zp (x i:AV):Option AV :=
 match x,i with
 |.str s,.int _ n=>if 0<=n then match s[n.toNat]? with
  |some b=>O (.int .u8 b.toNat)
  |none=>L else L
 |_,_=>L
def Zbj (g:Bool)(len size:Nat)(x i:AV):Option AV :=
 match x,i with
 |.agg cs,.int _ n=>if 0<=n/\n<len then apart g size cs (n.toNat*size) else L
 |_,_=>L
def X8 (op:BinOp)(k:IntKind)(a b:Int):Option AV :=
 match op with
 |.add=>O (.int k (k.wrap (a+b)))
 |.sub=>O (.int k (k.wrap (a-b)))
 |.mul=>O (.int k (k.wrap (a*b)))
 |.quo=>if b=0 then L else O (.int k (k.wrap (a.tdiv b)))
 |.rem=>if b=0 then L else O (.int k (a.tmod b))
 |.and=>O (.int k (k.wrap ((BitVec.ofInt k.bits a &&& BitVec.ofInt k.bits b).toNat:Int)))
 |.or=>O (.int k (k.wrap ((BitVec.ofInt k.bits a ||| BitVec.ofInt k.bits b).toNat:Int)))
 |.xor=>O (.int k (k.wrap ((BitVec.ofInt k.bits a ^^^ BitVec.ofInt k.bits b).toNat:Int)))
 |.andNot=>O (.int k (k.wrap ((BitVec.ofInt k.bits a &&& ~~~BitVec.ofInt k.bits b).toNat:Int)))
 |.eql=>O (.bool (a==b))
 |.neq=>O (.bool (a != b))
 |.lss=>O (.bool (decide (a<b)))
 |.leq=>O (.bool (decide (a<=b)))
 |.gtr=>O (.bool (decide (a > b)))
 |.geq=>O (.bool (decide (a ≥ b)))
 |_=>L
def QC (op:BinOp)(a b:dr):Option AV :=
 match op with
 |.add=>if Z a+Z b<=9223372036854775807 then O (.str (a++b)) else L
 |.eql=>O (.bool (a==b))
 |.neq=>O (.bool (!(a==b)))
 |.lss=>O (.bool (Op.bytesLess a b))
 |.leq=>O (.bool (Op.bytesLess a b || a==b))
 |.gtr=>O (.bool (!(Op.bytesLess a b || a==b)))
 |.geq=>O (.bool (!Op.bytesLess a b))
 |_=>L
def Zbh (h:TypeDesc)(x y:AV):Option Bool :=
 match h,x,y with
 |.bool,.bool a,.bool b=>O (a==b)
 |.int _,.int k a,.int k' b=>if k=k' then O (a==b) else L
 |.string,.str a,.str b=>O (a==b)
 |.pointer _,.nilp,.nilp=>O Q
 |.pointer _,.nilp,.ptr _ _=>O J
 |.pointer _,.nilp,.vp _=>O J
 |.pointer _,.ptr _ _,.nilp=>O J
 |.pointer _,.nilp,.wp _ _ _=>O J
 |.pointer _,.wp _ _ _,.nilp=>O J
 |.pointer _,.vp _,.nilp=>O J
 |.slice _,.nils,.nils=>O Q
 |.slice _,.nils,.vs _ _ _=>O J
 |.slice _,.nils,.rs _ _ _ _ _ _=>O J
 |.slice _,.nils,.ws _ _ _ _ _=>O J
 |.slice _,.ws _ _ _ _ _,.nils=>O J
 |.slice _,.vs _ _ _,.nils=>O J
 |.slice _,.rs _ _ _ _ _ _,.nils=>O J
 |.map _ _,.nilm,.nilm=>O Q
 |.map _ _,.nilm,.map _=>O J
 |.map _ _,.map _,.nilm=>O J
 |.func _ _ _,.nilf,.nilf=>O Q
 |.func _ _ _,.nilf,.fn _ _ _=>O J
 |.func _ _ _,.fn _ _ _,.nilf=>O J
 |_,_,_=>L
def RT (P:Program)(rec:TypeId->AV->AV->Option Bool)(xs ys:List AV):List Field->Option Bool
 |[]=>some true
 |f::fs =>
  if f.name ≠ "_" then
   match XD P f.type,Xt P f.type with
   |some g,some sz=>match apart g sz xs f.offset,apart g sz ys f.offset with
    |some u,some v=>match rec f.type u v with
     |some true=>RT P rec xs ys fs
     |r=>r
    |_,_=>none
   |_,_=>none
  else RT P rec xs ys fs
def HJ (h:AV->AV->Option Bool)(g:Bool)(sz:Nat)(xs j:List AV):dv->Option Bool
 |[]=>O Q
 |i::is=>match apart g sz xs (i*sz),apart g sz j (i*sz) with
  |some u,O v=>match h u v with
   |some Q=>HJ h g sz xs j is
   |r=>r
  |_,_=>L
def IP (P:Program)(ok:TypeId->Bool):Nat->TypeId->AV->AV->Option Bool
 |0,_,_,_=>L
 |d+1,t,x,y =>
  match P.underlying t with
  |some (.struct fs)=>match x,y with
   |.agg xs,.agg ys=>if ok t then RT P (IP P ok d) xs ys fs.toList else L
   |_,_=>L
  |some (.array n e)=>match x,y with
   |.agg xs,.agg ys=>if ok t then (match XD P e,Xt P e with
    |some g,O sz=>HJ (IP P ok d e) g sz xs ys (zX n)
    |_,_=>L) else L
   |_,_=>L
  |some h=>Zbh h x y
  |none=>L
def Qg (P:Program)(ok:TypeId->Bool)(op:BinOp)(t:TypeId)(x y:AV):Option AV :=
 match op with
 |.eql=>match IP P ok 20 t x y with
  |some b=>O (.bool b)
  |none=>L
 |.neq=>match IP P ok 20 t x y with
  |some b=>O (.bool (!b))
  |none=>L
 |_=>L
def X6 (op:BinOp)(k k':IntKind)(a b:Int):Option AV :=
 match op with
 |.shl=>if b<0 then L else O (.int k (k.wrap (a*2 ^ (min b.toNat k.bits))))
 |.shr=>if b<0 then L else O (.int k (a.fdiv (2 ^ (min b.toNat k.bits))))
 |op=>if k=k' then X8 op k a b else L
def Z2 (op:BinOp)(x y:AV):Option AV :=
 match x,y with
 |.int k a,.int k' b=>X6 op k k' a b
 |_,_=>L
def Y1 (op:BinOp)(x y:AV):Option AV :=
 match x,y with
 |.str a,.str b=>QC op a b
 |_,_=>L
def Y5 (d:TypeDesc)(op:BinOp)(x y:AV):Option AV :=
 match op with
 |.eql=>match Zbh d x y with
  |some b=>O (.bool b)
  |none=>L
 |.neq=>match Zbh d x y with
  |some b=>O (.bool (!b))
  |none=>L
 |_=>L
def Zvy (P:Program)(ok:TypeId->Bool)(op:BinOp)(t:TypeId)(x y:AV):Option AV :=
 match P.underlying t with
 |some (.int _)=>Z2 op x y
 |some .string=>Y1 op x y
 |some (.struct _)=>Qg P ok op t x y
 |some (.array _ _)=>Qg P ok op t x y
 |some d=>Y5 d op x y
 |none=>L
def Zg0 (P:Program)(t:TypeId):Bool :=
 match P.underlying t with
 |some (.interface _)=>Q
 |_=>J
def Zzz (P:Program)(t:TypeId)(x:AV):Option AV :=
 match P.underlying t with
 |some (.interface _)=>L
 |some _=>O (.iface t x)
 |none=>L
def ZzE (P:Program)(ok:Bool)(t:TypeId)(z:AV)(x:AV):Option AV :=
 match P.underlying t with
 |some (.interface _)=>L
 |some _=>match x with
  |.iface t' v=>if t'=t then O (if ok then .tuple [v,.bool Q] else v) else if ok then O (.tuple [z,.bool J]) else L
  |.nili=>if ok then O (.tuple [z,.bool J]) else L
  |_=>L
 |none=>L
def Zrm (P:Program)(t:TypeId)(name:String):Option FuncId :=
 match P.info? t,P.underlying t with
 |some i,O (.pointer _)=>match i.methods.find? (·.name==name) with
  |some m=>match m.path.toList,m.func with
   |[],O (f,Q)=>O f
   |_,_=>L
  |none=>L
 |_,_=>L
def ZcA (x y:Operand):Bool :=
 match x,y with
 |.const _,_=>Q
 |_,.const _=>Q
 |_,_=>J
def ZjF:AV->AV->Option Bool
 |.nili,.nili=>O Q
 |.nili,.iface _ _=>O J
 |.iface _ _,.nili=>O J
 |_,_=>L
def ZhP (op:BinOp)(x y:AV):Option AV :=
 match op with
 |.eql=>match ZjF x y with
  |some b=>O (.bool b)
  |none=>L
 |.neq=>match ZjF x y with
  |some b=>O (.bool (!b))
  |none=>L
 |_=>L
def YU (op:UnOp)(x:AV):Option AV :=
 match op,x with
 |.not,.bool b=>O (.bool (!b))
 |.neg,.int k n=>O (.int k (k.wrap (0-n)))
 |.xor,.int k n=>X8 .xor k (if k.signed then -1 else k.max) n
 |_,_=>L
def Yb:List (Nat×Nat×AV)->List AV->Option (List AV)
 |[],cells=>O cells
 |(off,size,v)::rest,cells=>if v.known=Q/\Z v.cells=size/\off+size<=Z cells then Yb rest (splice cells off v.cells) else L
def Zml (P:Program)(t:TypeId)(parts:List (Nat×AV)):Option AV :=
 match KK P t,P.underlying t with
 |some (.agg zero),O (.struct fs) =>
  match fs.toList.mapM λf=>(Xt P f.type).map (f.offset,·) with
  |some h=>match parts.mapM λp=>(h[p.1]?).map λ(q:Nat×Nat)=>(q.1,q.2,p.2) with
   |some j=>(Yb j zero).map .agg
   |none=>L
  |none=>L
 |some (.agg zero),O (.array _ e)=>match Xt P e with
  |some size=>(Yb (parts.map λp=>(p.1*size,size,p.2)) zero).map .agg
  |none=>L
 |_,_=>L
def ZB (size:Nat):List (Nat×AV)->List AV->Option (List AV)
 |[],l=>O l
 |(i,v)::rest,l=>if v.known=Q/\Z v.cells=size/\i<Z l then ZB size rest (l.set i v) else L
def ZjE (P:Program)(t:TypeId)(len:Nat)(parts:List (Nat×AV)):Option AV :=
 match ZcC P t with
 |some e=>match Xt P e,KK P e with
  |some size,O z=>if len*size<=16777216/\z.known=Q/\Z z.cells=size/\0<size then (ZB size parts (zG len z)).map (.vs size .clip) else L
  |_,_=>L
 |none=>L
def Xd (x:AV)(y:Nat):Option Nat :=
 match x with
 |.int _ n=>if 0<=n/\n<=y then O n.toNat else L
 |_=>L
def Yy (len cap:Nat)(lo hi mx:Option AV):Option (Nat×Nat×Nat) :=
 match (match mx with|some v=>Xd v cap|none=>O cap) with
 |none=>L
 |some m=>match (match hi,mx with|some v,_=>Xd v m|none,L=>O len|none,O _=>L) with
  |none=>L
  |some h=>match (match lo with|some v=>Xd v h|none=>O 0) with
   |none=>L
   |some l=>O (l,h,m)
def Bb (s:dr)(lo hi:Option AV):Option AV :=
 match Yy (Z s) (Z s) lo hi L with
 |some (l,h,_)=>O (.str ((s.take h).drop l))
 |none=>L
def Yk (size:Nat)(x:AV)(lo hi mx:Option AV):Option AV :=
 match x with
 |.nils=>match Yy 0 0 lo hi mx with
  |some _=>O .nils
  |none=>L
 |.vs k tok l=>if k=size then match Yy (Z l) (Z l) lo hi mx with
  |some (a,h,m)=>O (.vs k (match mx with
   |some _=>if h=m then .clip else .no
   |none=>if h=Z l then tok else .no) ((l.take h).drop a))
  |none=>L else L
 |.rs ag k o off len cap=>match Yy len cap lo hi mx with
  |some (a,h,m)=>O (.rs ag k o (if m=a then off else off+a*size) (h-a) (m-a))
  |none=>L
 |.ws ag k o e len=>match lo,hi,mx with
  |none,O v,L=>match Xd v len with
   |some h=>if k=size then O (.ws ag k o e h) else L
   |none=>L
  |_,_,_=>L
 |_=>L
def Vr (ag:Bool)(k:Nat):Nat->List AV->List AV
 |0,_=>[]
 |n+1,l=>(if ag then .agg (l.take k) else l.headD .undef)::Vr ag k n (l.drop k)
def elems (k:Nat)(x:AV)(H:Hp):Option (List AV) :=
 match x with
 |.nils=>O []
 |.vs k' _ l=>if k'=k then O l else L
 |.str s=>if k=1 then O (s.map λb=>.int .u8 b.toNat) else L
 |.rs ag k' o off len _=>if k'=k/\(ag=Q\/k=1) then match H[o]? with
  |some (.cells cs)=>if off+len*k<=Z cs then O (Vr ag k len (cs.drop off)) else L
  |_=>L else L
 |.ws ag k' o e len=>if k'=k/\(ag=Q\/k=1) then match H[o]? with
  |some (.row e' cs)=>if e'=e/\len*k<=Z cs then O (Vr ag k len cs) else L
  |_=>L else L
 |_=>L
def Wr:TypeDesc->AV->Bool
 |.bool,.bool _=>Q
 |.int k,.int k' _=>decide (k'=k)
 |.string,.str _=>Q
 |_,_=>J
def JB:AV->AV->Option Bool
 |.int k a,.int k' b=>if k=k' then O (a==b) else L
 |.str a,.str b=>O (a==b)
 |.bool a,.bool b=>O (a==b)
 |_,_=>L
def X2 (k:AV):List (AV×AV×Nat)->Nat->Option (Option (Nat×AV))
 |[],_=>O L
 |e::es,i=>match JB k e.1 with
  |some Q=>O (O (i,e.2.1))
  |some J=>X2 k es (i+1)
  |none=>L
def DI (P:Program)(t:TypeId):Option (TypeDesc×TypeId) :=
 match P.underlying t with
 |some (.map k e)=>match P.underlying k with
  |some d=>O (d,e)
  |none=>L
 |_=>L
def Xs (x:AV)(H:Hp):Option (List (AV×AV×Nat)) :=
 match x with
 |.nilm=>O []
 |.map o=>match H[o]? with
  |some (.map es _)=>O es
  |_=>L
 |_=>L
def Yj (d:TypeDesc)(z:AV)(h:Bool)(x k:AV)(H:Hp):Option AV :=
 if Wr d k then match Xs x H with
  |some j=>match X2 k j 0 with
   |some (O (_,v))=>O (if h then .tuple [v,.bool Q] else v)
   |some L=>O (if h then .tuple [z,.bool J] else z)
   |none=>L
  |none=>L else L
def XL (d:TypeDesc)(m k v:AV)(H:Hp):Option (AV×Hp) :=
 match m with
 |.map o=>match H[o]? with
  |some (.map es c)=>if Wr d k then match X2 k es 0 with
   |some (O (i,_))=>O (.tuple [],H.set o (.map (es.set i (k,v,(es.getD i (.undef,.undef,0)).2.2)) c))
   |some L=>O (.tuple [],H.set o (.map (es++[(k,v,c)]) (c+1)))
   |none=>L else L
  |_=>L
 |_=>L
def K7 (x:AV)(H:Hp):Option AV :=
 match Xs x H with
 |some h=>O (.int .i64 (Z h))
 |none=>L
def Jx (d:TypeDesc)(m k:AV)(H:Hp):Option (AV×Hp) :=
 match m with
 |.map o=>match H[o]? with
  |some (.map es c)=>if Wr d k then match X2 k es 0 with
   |some (O (i,_))=>O (.tuple [],H.set o (.map (es.eraseIdx i) c))
   |some L=>O (.tuple [],H.set o (.map es c))
   |none=>L else L
  |_=>L
 |_=>L
def Xe (n h:Nat):Bool:=decide (n*(h+1)<=140737488355328)
def YR (k h:Nat)(s:AV)(xs:List AV)(H:Hp):Option (AV×Hp) :=
 match s with
 |.nils=>if xs=[] then O (.nils,H)
  else if Xe (Z xs) h then O (.vs k (.own (Z H) (Z xs)) xs,H++[.tok (Z xs)]) else L
 |.vs k' tok l =>
  if k'=k/\Xe (Z l+Z xs) h then
   if xs=[] then O (.vs k tok l,H) else
   match tok with
   |.clip=>O (.vs k (.own (Z H) (Z l+Z xs)) (l++xs),H++[.tok (Z l+Z xs)])
   |.own t e=>match H[t]? with
    |some (.tok e')=>if e'=e then O (.vs k (.own t (e+Z xs)) (l++xs),H.set t (.tok (e+Z xs))) else L
    |_=>L
   |.no=>L
  else L
 |_=>L
def ZqG (n:Nat)(l:List AV):List AV:=if Z l<=n then l else l.take n
theorem ZcB (n:Nat)(l:List AV):ZqG n l=l.take n:=by
 unfold ZqG;split
 ·rw[List.take_of_length_le (by assumption)]
 ·rfl
def BF (ag:Bool)(k h:Nat)(s:AV)(xs:List AV)(H:Hp):Option (AV×Hp) :=
 match s with
 |.nils=>if xs=[] then O (.nils,H)
  else if Xe (Z xs) h then O (.ws ag k (Z H) 0 (Z xs),H++[.row 0 (xs.map AV.cells).flatten]) else L
 |.vs k' .clip l =>
  if k'=k/\Xe (Z l+Z xs) h then
   if xs=[] then O (.vs k .clip l,H) else O (.ws ag k (Z H) 0 (Z l+Z xs),H++[.row 0 ((l++xs).map AV.cells).flatten])
  else L
 |.ws ag' k' o e len =>
  if ag'=ag/\k'=k/\Xe (len+Z xs) h then
   if xs=[] then O (.ws ag k o e len,H) else
   match H[o]? with
   |some (.row e' l)=>if e'=e/\len*k<=Z l then O (.ws ag k o (e+1) (len+Z xs),H.set o (.row (e+1) (ZqG (len*k) l++(xs.map AV.cells).flatten))) else L
   |_=>L
  else L
 |_=>YR k h s xs H
def IN (k:Nat)(d x:AV)(H:Hp):Option (AV×Hp) :=
 match elems k x H with
 |some xs=>match d with
  |.nils=>if xs=[] then O (.int .i64 0,H) else L
  |.vs _ _ _=>if xs=[] then O (.int .i64 0,H) else L
  |.rs _ k' o off len _=>if xs=[] then O (.int .i64 0,H) else if k'=k/\Z xs<=len then match H[o]? with
   |some (.cells cs)=>if off+Z xs*k<=Z cs then O (.int .i64 (Z xs),H.set o (.cells (splice cs off (xs.map AV.cells).flatten))) else L
   |_=>L else L
  |_=>L
 |none=>L
def K8 (k h:Nat)(ag:Bool)(z:AV)(len cap:AV)(H:Hp):Option (AV×Hp) :=
 match len,cap with
 |.int .i64 n,.int .i64 c =>
  if 0<=n/\n<=c/\z.known=Q/\Z z.cells=k/\0<k/\Xe c.toNat h then
   if n=0 then O (.vs k (.own (Z H) 0) [],H++[.tok 0])
   else O (.rs ag k (Z H) 0 n.toNat c.toNat,H++[.cells ((zG c.toNat z.cells).flatten)])
  else L
 |_,_=>L
def Zf (d:TypeDesc)(x:AV):Option AV :=
 match d with
 |.string=>match x with
  |.str s=>O (.int .i64 (Z s))
  |_=>L
 |.array n _=>O (.int .i64 n)
 |.slice _=>match x with
  |.nils=>O (.int .i64 0)
  |.vs _ _ l=>O (.int .i64 (Z l))
  |.rs _ _ _ _ len _=>O (.int .i64 len)
  |.ws _ _ _ _ len=>O (.int .i64 len)
  |_=>L
 |_=>L
def Zmp (P:Program)(t:TypeId)(x:AV):Option AV :=
 match P.underlying t with
 |some d=>Zf d x
 |none=>L
def WU:AV->AV->Option AV
 |.int k x,.int k' y=>if k=k' then O (.int k (if y<x then y else x)) else L
 |_,_=>L
def K9:AV->AV->Option AV
 |.int k x,.int k' y=>if k=k' then O (.int k (if y > x then y else x)) else L
 |_,_=>L
def V8:List AV->Option dr
 |[]=>O []
 |.int .u8 n::r=>match V8 r with
  |some l=>O (zO n.toNat::l)
  |none=>L
 |_=>L
def ZS (k:IntKind)(x:AV):Option AV :=
 match x with
 |.int _ n=>O (.int k (k.wrap n))
 |_=>L
def Zy2 (x:AV):Option AV :=
 match x with
 |.str s=>O (.str s)
 |_=>L
def Ql (x:AV):Option AV :=
 match x with
 |.nils=>O (.str [])
 |.vs k _ l=>if k=1 then match V8 l with
  |some s=>O (.str s)
  |none=>L else L
 |_=>L
def Zko (x:AV):Option AV :=
 match x with
 |.str s=>O (.vs 1 .no (s.map λb=>.int .u8 b.toNat))
 |_=>L
def ZbT:Option TypeDesc->Bool
 |some (.int .u8)=>Q
 |_=>J
def Zhs (P:Program)(u:TypeId->Bool)(j h:TypeId)(x:AV):Option AV :=
 match P.underlying j,P.underlying h with
 |some (.int _),O (.int k)=>ZS k x
 |some .string,O .string=>Zy2 x
 |some (.slice e),O .string=>if ZbT (P.underlying e) then Ql x else L
 |some .string,O (.slice e)=>if ZbT (P.underlying e) then (if u h then L else Zko x) else L
 |_,_=>L
def Zm (c a b:AV):Option AV :=
 match c with
 |.bool t=>O (if t then a else b)
 |_=>L
def Zw (x:AV):Option AV :=
 match x with
 |.ptr o off=>O (.ptr o off)
 |.vp cs=>O (.vp cs)
 |.wp o e off=>O (.wp o e off)
 |_=>L
def ZR (x:AV)(lo hi mx:Option AV):Option AV :=
 match x,mx with
 |.str s,L=>Bb s lo hi
 |_,_=>L
def Cb (g:Bool)(sz off:Nat)(x:AV):Option AV :=
 match x with
 |.agg cs=>apart g sz cs off
 |_=>L
def ZK (x:AV)(i:Nat):Option AV :=
 match x with
 |.tuple l=>l[i]?
 |_=>L
def Yc (C:Cfg)(ev:Operand->AV):Op->Option AV
 |.move x|.assign x=>O (ev x)
 |.pick c a b=>Zm (ev c) (ev a) (ev b)
 |.build t parts=>Zml C.P t (parts.toList.map λp=>(p.1,ev p.2))
 |.buildSlice t len parts=>ZjE C.P t len (parts.toList.map λp=>(p.1,ev p.2))
 |.load t a=>match XD C.P t,Xt C.P t with
  |some g,O sz=>Xy g sz (ev a)
  |_,_=>L
 |.nilCheck x=>Zw (ev x)
 |.binOp op t x y _=>if Zg0 C.P t then (if ZcA x y then ZhP op (ev x) (ev y) else L) else Zvy C.P C.eqok op t (ev x) (ev y)
 |.unOp op _ x=>YU op (ev x)
 |.convert s d x=>Zhs C.P C.wrb s d (ev x)
 |.makeFunc (.func f) first captured=>O (.fn (.func f) (first.toList.map ev) (captured.toList.map ev))
 |.slice t x lo hi mx=>match C.P.underlying t with
  |some .string=>ZR (ev x) (lo.map ev) (hi.map ev) (mx.map ev)
  |some (.slice e)=>match Xt C.P e with
   |some size=>Yk size (ev x) (lo.map ev) (hi.map ev) (mx.map ev)
   |none=>L
  |_=>L
 |.fieldAddr t x f=>match eA C.P t f with
  |some h=>match Xt C.P h.type with
   |some sz=>if 0<sz then Z6 h.offset (ev x) else L
   |none=>L
  |none=>L
 |.field t x f=>match eA C.P t f with
  |some h=>match XD C.P h.type,Xt C.P h.type with
   |some g,O sz=>Cb g sz h.offset (ev x)
   |_,_=>L
  |none=>L
 |.indexAddr t x i=>match C.P.underlying t with
  |some (.slice e)=>match Xt C.P e with
   |some size=>Zr size (ev x) (ev i)
   |none=>L
  |some (.array len e)=>match Xt C.P e with
   |some size=>NJ len size (ev x) (ev i)
   |none=>L
  |_=>L
 |.index t x i=>match C.P.underlying t with
  |some .string=>Zp (ev x) (ev i)
  |some (.array len e)=>match XD C.P e,Xt C.P e with
   |some g,O size=>Zbj g len size (ev x) (ev i)
   |_,_=>L
  |_=>L
 |.extract t i=>ZK (ev t) i
 |.makeInterface t x=>Zzz C.P t (ev x)
 |.typeAssert x _ t ok=>match KK C.P t with
  |some z=>ZzE C.P ok t z (ev x)
  |none=>L
 |.call { callee:=.builtin .len,args,argTypes }=>match args.toList,argTypes.toList with
  |[x],[t]=>Zmp C.P t (ev x)
  |_,_=>L
 |.call { callee:=.builtin .min,args,.. }=>match args.toList with
  |[x,y]=>WU (ev x) (ev y)
  |_=>L
 |.call { callee:=.builtin .max,args,.. }=>match args.toList with
  |[x,y]=>K9 (ev x) (ev y)
  |_=>L
 |_=>L
abbrev ZQ:=FuncId->List AV->Hp->Option (AV×Hp)
def Zk (H:Hp)(n:Nat):Nat->AV->Option AV
 |0,_=>L
 |f+1,a=>match a with
  |.ptr o off=>if o<n then O (.ptr o off) else L
  |.map o=>if o<n then O (.map o) else L
  |.vp cells=>match cells.mapM (Zk H n f) with
   |some l=>O (.vp l)
   |none=>L
  |.vs k tok l=>match l.mapM (Zk H n f) with
   |some l=>O (.vs k (match tok with|.own t e=>if t<n then .own t e else .no|tok=>tok) l)
   |none=>L
  |.rs ag k o off len cap=>if o<n then O (.rs ag k o off len cap) else
   match elems k (.rs ag k o off len cap) H with
   |some l=>match l.mapM (Zk H n f) with
    |some l=>O (.vs k .no l)
    |none=>L
   |none=>L
  |.ws ag k o e len=>if o<n then O (.ws ag k o e len) else
   match elems k (.ws ag k o e len) H with
   |some l=>match l.mapM (Zk H n f) with
    |some l=>O (.vs k .no l)
    |none=>L
   |none=>L
  |.wp o e off=>if o<n then O (.wp o e off) else L
  |.fn fn a b=>match a.mapM (Zk H n f),b.mapM (Zk H n f) with
   |some a,O b=>O (.fn fn a b)
   |_,_=>L
  |.iface t v=>match Zk H n f v with
   |some v=>O (.iface t v)
   |none=>L
  |.agg l=>match l.mapM (Zk H n f) with
   |some l=>O (.agg l)
   |none=>L
  |.tuple l=>match l.mapM (Zk H n f) with
   |some l=>O (.tuple l)
   |none=>L
  |a=>O a
def kR (g:List AV->Option AV)(args:List AV)(H:List AObj):Option (AV×List AObj) :=
 match g args with
 |some v=>O (v,H)
 |none=>L
def Gw:Nat->AV->Bool
 |_,.bool _=>Q
 |_,.int _ _=>Q
 |_,.str _=>Q
 |_,.nilp=>Q
 |_,.nils=>Q
 |_,.nilm=>Q
 |_,.nilf=>Q
 |_,.nili=>Q
 |n+1,.agg l=>l.all (Gw n)
 |n+1,.tuple l=>l.all (Gw n)
 |_,_=>J
def Ze (call:List AV->Hp->Option (AV×Hp))(args:List AV)(H:Hp):Option (AV×Hp) :=
 match args.mapM (Zk [] 0 9) with
 |some args'=>match call args' [] with
  |some (v,H1)=>match Zk H1 0 9 v with
   |some v'=>O (v',H)
   |none=>L
  |none=>L
 |none=>L
mutual
def AV.eqb:AV->AV->Bool
 |.undef,.undef=>Q
 |.bool a,.bool b=>a==b
 |.int k a,.int k' b=>decide (k=k')&&decide (a=b)
 |.str a,.str b=>decide (a=b)
 |.nilp,.nilp=>Q
 |.ptr o f,.ptr o' f'=>zC o o'&&zC f f'
 |.vp a,.vp b=>AV.eqbL a b
 |.nils,.nils=>Q
 |.vs k t l,.vs k' t' l'=>zC k k'&&decide (t=t')&&AV.eqbL l l'
 |.rs g k o f n c,.rs g' k' o' f' n' c'=>g==g'&&zC k k'&&zC o o'&&zC f f'&&zC n n'&&zC c c'
 |.ws g k o e n,.ws g' k' o' e' n'=>g==g'&&zC k k'&&zC o o'&&zC e e'&&zC n n'
 |.wp o e f,.wp o' e' f'=>zC o o'&&zC e e'&&zC f f'
 |.nilm,.nilm=>Q
 |.map o,.map o'=>zC o o'
 |.nilf,.nilf=>Q
 |.fn f a b,.fn f' a' b'=>decide (f=f')&&AV.eqbL a a'&&AV.eqbL b b'
 |.nili,.nili=>Q
 |.iface t v,.iface t' v'=>zC t t'&&AV.eqb v v'
 |.agg l,.agg l'=>AV.eqbL l l'
 |.tuple l,.tuple l'=>AV.eqbL l l'
 |_,_=>J
def AV.eqbL:List AV->List AV->Bool
 |[],[]=>Q
 |a::l,b::m=>AV.eqb a b&&AV.eqbL l m
 |_,_=>J
end
def Zbv:List (AV×AV×Nat)->List (AV×AV×Nat)->Bool
 |[],[]=>Q
 |(a,b,n)::l,(a',b',n')::m=>AV.eqb a a'&&AV.eqb b b'&&zC n n'&&Zbv l m
 |_,_=>J
def AObj.eqb:AObj->AObj->Bool
 |.cells a,.cells b=>AV.eqbL a b
 |.bld T u l,.bld T' u' l'=>zC T T'&&zC u u'&&decide (l=l')
 |.tok e,.tok e'=>zC e e'
 |.row e l,.row e' l'=>zC e e'&&AV.eqbL l l'
 |.map es c,.map es' c'=>Zbv es es'&&zC c c'
 |.siter s p,.siter s' p'=>decide (s=s')&&zC p p'
 |.dead,.dead=>Q
 |.free,.free=>Q
 |_,_=>J
def Zbw:Hp->Hp->Bool
 |[],[]=>Q
 |a::l,b::m=>AObj.eqb a b&&Zbw l m
 |_,_=>J
mutual
theorem AV.eqb_eq:∀ (a b:AV),AV.eqb a b=Q->a=b
 |a,b,h=>by
  unfold AV.eqb at h;split at h
  all_goals first
   |rfl
   |cases h;done
   |skip
  ·rw[beq_iff_eq]at h;rw[h]
  ·simp only[zB,decide_eq_true_eq]at h;rw[h.1,h.2]
  ·rw[decide_eq_true_eq]at h;rw[h]
  ·simp only[zB,zJ]at h;rw[h.1,h.2]
  ·rw[AV.eqbL_eq _ _ h]
  ·simp only[zB,zJ,decide_eq_true_eq]at h;rw[h.1.1,h.1.2,AV.eqbL_eq _ _ h.2]
  ·simp only[zB,zJ,beq_iff_eq]at h;obtain⟨⟨⟨⟨⟨rfl,rfl⟩,rfl⟩,rfl⟩,rfl⟩,rfl⟩:=h;rfl
  ·simp only[zB,zJ,beq_iff_eq]at h;obtain⟨⟨⟨⟨rfl,rfl⟩,rfl⟩,rfl⟩,rfl⟩:=h;rfl
  ·simp only[zB,zJ]at h;obtain⟨⟨rfl,rfl⟩,rfl⟩:=h;rfl
  ·rw[zJ]at h;rw[h]
  ·simp only[zB,decide_eq_true_eq]at h;rw[h.1.1,AV.eqbL_eq _ _ h.1.2,AV.eqbL_eq _ _ h.2]
  ·simp only[zB,zJ]at h;rw[h.1,AV.eqb_eq _ _ h.2]
  ·rw[AV.eqbL_eq _ _ h]
  ·rw[AV.eqbL_eq _ _ h]
theorem AV.eqbL_eq:∀ (a b:List AV),AV.eqbL a b=Q->a=b
 |[],[],_=>rfl
 |a::l,b::m,h=>by
  simp only[AV.eqbL,zB]at h;rw[AV.eqb_eq _ _ h.1,AV.eqbL_eq _ _ h.2]
 |[],_::_,h=>by simp[AV.eqbL]at h
 |_::_,[],h=>by simp[AV.eqbL]at h
end
theorem Zpw:∀ a b,Zbv a b=Q->a=b
 |[],[],_=>rfl
 |(a,b,n)::l,(a',b',n')::m,h=>by
  simp only[Zbv,zB,zJ]at h;rw[AV.eqb_eq _ _ h.1.1.1,AV.eqb_eq _ _ h.1.1.2,h.1.2,Zpw _ _ h.2]
 |[],_::_,h=>by simp[Zbv]at h
 |_::_,[],h=>by simp[Zbv]at h
theorem AObj.eqb_eq (a b:AObj)(h:AObj.eqb a b=Q):a=b:=by
 unfold AObj.eqb at h;split at h
 all_goals first
  |rfl
  |cases h;done
  |skip
 ·rw[AV.eqbL_eq _ _ h]
 ·simp only[zB,zJ,decide_eq_true_eq]at h;obtain⟨⟨rfl,rfl⟩,rfl⟩:=h;rfl
 ·rw[zJ]at h;rw[h]
 ·simp only[zB,zJ]at h;rw[h.1,AV.eqbL_eq _ _ h.2]
 ·simp only[zB,zJ]at h;rw[Zpw _ _ h.1,h.2]
 ·simp only[zB,zJ,decide_eq_true_eq]at h;rw[h.1,h.2]
theorem ZjN:∀ a b,Zbw a b=Q->a=b
 |[],[],_=>rfl
 |a::l,b::m,h=>by
  simp only[Zbw,zB]at h;rw[AObj.eqb_eq _ _ h.1,ZjN _ _ h.2]
 |[],_::_,h=>by simp[Zbw]at h
 |_::_,[],h=>by simp[Zbw]at h
mutual
theorem AV.eqb_refl:∀ (a:AV),AV.eqb a a=Q
 |.undef|.nilp|.nils|.nilm|.nilf|.nili=>by simp[AV.eqb]
 |.bool _|.int _ _|.str _|.ptr _ _|.rs _ _ _ _ _ _|.ws _ _ _ _ _|.wp _ _ _|.map _=>by simp[AV.eqb]
 |.vp l|.agg l|.tuple l=>by simp[AV.eqb,AV.eqbL_refl l]
 |.vs _ _ l=>by simp[AV.eqb,AV.eqbL_refl l]
 |.fn _ a b=>by simp[AV.eqb,AV.eqbL_refl a,AV.eqbL_refl b]
 |.iface _ v=>by simp[AV.eqb,AV.eqb_refl v]
theorem AV.eqbL_refl:∀ (a:List AV),AV.eqbL a a=Q
 |[]=>by simp[AV.eqbL]
 |a::l=>by simp[AV.eqbL,AV.eqb_refl a,AV.eqbL_refl l]
end
theorem Zkq:∀ a,Zbv a a=Q
 |[]=>rfl
 |(a,b,n)::l=>by simp[Zbv,AV.eqb_refl a,AV.eqb_refl b,Zkq l]
theorem AObj.eqb_refl (a:AObj):AObj.eqb a a=Q:=by
 cases a <;> simp[AObj.eqb,AV.eqbL_refl,Zkq]
theorem Zbx:∀ a,Zbw a a=Q
 |[]=>rfl
 |a::l=>by simp[Zbw,AObj.eqb_refl a,Zbx l]
def Ve (call:List AV->Hp->Option (AV×Hp))(args:List AV)(H:Hp):Option (AV×Hp) :=
 match call args H with
 |some (v,H1)=>if Zbw (H1.take (Z H)) H then match Zk H1 (Z H) 9 v with
  |some v'=>O (v',H)
  |none=>L else L
 |none=>L
def XR (C:Cfg)(call:ZQ)(id:FuncId)(args:List AV)(H:Hp):Option (AV×Hp) :=
 match C.ext id with
 |some e=>iL e args H
 |none=>match C.sum id with
  |some g=>kR g args H
  |none=>match C.eff id with
  |some g=>g.run args H
  |none=>if C.user id then (if C.flat id then Ze (call id) args H else if C.ro id then Ve (call id) args H else call id args H) else L
def YJ (C:Cfg)(call:ZQ)(f:AV)(args:List AV)(H:Hp):Option (AV×Hp) :=
 match f with
 |.fn (.func id) first captured=>XR C call id (first++args++captured) H
 |_=>L
def ZcL (C:Cfg)(f:FuncId):Bool:=(C.ext f).isSome || (C.sum f).isSome || (C.user f&&C.flat f&&(C.eff f).isNone)
def qC (C:Cfg)(g:AV->List AV->Hp->Option (AV×Hp))(f:AV)(args:List AV)(H:Hp):Option (AV×Hp) :=
 match f with
 |.fn (.func id) first captured=>if ZcL C id then g (.fn (.func id) first captured) args H else L
 |_=>L
def XS (C:Cfg)(call:ZQ):AV->List AV->Hp->Option (AV×Hp):=qC C (YJ C call)
def ZAt:Operand->Nat
 |.tmp i=>i
 |_=>0
def jV (C:Cfg)(f:Operand)(args:Array Operand):Bool :=
 match f with
 |.tmp t=>C.qk t (args.toList.map ZAt)
 |_=>J
def ZY (x:AV)(H:Hp):Option (AV×Hp):=if x.known then O (.ptr (Z H) 0,H++[.cells x.cells]) else L
def stC (C:Cfg):Op->Nat
 |.store t (.tmp a) (.tmp x)=>C.rst t a x
 |_=>0
def stV (k:Nat)(a:AV):Bool :=
 match k with
 |0=>Q
 |1=>match a with|.wp _ _ _=>Q|_=>J
 |_=>match a with|.ptr _ _=>Q|_=>J
def Zg (sz:Nat)(a v:AV)(H:Hp):Option (AV×Hp) :=
 match YE sz a v H with
 |some H'=>O (.tuple [],H')
 |none=>L
def Ya (k h:Nat)(s x:AV)(H:Hp):Option (AV×Hp) :=
 match elems k x H with
 |some xs=>YR k h s xs H
 |none=>L
def V1 (ag:Bool)(k h:Nat)(s x:AV)(H:Hp):Option (AV×Hp) :=
 match elems k x H with
 |some xs=>BF ag k h s xs H
 |none=>L
def ZzG:AV->Bool
 |.agg [.nilp,.nils]=>Q
 |_=>J
def ZB5 (C:Cfg)(e:TypeId):Option Bool:=if C.lin e then XD C.P e else L
def Zvo (P:Program)(e:TypeId)(k:Nat):Bool :=
 match KK P e with
 |some z=>z.known&&Z z.cells==k
 |none=>J
def Xl:TypeDesc->Bool
 |.slice _|.string=>Q
 |_=>J
def Qm (x:AV)(H:Hp):Option (List AV) :=
 match x with
 |.str _=>L
 |x=>elems 1 x H
def Bg (x:AV)(H:Hp):Option (AV×Hp) :=
 match Qm x H with
 |some l=>match V8 l with
  |some s=>O (.str s,H)
  |none=>L
 |none=>L
def SM (x:AV)(H:Hp):Option (AV×Hp) :=
 match x with
 |.str s=>O (.ws J 1 (Z H) 0 (Z s),H++[.row 0 (s.map λb=>.int .u8 b.toNat)])
 |_=>L
def Zmo (C:Cfg)(call:ZQ)(x:AV)(name:String)(args:List AV)(H:Hp):Option (AV×Hp) :=
 match x with
 |.iface t v=>match Zrm C.P t name with
  |some f=>YJ C call (.fn (.func f) [v] []) args H
  |none=>L
 |_=>L
def ZP (C:Cfg)(call:ZQ)(ev:Operand->AV)(H:Hp):Op->Option (AV×Hp)
 |.alloc e=>match KK C.P e with
  |some z=>match C.bld e with
   |some u=>if ZzG z&&e != u then O (.ptr (Z H) 0,H++[.bld e u []]) else L
   |none=>if z.known then O (.ptr (Z H) 0,H++[.cells z.cells]) else L
  |none=>L
 |.box _ x=>ZY (ev x) H
 |.load t a=>match XD C.P t,Xt C.P t with
  |some g,O sz=>(Z4 g sz (ev a) H).map (·,H)
  |_,_=>L
 |.store t a x=>match Xt C.P t with
  |some sz=>if stV (stC C (.store t a x)) (ev a) then Zg sz (ev a) (ev x) H else L
  |none=>L
 |.makeSlice t l c=>match ZcC C.P t with
  |some e=>match Xt C.P e,F5 C.P e,XD C.P e,KK C.P e with
   |some k,O bytes,O ag,O z=>K8 k bytes ag z (ev l) (ev c) H
   |_,_,_,_=>L
  |none=>L
 |.convert s d x=>match C.P.underlying s,C.P.underlying d with
  |some (.slice e),O .string=>if ZbT (C.P.underlying e) then Bg (ev x) H else L
  |some .string,O (.slice e)=>if C.wrb d&&ZbT (C.P.underlying e) then SM (ev x) H else L
  |_,_=>L
 |.makeMap _ L=>O (.map (Z H),H++[.map [] 0])
 |.lookup t x k ck=>match DI C.P t with
  |some (d,e)=>match KK C.P e with
   |some z=>(Yj d z ck (ev x) (ev k) H).map (·,H)
   |none=>L
  |none=>L
 |.mapUpdate t m k x=>match DI C.P t with
  |some (d,_)=>XL d (ev m) (ev k) (ev x) H
  |none=>L
 |.insert t m k x=>match DI C.P t with
  |some (d,_)=>XL d (ev m) (ev k) (ev x) H
  |none=>L
 |.call { callee:=.builtin .append,args,argTypes }=>match args.toList,argTypes.toList with
  |[s,x],[st,xt]=>match ZcC C.P st,C.P.underlying xt with
   |some e,O xd=>if !Xl xd then L else match Xt C.P e,F5 C.P e with
    |some k,O bytes=>if 0<k&&Zvo C.P e k then (match ZB5 C e with|some ag=>V1 ag k bytes (ev s) (ev x) H|none=>Ya k bytes (ev s) (ev x) H) else L
    |_,_=>L
   |_,_=>L
  |_,_=>L
 |.call { callee:=.builtin .len,args,argTypes }=>match args.toList,argTypes.toList with
  |[x],[t]=>match DI C.P t with
   |some _=>(K7 (ev x) H).map (·,H)
   |none=>L
  |_,_=>L
 |.call { callee:=.builtin .delete,args,argTypes }=>match args.toList,argTypes.toList with
  |[m,k],[t,_]=>match DI C.P t with
   |some (d,_)=>Jx d (ev m) (ev k) H
   |none=>L
  |_,_=>L
 |.call { callee:=.builtin .copy,args,argTypes }=>match args.toList,argTypes.toList with
  |[d,x],[dt,_]=>match ZcC C.P dt with
   |some e=>match Xt C.P e with
    |some k=>if 0<k then IN k (ev d) (ev x) H else L
    |none=>L
   |none=>L
  |_,_=>L
 |.call { callee:=.value f,args,.. }=>if jV C f args then XS C call (ev f) (args.toList.map ev) H else YJ C call (ev f) (args.toList.map ev) H
 |.call { callee:=.invoke r m,args,.. }=>Zmo C call (ev r) m (args.toList.map ev) H
 |_=>L
def Xi (C:Cfg)(call:ZQ)(ev:Operand->AV)(H:Hp)(fl:Bool)(op:Op):Option (AV×Hp) :=
 match Yc C ev op with
 |some v=>O (v,H)
 |none=>if fl then L else ZP C call ev H op
abbrev St:=List AV×Hp
def Xk (tm:List AV)(h:Option Tmp)(v:AV):List AV :=
 match h with
 |some d=>tm.set d v
 |none=>tm
def WP (ops:Array Oper)(tm:List AV)(o:Oper):Option Bool :=
 match o.guard with
 |none=>O Q
 |some (j,want)=>match (match ops[j]? with|some g=>g.dst|none=>L) with
  |none=>O J
  |some d=>match tm[d]? with
   |some (.bool b)=>O (b==want)
   |some .undef=>L
   |_=>O J
def YA (C:Cfg)(call:ZQ)(ops:Array Oper)(fl:Bool)(o:Oper)(tm:List AV)(H:Hp):Option (AV×Hp) :=
 match WP ops tm o with
 |none=>L
 |some J=>O (.tuple [],H)
 |some Q=>Xi C call (eval C tm) H fl o.op
def U1 (C:Cfg)(call:ZQ)(ops:Array Oper)(fl:Bool)(o:Oper)(s:St):Option St :=
 match YA C call ops fl o s.1 s.2 with
 |some (v,H)=>O (Xk s.1 o.dst v,H)
 |none=>L
def Yg (C:Cfg):Op->Nat
 |.move _|.assign _|.pick _ _ _|.build _ _|.buildSlice _ _ _|.nilCheck _|.binOp _ _ _ _ _|.unOp _ _ _|.makeInterface _ _|.makeFunc _ _ _
 |.slice _ _ _ _ _|.fieldAddr _ _ _|.field _ _ _|.indexAddr _ _ _|.index _ _ _|.extract _ _|.typeAssert _ _ _ _=>0
 |.call { callee:=.builtin .min,.. }|.call { callee:=.builtin .max,.. }=>0
 |.convert _ d _=>if C.wrb d then 2 else 1
 |.load _ _|.lookup _ _ _ _=>1
 |.call { callee:=.builtin .len,.. }=>1
 |.call { callee:=.value (.func f),.. }=>if ZcL C f then 0 else 2
 |.call { callee:=.value f,args,.. }=>if jV C f args then 0 else 2
 |_=>2
def ZnP (C:Cfg):Op->Bool
 |.call { callee:=.value (.func f),.. }=>C.ro f&&!C.flat f&&(C.ext f).isNone&&(C.sum f).isNone&&(C.eff f).isNone
 |_=>J
def Ot (C:Cfg)(x:Op):Bool:=decide (Yg C x<=1) || ZnP C x
def Ox (C:Cfg)(x y:Op):Bool:=(decide (stC C x=1)&&decide (stC C y=2)) || (decide (stC C x=2)&&decide (stC C y=1))
def iN (C:Cfg)(x y:Op):Option (Nat×Nat) :=
 match C.far with
 |none=>L
 |some f=>match x,y with
  |.load t (.tmp a),.store u (.tmp b) _=>if f t a u b then O (a,b) else L
  |_,_=>L
def ZbB (C:Cfg)(x y:Op):Bool:=(iN C x y).isSome || (iN C y x).isSome
def iM (C:Cfg)(ops:Array Oper):List (Nat×Nat) :=
 match C.far with
 |none=>[]
 |some _=>ops.toList.flatMap λx=>ops.toList.filterMap λy=>iN C x.op y.op
def Kj (ops:Array Oper)(a:Nat):Bool:=ops.toList.all λo=>match o.dst with|some d=>!zC d a|none=>Q
def Eb (x y:AV):Bool :=
 match x,y with
 |.ptr o _,.ptr o' _=>!zC o o'
 |_,_=>J
def RW (C:Cfg)(ops:Array Oper):Bool:=(iM C ops).all λp=>Kj ops p.1&&Kj ops p.2
def ZqU (C:Cfg)(ops:Array Oper)(ev:Operand->AV):Bool:=(iM C ops).all λp=>Eb (ev (.tmp p.1)) (ev (.tmp p.2))
def F9 (C:Cfg)(ops:Array Oper)(ev:Operand->AV):Bool:=RW C ops&&ZqU C ops ev
def ZhL (C:Cfg)(x y:Op):Bool:=!(decide (Yg C x=0) || decide (Yg C y=0) || (Ot C x&&Ot C y) || Ox C x y || ZbB C x y)
def XT (ops:Array Oper):Nat->Nat->Nat->Bool
 |0,_,_=>J
 |n+1,j,i=>match ops[j]? with
  |none=>J
  |some o=>o.after.toList.any λe=>Region.binds .any e&&(e.on==i || XT ops n e.on i)
def Ja:Op->Bool
 |.alloc _|.box _ _|.makeMap _ L=>Q
 |_=>J
def Vs (C:Cfg)(ops:Array Oper)(i:Nat):Bool :=
 match ops[i]? with
 |some o=>Ja o.op&&o.guard.isNone&&(zX ops.size).any λj=>decide (j<i)&&(match ops[j]? with|some o'=>decide (2<=Yg C o'.op)|none=>J)&&!XT ops ops.size i j&&!XT ops ops.size j i
 |none=>J
def Vt (C:Cfg)(ops:Array Oper)(n:Nat):Nat:=(zX n).countP (Vs C ops)
def LW (C:Cfg)(ev:Operand->AV):Op->Option AObj
 |.alloc e=>match KK C.P e with
  |some z=>if z.known&&(C.bld e).isNone then O (.cells z.cells) else L
  |none=>L
 |.box _ x=>if (ev x).known then O (.cells (ev x).cells) else L
 |.makeMap _ L=>O (.map [] 0)
 |_=>L
def ZB4 (x:AObj):Bool :=
 match x with
 |.free=>J
 |_=>Q
def ZB3 (x:AObj)(p:Nat):AV :=
 match x with
 |.map _ _=>.map p
 |_=>.ptr p 0
def LS (p:Nat)(h:Option AObj)(H:Hp):Option (AV×Hp) :=
 match h with
 |some l=>match H[p]? with
  |some .free=>if ZB4 l then O (ZB3 l p,H.set p l) else L
  |_=>L
 |none=>L
def Qw:Nat->Hp->Hp
 |0,H=>H
 |n+1,H=>H++zG (n+1) .free
def XA (C:Cfg)(ops:Array Oper)(i:Nat):Bool :=
 match ops[i]? with
 |none=>J
 |some o=>(zX ops.size).any λj=>j != i&&(match ops[j]? with|some o'=>ZhL C o.op o'.op&&(decide (Yg C o.op<=1) || decide (2<=Yg C o'.op))|none=>J)&&!(match ops[j]? with|some o'=>decide (Yg C o.op<=1)&&Ja o'.op&&decide (i<j)|none=>J)&&!(decide (i<j)&&Vs C ops j)&&!(decide (j<i)&&Vs C ops i)&&!XT ops ops.size i j&&!XT ops ops.size j i
def Wb (C:Cfg)(call:ZQ)(ops:Array Oper)(draw:Bool)(b i:Nat)(o:Oper)(s:St):Option St :=
 if draw&&Vs C ops i then (if XA C ops i then L else match LS (b+Vt C ops i) (LW C (eval C s.1) o.op) s.2 with
  |some (v,H)=>O (Xk s.1 o.dst v,H)
  |none=>L)
 else U1 C call ops (draw&&XA C ops i) o s
def Yz (C:Cfg)(call:ZQ)(ops:Array Oper)(draw:Bool)(b:Nat):Nat->List Oper->St->Option St
 |_,[],s=>O s
 |i,o::rest,s=>match Wb C call ops draw b i o s with
  |some s'=>Yz C call ops draw b (i+1) rest s'
  |none=>L
inductive AExit where
 |normal
 |exit (id:Nat)
 |goto (l:Nat)
 |ret
 deriving DecidableEq
def XZ (keep:dv):Nat->List AV->List AV
 |_,[]=>[]
 |i,v::r=>(if keep.contains i then v else .undef)::XZ keep (i+1) r
def YQ:Code->Option Nat
 |.region id _ _=>O id
 |.seq a b=>match YQ a with
  |some r=>O r
  |none=>YQ b
 |.block _ c|.loop c|.scope c=>YQ c
 |_=>L
def trim (kp:Nat->Option dv)(c:Code)(s:St):St :=
 match YQ c with
 |none=>s
 |some r=>match kp r with
  |none=>s
  |some keep=>(XZ keep 0 s.1,s.2)
def Rm (a:AV)(H:Hp):AV×Hp :=
 match a with
 |.ptr o 0=>match H[o]? with
  |some (.cells l)=>(.vp l,H.set o .dead)
  |some .free=>(a,H.set o .dead)
  |_=>(a,H)
 |_=>(a,H)
def frz1 (s:St)(t:Nat):St:=(s.1.set t (Rm (s.1.getD t (.tuple [])) s.2).1,(Rm (s.1.getD t (.tuple [])) s.2).2)
def ZjR (h:dv)(s:St):St:=h.foldl frz1 s
def frzs (kp:Nat->Option dv)(id:Nat)(s:St):St :=
 match kp (id+1000000) with
 |none=>s
 |some h=>ZjR h s
def Wa (f:St->Option (AExit×St)):Nat->St->Option (AExit×St)
 |0,_=>L
 |n+1,s=>match f s with
  |some (.normal,s')=>Wa f n s'
  |r=>r
def Vb (ops:Array Oper):Bool :=
 Region.noSelect ops&&(zX ops.size).all λk =>
  match ops[k]? with
  |none=>J
  |some o=>(o.after.toList.all λe=>!Region.binds .any e || decide (e.on<k)) &&
   (zX ops.size).all λj=>decide (j<=k) || (match ops[j]? with
    |none=>J
    |some o'=>XT ops ops.size j k || o.apart ops o')
def XW:Code->Bool
 |.goto _=>J
 |.seq a b=>XW a&&XW b
 |.cond _ x y=>XW x&&XW y
 |.block _ c|.loop c|.scope c=>XW c
 |_=>Q
def Zz (C:Cfg)(call:ZQ)(kp:Nat->Option dv)(n:Nat):Code->St->Option (AExit×St)
 |.skip,s=>O (.normal,s)
 |.region id ops draw,s=>if draw&&!(Vb ops&&F9 C ops (eval C (frzs kp id s).1)) then L else match Yz C call ops draw (frzs kp id s).2.length 0 ops.toList ((frzs kp id s).1,Qw (if draw then Vt C ops ops.size else 0) (frzs kp id s).2) with
  |some s'=>O (.normal,s')
  |none=>L
 |.seq a b,s=>match Zz C call kp n a s with
  |some (.normal,s')=>Zz C call kp n b (trim kp b s')
  |r=>r
 |.cond c x y,s=>match eval C s.1 c with
  |.bool t=>if t then Zz C call kp n x s else Zz C call kp n y s
  |_=>L
 |.block id c,s=>match Zz C call kp n c s with
  |some (.exit i,s')=>if i=id then O (.normal,s') else O (.exit i,s')
  |r=>r
 |.loop c,s=>Wa (λs=>Zz C call kp n c (trim kp c s)) n s
 |.scope c,s=>if XW c then Zz C call kp n c s else L
 |.exit id,s=>O (.exit id,s)
 |.label _,s=>O (.normal,s)
 |.goto l,s=>O (.goto l,s)
 |.ret,s=>O (.ret,s)
 |_,_=>L
def WJ (C:Cfg)(s:St):ResultVar->Option AV
 |.tmp t=>O (s.1.getD t (.tuple []))
 |.cell a t=>match XD C.P t,Xt C.P t with
  |some g,O sz=>Z4 g sz (s.1.getD a (.tuple [])) s.2
  |_,_=>L
def VQ (C:Cfg)(fn:Func)(s:St):Option AV :=
 match fn.results.toList.mapM (WJ C s) with
 |some [v]=>O v
 |some l=>O (.tuple l)
 |none=>L
open Classical in
noncomputable def Znh (h:Hp)(v:AV)(H:Hp):Option (AV×Hp) :=
 if H.take (Z h)=h then match Zk H (Z h) 9 v with
  |some v'=>O (v',h)
  |none=>L else L
noncomputable def FZ (C:Cfg)(f:FuncId)(H:Hp)(r:AV×Hp):Option (AV×Hp):=if C.pure f then Znh H r.1 r.2 else O r
noncomputable def body (C:Cfg)(call:ZQ)(n:Nat)(f:FuncId)(fn:Func)(c:Code)(args:List AV)(H:Hp):Option (AV×Hp) :=
 match Zz C call (C.keep f) n c (args++zG (fn.ntmps-Z args) .undef,H) with
 |some (.normal,s)|some (.ret,s)=>match VQ C fn s with
  |some v=>FZ C f H (v,s.2)
  |none=>L
 |_=>L
def Xg (K:Nat):Code->Code
 |.ret=>.exit K
 |.seq a b=>.seq (Xg K a) (Xg K b)
 |.cond c x y=>.cond c (Xg K x) (Xg K y)
 |.block id c=>.block id (Xg K c)
 |.loop c=>.loop (Xg K c)
 |.scope c=>.scope (Xg K c)
 |c=>c
def GC (K:Nat):Code->Bool
 |.exit id=>!zC id K
 |.seq a b=>GC K a&&GC K b
 |.cond _ x y=>GC K x&&GC K y
 |.block id c=>!zC id K&&GC K c
 |.loop c=>GC K c
 |.scope c=>GC K c
 |_=>Q
def R0 (x:Nat):Code->Bool
 |.region _ ops _=>Kj ops x
 |.seq a b=>R0 x a&&R0 x b
 |.cond _ a b=>R0 x a&&R0 x b
 |.block _ c=>R0 x c
 |.loop c=>R0 x c
 |.scope c=>R0 x c
 |_=>Q
def eK (C:Cfg)(g:FuncId):Bool:=C.user g&&(!C.flat g&&(!C.ro g&&((C.ext g).isNone&&((C.sum g).isNone&&((C.eff g).isNone&&!C.dfr g)))))
def ZhO (C:Cfg)(N:Nat)(ops:Array Oper):Option (Oper×Oper×Nat) :=
 match ops.toList with
 |[o1,o2]=>match o1.op,o1.dst,o1.guard with
  |.makeFunc (.func g) _ _,O x,L=>match o2.op,o2.dst,o2.guard with
   |.defer c,L,L=>match c.callee with
    |.value (.tmp y)=>if zC x y&&(Nat.blt x N&&(c.args.isEmpty&&eK C g)) then O (o1,{ o2 with op:=.call c },x) else L
    |_=>L
   |_,_,_=>L
  |_,_,_=>L
 |_=>L
def D4 (C:Cfg)(N:Nat):Code->Code
 |.seq a b=>match a with
  |.region id ops J=>match ZhO C N ops with
   |some (o1,o2,x)=>if R0 x b&&GC 900001 b then .seq (.region id #[o1] J) (.seq (.block 900001 (Xg 900001 b)) (.seq (.region 900002 #[o2] J) .ret)) else .seq (.region id ops J) b
   |none=>.seq a (D4 C N b)
  |_=>.seq a (D4 C N b)
 |c=>c
def L8 (C:Cfg)(f:FuncId)(fn:Func):Option Code :=
 match C.dfr f with
 |false=>fn.body
 |true=>match fn.body with
  |some c=>O (D4 C fn.ntmps c)
  |none=>L
noncomputable def call (C:Cfg):Nat->ZQ
 |0,_,_,_=>L
 |n+1,f,args,H=>match C.P.funcs[f]? with
  |none=>L
  |some fn=>match L8 C f fn with
   |none=>L
   |some c=>body C (call C n) n f fn c args H
end Go.Am
namespace Go.Am
open RowKit
section
variable {P:Program}{S:Snap}{W0:World}{H:Hp}
theorem Zq6 {C:Cfg}{call:ZQ}{f:AV}{args:List AV}{r:AV×Hp}(h:XS C call f args H=O r):YJ C call f args H=O r:=by
 unfold XS qC at h;split at h
 ·split at h
  ·exact h
  ·cases h
 ·cases h
theorem Zq5 {C:Cfg}{call:ZQ}{b:Bool}{f:AV}{args:List AV}{r:AV×Hp}(h:(if b then XS C call f args H else YJ C call f args H)=O r):YJ C call f args H=O r:=by
 cases b with
 |true=>exact Zq6 h
 |false=>exact h
def Yields (P:Program)(W0:World)(S:Snap)(H:Hp)(s:Sem Value)(v:AV)(H':Hp):Prop :=
 Inv W0 S H->∃ v' h,s.run P S.w=.ok v' h.w/\Ext S h/\Inv W0 h H'/\VRel h v v'
theorem Yields.same {s:Sem Value}{v:AV}(v':Value)(h:s.run P S.w=.ok v' S.w)(u:VRel S v v'):Yields P W0 S H s v H :=
 λj=>⟨v',S,h,Ext.refl S,j,u⟩
theorem Inv.size (h:Inv W0 S H):W0.heap.size<=S.w.heap.size:=h.below.size
theorem NN {w:World}{b:Nat}{o:Obj}(h:w.heap[b]?=O o):b<w.heap.size:=by
 rcases zD b w.heap.size with j|j
 ·exact j
 ·rw[zY j]at h;cases h
theorem _root_.Go.Lib.BuilderAtF.frame {T e:TypeId}{B b:Nat}{p:Value}{C:List Value}{w w':World}(h:Lib.BuilderAtF T e B b p C w)(F:w'.heap[b]?=w.heap[b]?)
 (K:∀ v g,w.cell? ⟨b,1,L⟩=O v->v.ownBlock=O g->w'.heap[g]?=w.heap[g]?):Lib.BuilderAtF T e B b p C w':=by
 obtain⟨E,v,u,j,A⟩:=h;have G:w.cell? ⟨b,1,L⟩=O v:=by rw[Lib.cell_of_heap u];rfl
 refine⟨E,v,F.trans u,⟨j.1,?_⟩,A⟩;rcases j.2 with h|⟨g,cap,cur,fz,D,y,z,rest⟩
 ·exact .inl h
 ·exact .inr ⟨g,cap,cur,fz,D,y,(K v g G (by rw[D];rfl)).trans z,rest⟩
theorem _root_.Go.Lib.IsBuilderF.frame {T e:TypeId}{B b:Nat}{j:List Value}{w w':World}(h:Lib.IsBuilderF T e B b j w)(u:w'.heap[b]?=w.heap[b]?)
 (y:∀ v g,w.cell? ⟨b,1,L⟩=O v->v.ownBlock=O g->w'.heap[g]?=w.heap[g]?):Lib.IsBuilderF T e B b j w' :=
 h.elim (λh=>.inl (h.frame u y)) λh=>.inr (h.frame u y)
theorem _root_.Go.Lib.BuilderAtF.own_lt {T e:TypeId}{B b:Nat}{p:Value}{z:List Value}{w:World}(h:Lib.BuilderAtF T e B b p z w){v:Value}{g:Nat}(u:w.cell? ⟨b,1,L⟩=O v)(A:v.ownBlock=O g):g<w.heap.size:=by
 obtain⟨D,v',y,j,C⟩:=h;rw[Lib.cell_of_heap y]at u;injection u with u;subst u;exact (j.lt g A).2
theorem _root_.Go.Lib.IsBuilderF.own_lt {T e:TypeId}{B b:Nat}{y:List Value}{w:World}(h:Lib.IsBuilderF T e B b y w){v:Value}{g:Nat}(u:w.cell? ⟨b,1,L⟩=O v)(j:v.ownBlock=O g):g<w.heap.size :=
 h.elim (λh=>h.own_lt u j) λh=>h.own_lt u j
theorem ORel.frame {S R:Snap}(N:Ext S R){B0 o:Nat}{x:AObj}(h:ORel S B0 o x)
 (K:∀ b,(S.phi o=O b\/∃ e hw sz,S.tk o=O (e,b,hw,sz))->b<S.w.heap.size->R.w.heap[b]?=S.w.heap[b]?/\∀ i,R.pub b i->S.pub b i)
 (G:R.tk o=S.tk o) (ad:R.phi o=S.phi o):ORel R B0 o x:=by
 cases x with
 |cells l =>
  obtain⟨b,c,el,j,z,y,E,C,X,h7⟩:=h;obtain⟨B,D⟩:=K b (.inl j) (NN y);exact⟨b,c,el,N.phi _ _ j,z,B.trans y,E,λi x v hi F=>(C i x v hi F).mono N,λi A=>X i (D i A),h7⟩
 |bld T u l =>
  obtain⟨b,j,z,y,E,C⟩:=h;have ac:b<S.w.heap.size:=z.elim (λh=>h.lt) λh=>h.lt;obtain⟨B,D⟩:=K b (.inl j) ac;have Y:∀ i,R.w.cell? ⟨b,i,L⟩=S.w.cell? ⟨b,i,L⟩:=λi=>by unfold World.cell?;rw[B]
  refine⟨b,N.phi _ _ j,z.frame B λv g F hg=>?_,y,λi A=>E i (D i A),λv g F hg=>?_⟩
  ·obtain⟨⟨n,hw,sz,q⟩,_⟩:=C v g F hg;exact (K g (.inr ⟨_,_,_,q⟩) (z.own_lt F hg)).1
  ·rw[Y]at F;obtain⟨⟨n,hw,sz,q⟩,q2⟩:=C v g F hg;exact⟨⟨n,hw,sz,G.trans q⟩,λi A=>q2 i ((K g (.inr ⟨_,_,_,q⟩) (z.own_lt F hg)).2 i A)⟩
 |row e l =>
  obtain⟨b,sz,c,el,fz,j,z,y,E,C,X,h7,h8,h9⟩:=h;obtain⟨B,D⟩:=K b (.inr ⟨_,_,_,j⟩) (NN y);exact⟨b,sz,c,el,fz,G.trans j,z,B.trans y,E,C,λi x v hi F=>(X i x v hi F).mono N,λi A=>h7 i (D i A),h8,h9⟩
 |tok e =>
  obtain⟨b,hw,sz,c,el,fz,j,z,y,E,C,X,h7⟩:=h;obtain⟨B,D⟩:=K b (.inr ⟨_,_,_,j⟩) (NN y);exact⟨b,hw,sz,c,el,fz,G.trans j,z,B.trans y,E,C,λi hi A=>X i hi (D i A),h7⟩
 |map es aa =>
  obtain⟨b,ab,j,z,y,E,C,X⟩:=h;obtain⟨B,D⟩:=K b (.inl j) (NN y)
  exact⟨b,ab,N.phi _ _ j,z,B.trans y,E,λi A=>C i (D i A),λi k v n e hi he =>
   let ⟨p,q,r⟩:=X i k v n e hi he;⟨p.mono N,q.mono N,r⟩⟩
 |siter s pos =>
  obtain⟨b,s',j,z,y,E,C⟩:=h;obtain⟨B,D⟩:=K b (.inl j) (NN y);exact⟨b,s',N.phi _ _ j,z,B.trans y,E,λi A=>C i (D i A)⟩
 |dead=>trivial
 |free=>exact⟨ad.trans h.1,G.trans h.2⟩
def Snap.drew (S:Snap):Snap:={ S with w:=S.w.drew }
theorem Ext.drew (S:Snap):Ext S S.drew :=
 ⟨⟨λ_ _ h=>h,λ_ _ h=>⟨h,rfl⟩,λ_ e b hw sz h=>⟨e,b,hw,sz,h,yA _,λ_=>⟨rfl,rfl,rfl⟩⟩⟩,rfl,λ_ _ h _=>h⟩
theorem Inv.drew (j:Inv W0 S H):Inv W0 S.drew H :=
 ⟨j.below.drew,λo x h=>(j.objs o x h).frame (Ext.drew S) (λ_ _ _=>⟨rfl,λ_ h=>h⟩) rfl rfl,j.past,j.inj,j.tinj,j.apart,j.puball,j.dom,j.tdom,j.lim⟩
def Snap.grow (S:Snap)(o:Obj):Snap:={ S with w:=S.w.alloc o,pub:=λb i=>S.pub b i\/b=S.w.heap.size }
theorem Ext.grow (j:Inv W0 S H)(o:Obj):Ext S (S.grow o):=by
 refine⟨⟨λ_ _ h=>h,λb i h=>⟨.inl h,?_⟩,λ_ e b hw sz h=>⟨e,b,hw,sz,h,yA _,λ_=>⟨rfl,rfl,rfl⟩⟩⟩,rfl,λb i u w=>u.elim id λe=>by have:=j.lim;have:=j.below.size;omega⟩;exact World.cell?_alloc_lt _ _ _ (j.puball b i h)
theorem Inv.grow (j:Inv W0 S H)(o:Obj):Inv W0 (S.grow o) H:=by
 refine⟨j.below.alloc j.size o,λn x h=>(j.objs n x h).frame (Ext.grow j o) (λb _ u=>⟨Below.heap_alloc S.w o b u,λi y=>?_⟩) rfl rfl,
  j.past,j.inj,j.tinj,j.apart,λb i h=>?_,λo b h=>?_,λt e b hw sz h=>?_,j.lim⟩
 ·rcases y with y|rfl
  ·exact y
  ·exact absurd u (Nat.lt_irrefl _)
 ·show b<(S.w.alloc o).heap.size;rw[World.size_alloc];rcases h with h|rfl
  ·exact yE (j.puball b i h)
  ·exact Nat.lt_succ_self _
 ·show b<(S.w.alloc _).heap.size;rw[World.size_alloc];exact yE (j.dom _ b h)
 ·show b<(S.w.alloc _).heap.size;rw[World.size_alloc];exact yE (j.tdom _ _ b _ _ h)
theorem Xa {t:TypeId}{n:Nat}(h:Xt P t=O n)(w:World):(sizeOf t).run P w=.ok n w:=by
 unfold Xt at h
 cases hi:P.info? t with
 |none=>simp[hi]at h
 |some i=>simp[hi]at h;subst h;simp[sizeOf,typeInfo,hi]
theorem C1 {t:TypeId}{g:Bool}(h:XD P t=O g)(w:World):(isAgg t).run P w=.ok g w:=by
 unfold XD at h;unfold isAgg
 cases j:P.underlying t with
 |none=>simp[j]at h
 |some d=>rw[Sem.run_bind,run_underlying j];cases d <;> simp_all
structure CellsRel (S:Snap)(l:List AV)(c:Array Value):Prop where
 size:c.size=Z l
 rel:∀ (i:Nat) (x:AV) (v:Value),l[i]?=O x->c[i]?=O v->VRel S x v
 cell:l.all AV.isCell=Q
theorem CellsRel.get {l:List AV}{c:Array Value}(h:CellsRel S l c){i:Nat}{x:AV}(hi:l[i]?=O x):∃ v,c[i]?=O v/\VRel S x v:=by
 have j:i<c.size:=by
  rw[h.size];rcases zD i (Z l) with u|u
  ·exact u
  ·rw[zA u]at hi;cases hi
 exact⟨c[i],zH j,h.rel i x _ hi (zH j)⟩
theorem CellsRel.mono {S j:Snap}(w:Ext S j){l:List AV}{c:Array Value}(h:CellsRel S l c):CellsRel j l c :=
 ⟨h.size,λi x v hi u=>(h.rel i x v hi u).mono w,h.cell⟩
theorem Zqf {l:List AV}(h:∀ (i:Nat) (x:AV),l[i]?=O x->x.isCell=Q):l.all AV.isCell=Q:=by
 rw[zI];intro x j;obtain⟨i,hi⟩:=List.getElem?_of_mem j;exact h i x hi
theorem Zib {l:List AV}(h:l.all AV.isCell=Q){i:Nat}{x:AV}(hi:l[i]?=O x):x.isCell=Q:=zI.1 h x (yC hi)
theorem Zcx {l:List AV}(h:l.all AV.isCell=Q)(a n:Nat):((l.drop a).take n).all AV.isCell=Q:=by
 rw[zI]at h ⊢;exact λx j=>h x (zM (yD j))
theorem CellsRel.extract {l:List AV}{c:Array Value}(h:CellsRel S l c)(a n:Nat)(y:a+n<=Z l):CellsRel S ((l.drop a).take n) (c.extract a (a+n)):=by
 refine⟨by simp[h.size];omega,λi x v hi j=>?_,Zcx h.cell a n⟩
 have u:i<n:=by
  rcases zD i n with w|w
  ·exact w
  ·rw[zA (by simp;omega)]at hi;cases hi
 rw[zQ u,zT]at hi;refine h.rel (a+i) x v hi ?_;rw[Array.getElem?_extract]at j;split at j
 ·exact j
 ·cases j
theorem VRel.cells {a:AV}{v:Value}(h:VRel S a v)(j:a.known=Q):CellsRel S a.cells v.cells:=by
 cases h with
 |undef v=>cases j
 |tuple _ _ _ _=>cases j
 |agg cells vs w y h=>exact⟨y,h,w⟩
 |_ =>
  refine⟨rfl,λi x v hi u=>?_,rfl⟩
  cases i with
  |zero =>
   simp[AV.cells]at hi;simp[Value.cells]at u;subst hi u
   first
    |exact .bool _
    |exact .int _ _
    |exact .str _ _ ‹_›
    |exact .nilp
    |exact .ptr _ _ _ ‹_›
    |exact .vp _ _ _ _ ‹_› ‹_› ‹_›
    |exact .nils
    |exact .vs _ _ _ _ _ _ _ ‹_› ‹_› ‹_› ‹_› ‹_› _ ‹_›
    |exact .rs _ _ _ _ _ _ _ ‹_› ‹_›
    |exact .ws _ _ _ _ _ _ _ ‹_› ‹_›
    |exact .wp _ _ _ _ ‹_›
    |exact .nilm
    |exact .map _ _ ‹_›
    |exact .nilf
    |exact .fn _ _ _ _ _ ‹_› ‹_› ‹_› ‹_›
    |exact .nili
    |exact .iface _ _ _ ‹_›
  |succ n=>simp[AV.cells]at hi
theorem BU {t:TypeId}{g:Bool}{sz off:Nat}{l:List AV}{c:Array Value}{v:AV}(A:XD P t=O g)(C:Xt P t=O sz)(z:CellsRel S l c)
 (h:apart g sz l off=O v):∃ v',(part t c off).run P S.w=.ok v' S.w/\VRel S v v':=by
 unfold apart at h
 cases g with
 |true =>
  simp only[if_true]at h;split at h
  ·rename_i j;injection h with h;subst h;have y:=z.extract off sz j;exact⟨.agg (c.extract off (off+sz)),by simp[part,C1 A,Xa C],.agg _ _ y.cell y.size y.rel⟩
  ·cases h
 |false =>
  simp only[zU,if_false]at h;obtain⟨u,D,B⟩:=z.get h;exact⟨u,by simp[part,C1 A,D],B⟩
theorem LX {t:TypeId}{g:Bool}{sz off b:Nat}{l:List AV}{f:Nat->Value}{v:AV}(E:XD P t=O g)(R:Xt P t=O sz)
 (C:∀ i,i<Z l->S.w.cell? ⟨b,i+off,L⟩=O (f i)) (D:∀ (i:Nat) (x:AV),l[i]?=O x->VRel S x (f i)) (G:l.all AV.isCell=Q) (h:apart g sz l 0=O v) :
 ∃ v',(loadVar t ⟨b,off,L⟩).run P S.w=.ok v' S.w/\VRel S v v':=by
 unfold apart at h;have u:∀ j,(⟨b,off,L⟩:Addr).add j=⟨b,j+off,L⟩:=λj=>by unfold Addr.add;split <;> simp_all [yU]
 cases g with
 |true =>
  simp only[if_true]at h;split at h
  ·rename_i N;injection h with h;subst h;have K:=run_loadCells (P:=P) S.w ⟨b,off,L⟩ sz f (λj T=>by rw[u];exact C j I);refine⟨.agg ((zX sz).map f).toArray,by simp[loadVar,C1 E,Xa R,K],.agg _ _ (Zcx G 0 sz) (by simp;omega) (λi x v hi F=>?_)⟩
   have y:i<sz:=by
    rcases zD i sz with A|A
    ·exact A
    ·rw[zA (by simp;omega)]at hi;cases hi
   simp[y]at hi F;subst F;exact D i x hi
  ·cases h
 |false =>
  simp only[zU,if_false]at h
  have z:0<Z l:=by
   cases l with
   |nil=>simp at h
   |cons=>simp
  have B:=C 0 z;simp only[yN]at B;exact⟨f 0,by simp[loadVar,C1 E,B],D 0 v h⟩
end
section
variable {P:Program}{S:Snap}{W0:World}{H:Hp}
theorem ZbQ {op:BinOp}{k:IntKind}{a b:Int}{v:AV}(h:X8 op k a b=O v)(t:TypeId) :
 ∃ v',(binOp op t (.int k a) (.int k b)).run P S.w=.ok v' S.w/\VRel S v v':=by
 cases op <;> simp only[X8]at h
 case quo =>
  split at h
  ·cases h
  ·injection h with h;subst h;exact⟨_,by simp[binOp,Op.intDiv, *],.int _ _⟩
 case rem =>
  split at h
  ·cases h
  ·injection h with h;subst h;exact⟨_,by simp[binOp,Op.intDiv, *],.int _ _⟩
 case shl=>cases h
 case shr=>cases h
 case add|sub|mul =>
  injection h with h;subst h;exact⟨_,by simp[binOp,Op.intArith],.int _ _⟩
 case and|or|xor|andNot =>
  injection h with h;subst h;exact⟨_,by simp[binOp,Op.intBits],.int _ _⟩
 all_goals
  injection h with h;subst h;exact⟨_,by simp[binOp,Op.intCmp],.bool _⟩
theorem W8 (a:ByteArray):Z a.data.toList=a.size:=by cases a;rfl
theorem ZnX {op:BinOp}{x y:dr}{v:AV}{a b:ByteArray}(z:a.data.toList=x)(A:b.data.toList=y)(h:QC op x y=O v) :
 ∃ v',(Op.stringOp op a b).run P S.w=.ok v' S.w/\VRel S v v':=by
 subst z A;cases op <;> simp only[QC]at h
 case add =>
  split at h
  ·rename_i j;injection h with h;subst h
   have u:¬ (((a.size+b.size:Nat):Int) > IntKind.i64.max):=by
    rw[W8,W8]at j;rw[IntKind.max_i64];omega
   refine⟨.string (a++b),by simp only[Op.stringOp,if_neg u,Sem.run_pure],.str _ _ ?_⟩;simp
  ·cases h
 case sub|mul|quo|rem|and|or|xor|shl|shr|andNot=>cases h
 all_goals (injection h with h;subst h;exact⟨_,by simp only[Op.stringOp,ByteArray.toList_eq,Sem.run_pure],.bool _⟩)
theorem ZjM {d:Nat}{z:TypeId->AV->AV->Option Bool}{xs T:List AV}{C D:Array Value}(hx:CellsRel S xs C)(hy:CellsRel S T D)
 (K:∀ (t:TypeId) (x y:AV) (u v:Value) (r:Bool),VRel S x u->VRel S y v->z t x y=O r->(Op.equalIn d t u v).run P S.w=.ok r S.w) :
 ∀ (fs:List Field) (r:Bool),RT P z xs T fs=O r->(Op.eqFields d C D fs).run P S.w=.ok r S.w:=by
 intro fs
 induction fs with
 |nil=>intro r h;simp[RT]at h;subst h;rfl
 |cons f fs R =>
  intro r h;unfold RT at h;unfold Op.eqFields;split at h
  ·rename_i A;rw[if_pos A];split at h
   ·rename_i g sz G N;split at h
    ·rename_i u v X Y;obtain⟨u',r1,E⟩:=BU G N hx X;obtain⟨v',r2,F⟩:=BU G N hy Y;simp only[Sem.run_bind,r1,r2,Result.andThen_ok];split at h
     ·rename_i j;simp only[K _ _ _ _ _ _ E F j,Result.andThen_ok,yS,zU,if_false];exact R r h
     ·rename_i B
      cases r with
      |true=>exact absurd h B
      |false=>simp[K _ _ _ _ _ _ E F h]
    ·cases h
   ·cases h
  ·rename_i A;rw[if_neg A];exact R r h
theorem Zly {d:Nat}{A:AV->AV->Option Bool}{e:TypeId}{g:Bool}{sz:Nat}{xs R:List AV}{C D:Array Value}(G:XD P e=O g)(N:Xt P e=O sz)(Y:CellsRel S xs C)(hy:CellsRel S R D)
 (K:∀ (x y:AV) (u v:Value) (r:Bool),VRel S x u->VRel S y v->A x y=O r->(Op.equalIn d e u v).run P S.w=.ok r S.w) :
 ∀ (z:dv) (r:Bool),HJ A g sz xs R z=O r->(Op.eqItems d e sz C D z).run P S.w=.ok r S.w:=by
 intro z
 induction z with
 |nil=>intro r h;simp[HJ]at h;subst h;rfl
 |cons i z ih =>
  intro r h;unfold HJ at h;unfold Op.eqItems;split at h
  ·rename_i u v T X;obtain⟨u',r1,E⟩:=BU G N Y T;obtain⟨v',r2,F⟩:=BU G N hy X;simp only[Sem.run_bind,r1,r2,Result.andThen_ok];split at h
   ·rename_i j;simp only[K _ _ _ _ _ E F j,Result.andThen_ok,yS,zU,if_false];exact ih r h
   ·rename_i B
    cases r with
    |true=>exact absurd h B
    |false=>simp[K _ _ _ _ _ E F h]
  ·cases h
set_option maxHeartbeats 4000000 in
theorem Zq7 {C:TypeDesc}{t:TypeId}{x y:AV}{u v:Value}{r:Bool}(d:Nat)(j:P.underlying t=O C)(z:VRel S x u)(A:VRel S y v)(h:Zbh C x y=O r) :
 (Op.equalIn (d+1) t u v).run P S.w=.ok r S.w:=by
 have B:=run_underlying j S.w;unfold Zbh at h;split at h
 case h_1=>cases z;cases A;injection h with h;subst h;exact run_equalIn_bool' S.w d t _ _ j
 case h_2 =>
  cases z;cases A;split at h
  ·injection h with h;rename_i D;subst h D;exact run_equalIn_int S.w d t _ _ _ _ j
  ·cases h
 case h_3 =>
  cases z with|str _ a' ha =>
  cases A with|str _ b' hb =>
  injection h with h;subst h ha hb;rw[run_equalIn_string S.w d t _ _ j,ByteArray.toList_eq,ByteArray.toList_eq]
 all_goals first
  |(cases h;done)
  |(cases z;cases A;injection h with h;subst h;unfold Op.equalIn;simp only[Sem.run_bind,B,Result.andThen_ok];rfl)
theorem Zke {ok:TypeId->Bool}(E:∀ t,ok t=Q->P.stoodInHeld t=J):∀ (n d:Nat) (t:TypeId) (x y:AV) (u v:Value) (r:Bool),n<=d->VRel S x u->VRel S y v->IP P ok n t x y=O r ->
 (Op.equalIn d t u v).run P S.w=.ok r S.w:=by
 intro n
 induction n with
 |zero=>intro d t x y u v r _ _ _ h;simp[IP]at h
 |succ n K =>
  intro d t x y u v r hd F G h;obtain⟨d,rfl⟩:∃ d',d=d'+1:=⟨d-1,I⟩;unfold IP at h;split at h
  ·rename_i fs j;split at h
   ·split at h
    ·rename_i T;cases F with|agg _ cx hxc hxs hxr =>
     cases G with|agg _ cy hyc hys hyr =>
     have N:P.underlying t=O (.struct (P.fieldsOf t)):=by simp[Program.fieldsOf,j]
     have D:P.fieldsOf t=fs:=by simp[Program.fieldsOf,j]
     rw[run_equalIn_struct S.w d t cx cy N (E t T),D];exact ZjM ⟨hxs,hxr,hxc⟩ ⟨hys,hyr,hyc⟩ (λt x y u v r A B C=>K d t x y u v r I A B C) _ r h
    ·cases h
   ·cases h
  ·rename_i n' e j;split at h
   ·split at h
    ·split at h
     ·rename_i g sz R z;cases F with|agg _ cx hxc hxs hxr =>
      cases G with|agg _ cy hyc hys hyr =>
      obtain⟨i,hi,rfl⟩:∃ i,P.info? e=O i/\P.cellsOf e=sz:=by
       unfold Xt at z
       cases hi:P.info? e with
       |none=>simp[hi]at z
       |some i=>exact⟨i,rfl,by simp[hi]at z;simp[Program.cellsOf,hi,z]⟩
      rw[run_equalIn_array S.w d cx cy j hi];exact Zly R z ⟨hxs,hxr,hxc⟩ ⟨hys,hyr,hyc⟩ (λx y u v r A B C=>K d e x y u v r I A B C) _ r h
     ·cases h
    ·cases h
   ·cases h
  ·rename_i ds Y X j;exact Zq7 d j F G h
  ·cases h
end
section
variable {P:Program}{S:Snap}{W0:World}{H:Hp}
def Ao:Value->Bool
 |.int _ _|.float _ _|.complex _ _ _|.string _=>J
 |_=>Q
def ZtM:Value->Bool
 |.nilIface|.agg _=>J
 |_=>Q
theorem mR {t:TypeId}{u v:Value}(h:Ao u=Q):binOp .eql t u v=(do pure (.bool (<-Op.equal t u v))):=by
 cases u <;> first|(simp[Ao]at h;done)|rfl
theorem mS {t:TypeId}{u v:Value}(h:Ao u=Q):binOp .neq t u v=(do pure (.bool (!(<-Op.equal t u v)))):=by
 cases u <;> first|(simp[Ao]at h;done)|rfl
theorem aT {op:BinOp}{t:TypeId}{X Y:Operand}{u v:Value}(h:ZtM u=Q)(w:World):(eqGuard op t X Y u v).run P w=.ok () w:=by
 cases u <;> first|(simp[ZtM]at h;done)|(cases op <;> rfl)
set_option maxHeartbeats 1000000 in
theorem Zet {ok:TypeId->Bool}(j:∀ t,ok t=Q->P.eqGuardType P.depth t=J){n:Nat}{op:BinOp}{t:TypeId}{X Y:Operand}{x y:AV}{u v:Value}{r:Bool}
 (z:VRel S x u) (A:VRel S y v) (h:IP P ok n t x y=O r):(eqGuard op t X Y u v).run P S.w=.ok () S.w:=by
 cases n with
 |zero=>simp[IP]at h
 |succ n =>
  unfold IP at h;split at h
  ·split at h
   ·split at h
    ·cases z with|agg _ cx _ _ _ =>
     cases A with|agg _ cy _ _ _ =>
     exact run_eqGuard_agg S.w op t X Y cx cy (j t ‹_›)
    ·cases h
   ·cases h
  ·split at h
   ·split at h
    ·cases z with|agg _ cx _ _ _ =>
     cases A with|agg _ cy _ _ _ =>
     exact run_eqGuard_agg S.w op t X Y cx cy (j t ‹_›)
    ·cases h
   ·cases h
  ·unfold Zbh at h
   split at h <;> first
    |(cases h;done)
    |(cases z;exact aT rfl S.w)
  ·cases h
theorem ZhS {t:TypeId}{C:Array (String×TypeId)}(B:P.underlying t=O (.interface C)){x y:AV}{u v:Value}{b:Bool}(z:VRel S x u)(A:VRel S y v)(h:ZjF x y=O b)(d:Nat)(w:World):(Op.equalIn (d+1) t u v).run P w=.ok b w:=by
 have j:=run_underlying B w;unfold ZjF at h;split at h
 ·cases z;cases A;injection h with h;subst h;unfold Op.equalIn;simp only[Sem.run_bind,j,Result.andThen_ok];rfl
 ·cases z;cases A;injection h with h;subst h;unfold Op.equalIn;simp only[Sem.run_bind,j,Result.andThen_ok];rfl
 ·cases z;cases A;injection h with h;subst h;unfold Op.equalIn;simp only[Sem.run_bind,j,Result.andThen_ok];rfl
 ·cases h
theorem Zic {op:BinOp}{t:TypeId}{X Y:Operand}(j:op=.eql\/op=.neq)(z:ZcA X Y=Q){x y:AV}{u v:Value}{b:Bool}(A:VRel S x u)(B:VRel S y v)(h:ZjF x y=O b)(w:World):(eqGuard op t X Y u v).run P w=.ok () w/\Ao u=Q:=by
 unfold ZjF at h;split at h
 ·cases A;cases B;refine⟨?_,rfl⟩;unfold ZcA at z;split at z
  ·rcases j with rfl|rfl <;> rfl
  ·rcases j with rfl|rfl <;> cases X <;> rfl
  ·cases z
 ·cases A;cases B;exact⟨by rcases j with rfl|rfl <;> rfl,rfl⟩
 ·cases A;cases B;exact⟨by rcases j with rfl|rfl <;> rfl,rfl⟩
 ·cases h
theorem ZoF {op:BinOp}{t:TypeId}{X Y:Operand}{x y:AV}{u v:Value}{r:AV}(E:Zg0 P t=Q)(F:ZcA X Y=Q)(z:VRel S x u)(A:VRel S y v)(h:ZhP op x y=O r) :
 ∃ v',(do eqGuard op t X Y u v;binOp op t u v:Sem Value).run P S.w=.ok v' S.w/\VRel S r v':=by
 unfold Zg0 at E;split at E
 ·rename_i K G;unfold ZhP at h;split at h
  ·split at h
   ·rename_i b j;injection h with h;subst h;obtain⟨B,C⟩:=Zic (P:=P) (op:=.eql) (t:=t) (.inl rfl) F z A j S.w;have D:=ZhS G z A j 9999 S.w;refine⟨.bool b,?_,.bool _⟩;rw[mR C];simp only[Sem.run_bind,B,Result.andThen_ok,Op.equal,Op.maxDepth,D,Sem.run_pure]
   ·cases h
  ·split at h
   ·rename_i b j;injection h with h;subst h;obtain⟨B,C⟩:=Zic (P:=P) (op:=.neq) (t:=t) (.inr rfl) F z A j S.w;have D:=ZhS G z A j 9999 S.w;refine⟨.bool (!b),?_,.bool _⟩;rw[mS C];simp only[Sem.run_bind,B,Result.andThen_ok,Op.equal,Op.maxDepth,D,Sem.run_pure]
   ·cases h
  ·cases h
 ·cases E
theorem Zbg {ok:TypeId->Bool}(j:∀ t,ok t=Q->P.stoodInHeld t=J/\P.eqGuardType P.depth t=J){op:BinOp}{t:TypeId}{X Y:Operand}{x y:AV}{u v:Value}{r:AV}
 (A:VRel S x u) (B:VRel S y v) (E:Ao u=Q) (h:Qg P ok op t x y=O r) :
 ∃ v',(do eqGuard op t X Y u v;binOp op t u v:Sem Value).run P S.w=.ok v' S.w/\VRel S r v':=by
 unfold Qg at h;split at h
 ·split at h
  ·rename_i b z;injection h with h;subst h;have D:=Zke (λt h=>(j t h).1) 20 10000 t x y u v b I A B z;have C:=Zet (λt h=>(j t h).2) (op:=.eql) (X:=X) (Y:=Y) A B z;refine⟨.bool b,?_,.bool _⟩;rw[mR E];simp only[Sem.run_bind,C,Result.andThen_ok,Op.equal,Op.maxDepth,D,Sem.run_pure]
  ·cases h
 ·split at h
  ·rename_i b z;injection h with h;subst h;have D:=Zke (λt h=>(j t h).1) 20 10000 t x y u v b I A B z;have C:=Zet (λt h=>(j t h).2) (op:=.neq) (X:=X) (Y:=Y) A B z;refine⟨.bool (!b),?_,.bool _⟩;rw[mS E];simp only[Sem.run_bind,C,Result.andThen_ok,Op.equal,Op.maxDepth,D,Sem.run_pure]
  ·cases h
 ·cases h
theorem Zms {op:BinOp}{k k':IntKind}{a b:Int}{v:AV}(h:X6 op k k' a b=O v)(t:TypeId) :
 ∃ v',(binOp op t (.int k a) (.int k' b)).run P S.w=.ok v' S.w/\VRel S v v':=by
 unfold X6 at h;split at h
 ·split at h
  ·cases h
  ·injection h with h;subst h;exact⟨_,by simp[binOp,Op.shift, *],.int _ _⟩
 ·split at h
  ·cases h
  ·injection h with h;subst h;exact⟨_,by simp[binOp,Op.shift, *],.int _ _⟩
 ·split at h
  ·rename_i j;subst j;exact ZbQ h t
  ·cases h
theorem Zmw {ok:TypeId->Bool}(A:∀ t,ok t=Q->P.stoodInHeld t=J/\P.eqGuardType P.depth t=J){op:BinOp}{t:TypeId}{X Y:Operand}{x y:AV}{u v:Value}{r:AV}
 (C:∀ d,P.underlying t=O d->d≠.string/\∀ k,d≠.int k) (B:VRel S x u) (E:VRel S y v) (h:Qg P ok op t x y=O r) :
 ∃ v',(do eqGuard op t X Y u v;binOp op t u v:Sem Value).run P S.w=.ok v' S.w/\VRel S r v':=by
 have Jh:∀ b,IP P ok 20 t x y=O b->Ao u=Q:=by
  intro b j;unfold IP at j;split at j
  ·split at j
   ·cases B;rfl
   ·cases j
  ·split at j
   ·cases B;rfl
   ·cases j
  ·rename_i D _ _ G;obtain⟨F,z⟩:=C D G
   cases D with
   |int k=>exact absurd rfl (z k)
   |string=>exact absurd rfl F
   |_ =>
    unfold Zbh at j
    split at j <;> first
     |(cases j;done)
     |(cases B;rfl)
     |(rename_i K;cases K)
  ·cases j
 have z:=h;unfold Qg at z;split at z
 ·split at z
  ·exact Zbg A B E (Jh _ ‹_›) h
  ·cases z
 ·split at z
  ·exact Zbg A B E (Jh _ ‹_›) h
  ·cases z
 ·cases z
theorem ZoG {ok:TypeId->Bool}{op:BinOp}{t:TypeId}{d:TypeDesc}{x y:AV}(u:P.underlying t=O d)(j:∀ fs,d≠.struct fs)(h:∀ n e,d≠.array n e):Y5 d op x y=Qg P ok op t x y:=by
 have:IP P ok 20 t x y=Zbh d x y:=by
  unfold IP;rw[u];cases d <;> first|rfl|exact absurd rfl (j _)|exact absurd rfl (h _ _)
 unfold Y5 Qg;rw[this]
theorem Zq2 {ok:TypeId->Bool}(z:∀ t,ok t=Q->P.stoodInHeld t=J/\P.eqGuardType P.depth t=J){op:BinOp}{t:TypeId}{X Y:Operand}{x y:AV}{u v:Value}{r:AV}
 (B:VRel S x u) (C:VRel S y v) (h:Zvy P ok op t x y=O r) :
 ∃ v',(do eqGuard op t X Y u v;binOp op t u v:Sem Value).run P S.w=.ok v' S.w/\VRel S r v':=by
 unfold Zvy at h;split at h
 ·unfold Z2 at h;split at h
  ·cases B with|int _ _ =>
   cases C with|int _ _ =>
   rw[Sem.run_bind,aT rfl,Result.andThen_ok];exact Zms h t
  ·cases h
 ·unfold Y1 at h;split at h
  ·cases B with|str _ b hb =>
   cases C with|str _ b' hb' =>
   rw[Sem.run_bind,aT rfl,Result.andThen_ok];have K:binOp op t (.string b) (.string b')=Op.stringOp op b b':=by cases op <;> rfl
   rw[K];exact ZnX hb hb' h
  ·cases h
 ·rename_i fs A;exact Zmw z (λd j=>by rw[A]at j;injection j with j;subst j;exact⟨dh,dh⟩) B C h
 ·rename_i R N A;exact Zmw z (λd j=>by rw[A]at j;injection j with j;subst j;exact⟨dh,dh⟩) B C h
 ·rename_i d D E F G A;rw[ZoG (ok:=ok) A F G]at h;exact Zmw z (λd' j=>by rw[A]at j;injection j with j;subst j;exact⟨E,D⟩) B C h
 ·cases h
theorem ZsJ {op:UnOp}{x r:AV}{u:Value}(j:VRel S x u)(h:YU op x=O r):∃ v',(Op.unary op u).run P S.w=.ok v' S.w/\VRel S r v':=by
 unfold YU at h;split at h
 ·cases j;injection h with h;subst h;exact⟨_,rfl,.bool _⟩
 ·cases j;injection h with h;subst h;exact⟨_,rfl,.int _ _⟩
 ·cases j with|int k n =>
  obtain⟨v',y,z⟩:=ZbQ (P:=P) (S:=S) h 0;refine⟨v',?_,z⟩;rw[<-y];simp[Op.unary,binOp]
 ·cases h
theorem Zn3 (off:Nat):∀ (u:List Value) (n:Nat) (j:Array Value) (i:Nat),
 ((u.zipIdx n).foldl (λ(a:Array Value) (p:Value×Nat)=>a.setIfInBounds (off+p.2) p.1) j)[i]? =
  if off+n<=i/\i<off+n+Z u/\i<j.size then u[i-off-n]? else j[i]?:=by
 intro u
 induction u with
 |nil=>intro n j i;simp;omega
 |cons c u z =>
  intro n j i;rw[List.zipIdx_cons,yH,z];simp only[Array.size_setIfInBounds,yP];by_cases h:off+n=i
  ·subst h;rw[if_neg I];by_cases y:off+n<j.size
   ·rw[if_pos I];simp[y]
   ·rw[if_neg I,zY (by simp;omega),zY I]
  ·rw[Array.getElem?_setIfInBounds_ne h];by_cases w:off+(n+1)<=i/\i<off+(n+1)+Z u/\i<j.size
   ·rw[if_pos w,if_pos I];rw[show i-off-n=(i-off-(n+1))+1 by omega,List.getElem?_cons_succ]
   ·rw[if_neg w,if_neg I]
theorem Ztz (off:Nat):∀ (j:List (Value×Nat)) (h:Array Value),
 (j.foldl (λ(a:Array Value) (p:Value×Nat)=>a.setIfInBounds (off+p.2) p.1) h).size=h.size:=by
 intro j
 induction j with
 |nil=>intro h;rfl
 |cons c j u=>intro h;rw[yH,u];simp
theorem ZlO (l:List AV)(off:Nat)(j:List AV)(h:off+Z j<=Z l):(splice l off j).length=Z l:=by
 simp[splice];omega
theorem ZiI (l:List AV)(off:Nat)(j:List AV)(h:off+Z j<=Z l)(i:Nat) :
 (splice l off j)[i]?=if off<=i/\i<off+Z j then j[i-off]? else l[i]?:=by
 unfold splice;by_cases u:i<off
 ·rw[if_neg I,zL (by simp;omega),zL (by simp;omega),zQ u]
 ·by_cases w:i<off+Z j
  ·rw[if_pos I,zL (by simp;omega),zN (by simp;omega)];congr 1;simp;omega
  ·rw[if_neg I,zN (by simp;omega),zT];congr 1;simp;omega
theorem Zqg {l u:List AV}{off:Nat}(h:l.all AV.isCell=Q)(w:u.all AV.isCell=Q):(splice l off u).all AV.isCell=Q:=by
 rw[zI]at h w ⊢;intro x j;simp only[splice,List.mem_append]at j;rcases j with (j|j)|j
 ·exact h x (yD j)
 ·exact w x j
 ·exact h x (zM j)
theorem CellsRel.splice {l:List AV}{c:Array Value}(h:CellsRel S l c){j:List AV}{d:Array Value}(y:CellsRel S j d){off:Nat}(z:off+Z j<=Z l) :
 CellsRel S (splice l off j) (d.zipIdx.foldl (λ(a:Array Value) (p:Value×Nat)=>a.setIfInBounds (off+p.2) p.1) c):=by
 rw[<-Array.foldl_toList,Array.toList_zipIdx];refine⟨by rw[Ztz,ZlO l off j z];exact h.size,λi x v w u=>?_,Zqg h.cell y.cell⟩;rw[Zn3 off d.toList 0 c i]at u;rw[ZiI l off j z]at w;have B:Z d.toList=Z j:=by rw[Array.length_toList];exact y.size
 have A:=h.size;by_cases hi:off<=i/\i<off+Z j
 ·rw[if_pos hi]at w;rw[if_pos I]at u;simp only[Nat.sub_zero,yB]at u;exact y.rel _ x v w u
 ·rw[if_neg hi]at w;rw[if_neg I]at u;exact h.rel i x v w u
theorem JO {α β:Type}{f:α->Option β}:∀ {l:List α} {r:List β},l.mapM f=O r->Z r=Z l/\∀ (i:Nat) (a:α),l[i]?=O a->∃ b,f a=O b/\r[i]?=O b:=by
 intro l
 induction l with
 |nil=>intro r h;simp at h;subst h;simp
 |cons x l z =>
  intro r h;rw[yK]at h
  cases j:f x with
  |none=>simp[j]at h
  |some b =>
   cases u:l.mapM f with
   |none=>simp[j,u]at h
   |some A =>
    simp[j,u]at h;subst h;obtain⟨w,y⟩:=z u;refine⟨by simp[w],λi a hi=>?_⟩
    cases i with
    |zero=>simp at hi;subst hi;exact⟨b,j,rfl⟩
    |succ i=>simpa using y i a (by simpa using hi)
theorem Zen {place:Nat->Option (Nat×Nat)}:∀ (parts:List (Nat×AV)) (u:List (Nat×Value)) (w:List (Nat×Nat×AV)) (l r:List AV) (c:Array Value),
 Z parts=Z u->Z w=Z parts ->
 (∀ (j:Nat) (p:Nat×AV) (q:Nat×Value),parts[j]?=O p->u[j]?=O q->p.1=q.1/\VRel S p.2 q.2) ->
 (∀ (j:Nat) (p:Nat×AV),parts[j]?=O p->∃ o,place p.1=O o/\w[j]?=O (o.1,o.2,p.2)) ->
 CellsRel S l c->Yb w l=O r->∃ d,Instr.fill place c u=O d/\CellsRel S r d:=by
 intro parts
 induction parts with
 |nil =>
  intro u w l r c G y _ _ F h;have D:u=[]:=zF (by simpa using G.symm);have E:w=[]:=zF (by simpa using y);subst D E;simp[Yb]at h;subst h;exact⟨c,rfl,F⟩
 |cons p parts ih =>
  intro u w l r c G y z C F h
  cases u with
  |nil=>simp at G
  |cons q u =>
   cases w with
   |nil=>simp at y
   |cons p0 w =>
    obtain⟨D,E⟩:=z 0 p q rfl rfl;obtain⟨i,v⟩:=q;obtain⟨i',a⟩:=p;simp only at D E;subst D;obtain⟨⟨off,size⟩,R,B⟩:=C 0 (i',a) rfl;simp only[List.getElem?_cons_zero,zV]at B;subst B;unfold Yb at h;split at h
    ·rename_i A;obtain⟨K,N,X⟩:=A;have T:=E.cells K;unfold Instr.fill;simp only at R;simp only[R];have aa:v.cells.size=size:=by rw[T.size];exact N
     have ab:=F.size;rw[if_neg (by simp;omega)]
     refine ih u w _ r _ (by simpa using G) (by simpa using y) (λj p q y Y=>z (j+1) p q (by simpa using y) (by simpa using Y))
      (λj p y=>by simpa using C (j+1) p (by simpa using y)) ?_ h
     exact F.splice T I
    ·cases h
end
section
variable {P:Program}{S:Snap}{W0:World}{H:Hp}
theorem YP (b off n:Nat):(⟨b,off,L⟩:Addr).add n=⟨b,off+n,L⟩:=by
 unfold Addr.add;split <;> simp_all
theorem VRel.drop {cells:List AV}{b o:Nat}(h:VRel S (.vp cells) (.pointer (O ⟨b,o,L⟩)))(n:Nat):VRel S (.vp (cells.drop n)) (.pointer (O ⟨b,o+n,L⟩)):=by
 cases h with|vp _ _ _ f h0 h1 h2 =>
 refine .vp _ b (o+n) (λi=>f (n+i)) (by rw[zI]at h0 ⊢;exact λx u=>h0 x (zM u)) (λi hi=>?_) (λi c j=>?_)
 ·have:=h1 (n+i) (by simp at hi;omega)
  rwa [<-Nat.add_assoc]at this
 ·rw[zT]at j;exact h2 (n+i) c j
theorem Zbi {x r:AV}{u:Value}{n:Nat}(j:VRel S x u)(h:Z6 n x=O r):∃ b o,u=.pointer (O ⟨b,o,L⟩)/\VRel S r (.pointer (O ⟨b,o+n,L⟩)):=by
 unfold Z6 at h;split at h
 ·cases j with|ptr _ _ b hb =>
  injection h with h;subst h;exact⟨b,_,rfl,.ptr _ _ b hb⟩
 ·cases j with|wp _ _ _ b hb =>
  injection h with h;subst h;exact⟨b,_,rfl,.wp _ _ _ b hb⟩
 ·split at h
  ·injection h with h;subst h;cases j with|vp _ b off f h0 h1 h2 =>
   exact⟨b,off,rfl,(VRel.vp _ b off f h0 h1 h2).drop n⟩
  ·cases h
 ·cases h
theorem Zph {t:TypeId}{f:Nat}{u:Field}{sz b o:Nat}(h:eA P t f=O u)(z:Xt P u.type=O sz)(A:0<sz)(w:World) :
 (Instr.fieldAt t (.pointer (O ⟨b,o,L⟩)) f).run P w=.ok (.pointer (O ⟨b,o+u.offset,L⟩)) w:=by
 unfold eA at h
 cases j:P.underlying t with
 |none=>simp[j]at h
 |some d =>
  cases d with
  |struct fs =>
   simp only[j]at h;have y:sz≠0:=I
   simp[Instr.fieldAt,run_underlying j,h,Instr.sureAddr,fieldPlace,Xa z,y,YP]
  |_=>simp[j]at h
theorem ZuX {t:TypeId}{f:Nat}{u:Field}{y:Array Value}(h:eA P t f=O u)(w:World) :
 (Instr.field t (.agg y) f).run P w=(part u.type y u.offset).run P w:=by
 unfold eA at h
 cases j:P.underlying t with
 |none=>simp[j]at h
 |some d =>
  cases d with
  |struct fs =>
   simp only[j]at h;simp[Instr.field,run_underlying j,h,asAgg]
  |_=>simp[j]at h
theorem Zln {t e:TypeId}{size:Nat}{x i r:AV}{u v:Value}(D:P.underlying t=O (.slice e))(C:Xt P e=O size)(E:VRel S x u)(hi:VRel S i v)
 (h:Zr size x i=O r):∃ v',(Instr.indexAt t u v).run P S.w=.ok v' S.w/\VRel S r v':=by
 unfold Zr at h;split at h
 ·rename_i k tok l K n;split at h
  ·rename_i y;obtain⟨rfl,R⟩:=y;split at h
   ·rename_i el j;injection h with h;subst h;cases hi with|int _ _ =>
    cases E with|vs _ _ _ b off cap f hcap hk h1 h2 ht sp hsp =>
    have B:n.toNat<Z l:=by
     rcases zD n.toNat (Z l) with A|A
     ·exact A
     ·rw[zA A]at j;cases j
    obtain rfl:sp=L:=hsp.resolve_right I;obtain⟨G,z⟩:=hk el (yC j);refine⟨.pointer (O ⟨b,off+n.toNat*k,L⟩),?_,?_⟩
    ·have X:0<=n/\n<(Z l:Int):=⟨R,I⟩;simp[Instr.indexAt,asIntOf,run_underlying D,X,Xa C,YP]
    ·refine .vp _ b _ (λi=>f n.toNat i) z (λi hi=>?_) (λi c y=>h2 n.toNat el i c j y);exact h1 n.toNat i B I
   ·cases h
  ·cases h
 ·rename_i ag k o off len cap K n;split at h
  ·rename_i y;injection h with h;subst h;cases hi with|int _ _ =>
   cases E with|rs _ _ _ _ _ _ b hb hlen =>
   refine⟨.pointer (O ⟨b,off+n.toNat*size,L⟩),?_,.ptr _ _ _ hb⟩;simp[Instr.indexAt,asIntOf,run_underlying D,y,Xa C,YP]
  ·cases h
 ·rename_i ag k o e' len K n;split at h
  ·rename_i y;injection h with h;subst h;cases hi with|int _ _ =>
   cases E with|ws _ _ _ _ _ cap b hb hlen =>
   obtain⟨e0,N,hw0,F,Y,q2,q3⟩:=hb;refine⟨.pointer (O ⟨b,n.toNat*size,L⟩),?_,.wp _ _ _ _ ⟨e0,N,hw0,F,Y,q2,λT=>(q3 T).1⟩⟩;simp[Instr.indexAt,asIntOf,run_underlying D,y,Xa C,YP]
  ·cases h
 ·cases h
theorem Zlm {t e:TypeId}{len size:Nat}{x i r:AV}{u v:Value}(A:P.underlying t=O (.array len e))(z:Xt P e=O size)(B:VRel S x u)(hi:VRel S i v)
 (h:NJ len size x i=O r):∃ v',(Instr.indexAt t u v).run P S.w=.ok v' S.w/\VRel S r v':=by
 unfold NJ at h;split at h
 ·rename_i C n;split at h
  ·rename_i j;cases hi with|int _ _ =>
   obtain⟨b,o,rfl,y⟩:=Zbi B h;refine⟨_,?_,y⟩;simp[Instr.indexAt,asIntOf,run_underlying A,Instr.sureAddr,j,Xa z,YP]
  ·cases h
 ·cases h
theorem Zhw {t:TypeId}{x i r:AV}{u v:Value}(D:P.underlying t=O .string)(E:VRel S x u)(hi:VRel S i v)(h:Zp x i=O r) :
 ∃ v',(Instr.index t u v).run P S.w=.ok v' S.w/\VRel S r v':=by
 unfold Zp at h;split at h
 ·rename_i s F n;split at h
  ·rename_i A;split at h
   ·rename_i c j;injection h with h;subst h;cases hi with|int _ _ =>
    cases E with|str _ b hb =>
    subst hb
    have z:n.toNat<b.size:=by
     rw[<-W8];rcases zD n.toNat (Z b.data.toList) with y|y
     ·exact y
     ·rw[zA y]at j;cases j
    have C:b[n.toNat]=c:=by
     have B:b.data.toList[n.toNat]?=O b[n.toNat]:=by
      rw[zR (by rw[W8];exact z)];rfl
     rw[B]at j;injection j
    refine⟨.int .u8 c.toNat,?_,.int _ _⟩;rw[run_index_string S.w t b F n D,dif_pos ⟨A,I⟩,C]
   ·cases h
  ·cases h
 ·cases h
theorem Zhv {t e:TypeId}{g:Bool}{len size:Nat}{x i r:AV}{u v:Value}(B:P.underlying t=O (.array len e))(z:XD P e=O g)(j:Xt P e=O size)
 (D:VRel S x u) (hi:VRel S i v) (h:Zbj g len size x i=O r):∃ v',(Instr.index t u v).run P S.w=.ok v' S.w/\VRel S r v':=by
 unfold Zbj at h;split at h
 ·rename_i E F n;split at h
  ·rename_i y;cases hi with|int _ _ =>
   cases D with|agg _ vs h0 h1 h2 =>
   obtain⟨v',A,C⟩:=BU z j ⟨h1,h2,h0⟩ h;refine⟨v',?_,C⟩;simp[Instr.index,asIntOf,run_underlying B,y,Xa j,A]
  ·cases h
 ·cases h
def SB (S:Snap):Option AV->Option Value->Prop
 |none,L=>True
 |some a,O v=>VRel S a v
 |_,_=>False
theorem P2 {x:AV}{v:Value}{y n:Nat}(z:VRel S x v)(h:Xd x y=O n)(j:BoundsCode)(w:World):(Instr.sliceBound v y j).run P w=.ok n w/\n<=y:=by
 unfold Xd at h;split at h
 ·rename_i A m;split at h
  ·rename_i u;injection h with h;subst h;cases z with|int _ _ =>
   refine⟨?_,I⟩;simp[Instr.sliceBound,asIntOf,u]
  ·cases h
 ·cases h
theorem Q2 {isS:Bool}{len cap:Nat}{lo hi mx:Option AV}{y B mx':Option Value}{l h m:Nat}(G:SB S lo y)(A:SB S hi B)(K:SB S mx mx')
 (C:Yy len cap lo hi mx=O (l,h,m)) (w:World) :
 (Instr.sliceBounds isS len cap y B mx').run P w=.ok (l,h,m) w/\l<=h/\(hi≠L->h<=m)/\(hi=L->h=len/\mx=L)/\m<=cap/\(mx=L->m=cap):=by
 unfold Yy at C;split at C
 ·cases C
 rename_i m1 E;split at C
 ·cases C
 rename_i X u;split at C
 ·cases C
 rename_i T D;injection C with C;obtain⟨rfl,rfl,rfl⟩:T=l/\X=h/\m1=m:=by simpa using C
 have j:(lo=L/\y=L/\T=0)\/∃ v,y=O v/\∀ z,(Instr.sliceBound v X z).run P w=.ok T w/\T<=X:=by
  cases lo with
  |none=>cases y with
   |none=>injection D with D;exact .inl ⟨rfl,rfl,D.symm⟩
   |some _=>exact G.elim
  |some a=>cases y with
   |none=>exact G.elim
   |some v=>exact .inr ⟨v,rfl,λz=>P2 G D z w⟩
 have F:T<=X:=by
  rcases j with ⟨_,_,rfl⟩|⟨v,_,N⟩
  ·exact Nat.zero_le _
  ·exact (N .sliceB).2
 cases mx with
 |none =>
  cases mx' with
  |some _=>exact K.elim
  |none =>
   injection E with E;subst E
   cases hi with
   |none =>
    cases B with
    |some _=>exact A.elim
    |none =>
     injection u with u;subst u;refine⟨?_,F,(λh=>absurd rfl h),(λ_=>⟨rfl,rfl⟩),yA _,(λ_=>rfl)⟩;unfold Instr.sliceBounds;rcases j with ⟨_,rfl,rfl⟩|⟨v,rfl,N⟩
     ·simp
     ·simp[(N _).1]
   |some a =>
    cases B with
    |none=>exact A.elim
    |some v =>
     obtain⟨R,Y⟩:=P2 (P:=P) A u (if isS then .sliceAcap else .sliceAlen) w;refine⟨?_,F,(λ_=>Y),(λh=>by cases h),yA _,(λ_=>rfl)⟩;unfold Instr.sliceBounds;rcases j with ⟨_,rfl,rfl⟩|⟨v,rfl,N⟩
     ·simp[R]
     ·simp[R,(N _).1]
 |some a =>
  cases mx' with
  |none=>exact K.elim
  |some v =>
   obtain⟨h6,h7⟩:=P2 (P:=P) K E (if isS then .slice3Acap else .slice3Alen) w
   cases hi with
   |none=>cases u
   |some a =>
    cases B with
    |none=>exact A.elim
    |some v' =>
     obtain⟨R,Y⟩:=P2 (P:=P) A u .slice3B w;refine⟨?_,F,(λ_=>Y),(λh=>by cases h),h7,(λh=>by cases h)⟩;unfold Instr.sliceBounds;rcases j with ⟨_,rfl,rfl⟩|⟨v,rfl,N⟩
     ·simp[R,h6]
     ·simp[R,h6,(N _).1]
theorem ZjP (b:ByteArray)(l h:Nat):(b.extract l h).data.toList=(b.data.toList.take h).drop l:=by
 rw[ByteArray.data_extract,Array.toList_extract,List.extract_eq_take_drop,List.drop_take]
theorem ZhC {t:TypeId}{s:dr}{b:ByteArray}{lo hi:Option AV}{y u:Option Value}{r:AV}(E:P.underlying t=O .string)(D:b.data.toList=s)
 (A:SB S lo y) (z:SB S hi u) (h:Bb s lo hi=O r):∃ v',(Instr.slice t (.string b) y u L).run P S.w=.ok v' S.w/\VRel S r v':=by
 subst D;unfold Bb at h;split at h
 ·rename_i l B m j;injection h with h;subst h;rw[W8]at j;obtain⟨C,_⟩:=Q2 (P:=P) (isS:=J) (mx:=L) (mx':=L) A z trivial j S.w;refine⟨.string (b.extract l B),?_,.str _ _ (ZjP b l B)⟩;simp[Instr.slice,run_underlying E,C]
 ·cases h
theorem Zn6 {α:Type}(l:List α)(a h j:Nat)(x:α)(u:((l.take h).drop a)[j]?=O x):l[a+j]?=O x/\a+j<h:=by
 rw[zT]at u;rcases zD (a+j) h with w|w
 ·rw[zQ w]at u;exact⟨u,w⟩
 ·rw[zA (by simp;omega)]at u;cases u
theorem Zlq {t e:TypeId}{size:Nat}{x r:AV}{u:Value}{lo hi mx:Option AV}{ah ad mx':Option Value}(hu:P.underlying t=O (.slice e))(hs:Xt P e=O size)
 (hx:VRel S x u) (N:SB S lo ah) (G:SB S hi ad) (R:SB S mx mx') (h:Yk size x lo hi mx=O r) :
 ∃ v',(Instr.slice t u ah ad mx').run P S.w=.ok v' S.w/\VRel S r v':=by
 unfold Yk at h;split at h
 ·split at h
  ·rename_i q y;injection h with h;subst h;obtain⟨a,E,m⟩:=q;cases hx with|nils =>
   obtain⟨h1,h2,h3,h4,h5,h6⟩:=Q2 (P:=P) (isS:=Q) N G R y S.w;have hm:m=0:=I
   have ai:E=0:=by
    cases hi with
    |none=>exact (h4 rfl).1
    |some _=>have:=h3 dh;omega
   have ha:a=0:=I
   subst hm ai ha;exact⟨.slice L 0 0,by simp[Instr.slice,run_underlying hu,h1,Xa hs],.nils⟩
  ·cases h
 ·rename_i k tok l;split at h
  ·rename_i hk;subst hk;split at h
   ·rename_i a E m y;injection h with h;subst h;cases hx with|vs _ _ _ b off cap f hcap hke h1 h2 ht sp hsp =>
    -- the same bounds against the Q capacity
    have al:∃ F,Yy (Z l) cap lo hi mx=O (a,E,F)/\(mx≠L->F=m)/\(mx=L->F=cap/\m=Z l):=by
     unfold Yy at y ⊢
     cases mx with
     |none =>
      simp only at y ⊢
      cases hi with
      |none =>
       simp only at y ⊢;split at y
       ·cases y
       ·rename_i l1 K;injection y with y;simp only[yL]at y;obtain⟨rfl,rfl,rfl⟩:=y;try rw[K]
        exact⟨cap,rfl,λh=>absurd rfl h,λ_=>⟨rfl,rfl⟩⟩
      |some v =>
       simp only at y ⊢;split at y
       ·cases y
       ·rename_i aa C
        have ab:Xd v cap=O aa:=by
         unfold Xd at C ⊢;split at C
         ·split at C
          ·rename_i B;injection C with C;subst C;rw[if_pos ⟨B.1,I⟩]
          ·cases C
         ·cases C
        rw[ab];try simp only
        split at y
        ·cases y
        ·rename_i l1 K;injection y with y;simp only[yL]at y;obtain⟨rfl,rfl,rfl⟩:=y;try rw[K]
         exact⟨cap,rfl,λh=>absurd rfl h,λ_=>⟨rfl,rfl⟩⟩
     |some v =>
      simp only at y ⊢;split at y
      ·cases y
      ·rename_i m1 D
       have ae:Xd v cap=O m1:=by
        unfold Xd at D ⊢;split at D
        ·split at D
         ·rename_i B;injection D with D;subst D;rw[if_pos ⟨B.1,I⟩]
         ·cases D
        ·cases D
       rw[ae];try simp only
       split at y
       ·cases y
       ·rename_i aa C;try rw[C]
        try simp only
        split at y
        ·cases y
        ·rename_i l1 K;injection y with y;simp only[yL]at y;obtain⟨rfl,rfl,rfl⟩:=y;try rw[K]
         exact⟨m1,rfl,λ_=>rfl,λh=>by cases h⟩
    obtain⟨F,an,D,af⟩:=al;obtain⟨_,g2,g3,g4,g5,g6⟩:=Q2 (P:=P) (isS:=Q) N G R y S.w;obtain⟨e1,e2,e3,e4,e5,e6⟩:=Q2 (P:=P) (isS:=Q) N G R an S.w
    have ac:E<=Z l:=by
     cases hi with
     |none=>exact Nat.le_of_eq (g4 rfl).1
     |some _=>have:=g3 dh;omega
    have A:((l.take E).drop a).length=E-a:=by simp;omega
    have ao:E<=F:=by
     cases hi with
     |none=>obtain⟨p,q⟩:=e4 rfl;have:=(af q).1;omega
     |some _=>exact e3 dh
    have T:¬ F=a->sp=L:=λar=>hsp.resolve_right I;refine⟨.slice (O ⟨b,if F=a then off else off+a*k,sp⟩) (E-a) (F-a),?_,?_⟩
    ·simp[Instr.slice,run_underlying hu,e1,Xa hs];by_cases B:F=a
     ·simp[B]
     ·obtain rfl:=T B;simp[B,YP]
    ·rw[<-A];refine .vs k _ _ b _ (F-a) (λj i=>f (a+j) i) (by rw[A];omega) (λe X=>hke e (yD (zM X))) (λj i hj hi=>?_) (λj e i c X B=>?_) ?_ sp (if B:F=a then .inr I else .inl (T B))
     ·rw[A]at hj;have B:¬ F=a:=I
      rw[if_neg B];have:=h1 (a+j) i I hi
      rwa [show off+(a+j)*k+i=off+a*k+j*k+i by rw[zP];omega]at this
     ·exact h2 (a+j) e i c (Zn6 l a E j e X).1 B
     ·cases mx with
      |some v =>
       have aq:F=m:=D dh;try simp only
       split
       ·simp only[TokOk,A];omega
       ·trivial
      |none =>
       obtain⟨rfl,ap⟩:=af rfl;try simp only
       split
       ·rename_i aj
        cases tok with
        |no=>trivial
        |clip=>simp only[TokOk]at ht ⊢;rw[A];omega
        |own tt ee =>
         obtain⟨e0,b0,hw0,Y,q1,q2,q3⟩:=ht;refine⟨e0,b0,hw0,Y,q1,q2,λX ak=>?_⟩;rw[A]at ak;obtain⟨p1,p2,p3⟩:=q3 X I;rw[if_neg I,A];have:E*k=a*k+(E-a)*k:=by rw[<-zP];congr 1;omega
         have:F*k=a*k+(F-a)*k:=by rw[<-zP];congr 1;omega
         subst aj;refine⟨p1,I,I⟩
       ·trivial
   ·cases h
  ·cases h
 ·rename_i ag k o off len cap;split at h
  ·rename_i a E m y;injection h with h;subst h;cases hx with|rs _ _ _ _ _ _ b hb A =>
   obtain⟨e1,e2,e3,e4,e5,e6⟩:=Q2 (P:=P) (isS:=Q) N G R y S.w;refine⟨.slice (O ⟨b,if m=a then off else off+a*size,L⟩) (E-a) (m-a),?_,.rs _ _ _ _ _ _ b hb ?_⟩
   ·simp[Instr.slice,run_underlying hu,e1,Xa hs];by_cases B:m=a
    ·simp[B]
    ·simp[B,YP]
   ·cases hi with
    |none=>obtain⟨p,q⟩:=e4 rfl;have:=e6 q;omega
    |some _=>have:=e3 dh;omega
  ·cases h
 ·rename_i ag k o e' len;split at h
  ·rename_i v;split at h
   ·rename_i E z;split at h
    ·rename_i hk;subst hk;injection h with h;subst h;cases hx with|ws _ _ _ _ _ cap b hb A =>
     have ac:E<=len:=by
      unfold Xd at z;split at z
      ·split at z
       ·injection z with z;omega
       ·cases z
      ·cases z
     have am:Xd v cap=O E:=by
      unfold Xd at z ⊢;split at z
      ·split at z
       ·rename_i B;injection z with z;subst z;rw[if_pos ⟨B.1,I⟩]
       ·cases z
      ·cases z
     have y:Yy len cap L (O v) L=O (0,E,cap):=by
      unfold Yy;simp[am]
     obtain⟨e1,e2,e3,e4,e5,e6⟩:=Q2 (P:=P) (isS:=Q) N G R y S.w;obtain⟨e0,b0,hw0,Y,q1,q2,q3⟩:=hb;refine⟨.slice (O ⟨b,0,L⟩) E cap,?_,.ws _ _ _ _ _ _ _ ⟨e0,b0,hw0,Y,q1,q2,λX=>?_⟩ I⟩
     ·simp[Instr.slice,run_underlying hu,e1,Xa hs];by_cases B:cap=0
      ·simp[B]
      ·simp[B,YP]
     ·obtain⟨p1,p2,p3⟩:=q3 X;exact⟨p1,yT (zE k ac) p2,p3⟩
    ·cases h
   ·cases h
  ·cases h
 ·cases h
end
section
variable {P:Program}{S:Snap}{W0:World}{H:Hp}
theorem E4:∀ (n:Nat) (v:Value),VRel S (Q4 n v) v:=by
 intro n
 induction n with
 |zero =>
  intro v;unfold Q4
  split <;> first
   |exact .undef _
   |exact .bool _
   |exact .int _ _
   |exact .str _ _ rfl
   |exact .nilp
   |exact .nils
   |exact .nilm
   |exact .nilf
   |exact .nili
   |(rename_i h;cases h)
 |succ n y =>
  have u:∀ (j:Array Value) (i:Nat) (c:AV) (v:Value),(j.toList.map (Q4 n))[i]?=O c->j[i]?=O v->VRel S c v:=by
   intro j i c v hi z;rw[zK,yB,z]at hi;simp at hi;subst hi;exact y v
  intro v;unfold Q4
  split <;> first
   |exact .undef _
   |exact .bool _
   |exact .int _ _
   |exact .str _ _ rfl
   |exact .nilp
   |exact .nils
   |exact .nilm
   |exact .nilf
   |exact .nili
   |(rename_i w j h;injection h with h;subst h;split <;> first|exact .agg _ _ ‹_› dh (u j)|exact .undef _)
   |(rename_i w j h;injection h with h;subst h;exact .tuple _ _ dh (u j))
   |(rename_i w t v h;injection h with h;subst h;exact .iface t _ _ (y v))
   |(rename_i w fn f c h;injection h with h;subst h;exact .fn fn _ _ _ _ dh dh (u f) (u c))
theorem Uh {t:TypeId}{z:AV}(h:KK P t=O z):∃ j,(∀ w:World,(zeroValue t).run P w=.ok j w)/\∀ S:Snap,VRel S z j:=by
 unfold KK at h
 cases hi:P.info? t with
 |none=>simp[hi]at h
 |some i =>
  simp only[hi]at h
  cases u:i.zero with
  |none=>simp[u]at h
  |some j =>
   simp[u]at h;subst h;exact⟨j,λw=>by simp[zeroValue,typeInfo,hi,u],λS=>E4 3 j⟩
theorem ZlL {α β:Type}{f:α->Option β}{g:α->Sem β}{w:World}(u:∀ a b,f a=O b->(g a).run P w=.ok b w):∀ {l:List α} {r:List β},l.mapM f=O r->(l.mapM g).run P w=.ok r w:=by
 intro l
 induction l with
 |nil=>intro r h;simp at h;subst h;rfl
 |cons x l z =>
  intro r h;rw[yK]at h
  cases j:f x with
  |none=>simp[j]at h
  |some b =>
   cases y:l.mapM f with
   |none=>simp[j,y]at h
   |some A =>
    simp[j,y]at h;subst h;rw[yK];simp[u x b j,z y]
theorem Zk4 {α β:Type}{f:α->Option β}{g:α->Sem β}{w:World}(j:∀ a b,f a=O b->(g a).run P w=.ok b w){l:Array α}{r:List β}(h:l.toList.mapM f=O r) :
 (l.mapM g).run P w=.ok r.toArray w:=by
 rw[Array.mapM_eq_mapM_toList,Sem.run_map,ZlL j h];rfl
theorem Zc9 {z:Array (Nat×Operand)}{ev:Operand->AV}{ρ:Operand->Value}(u:∀ x,VRel S (ev x) (ρ x))(j:Nat)(p:Nat×AV)(q:Nat×Value)
 (w:(z.toList.map λp=>(p.1,ev p.2))[j]?=O p) (y:((z.map λ(i,x)=>(i,ρ x)).toList)[j]?=O q):p.1=q.1/\VRel S p.2 q.2:=by
 simp only[Array.toList_map,zK,zZ]at w y;obtain⟨a,A,rfl⟩:=w;obtain⟨b,h,rfl⟩:=y;rw[A]at h;injection h with h;subst h;exact⟨rfl,u _⟩
theorem Zmm {t:TypeId}{T:Array (Nat×Operand)}{ev:Operand->AV}{ρ:Operand->Value}(F:∀ x,VRel S (ev x) (ρ x)){r:AV}
 (h:Zml P t (T.toList.map λp=>(p.1,ev p.2))=O r):∃ v',(Instr.build t (T.map λ(i,x)=>(i,ρ x))).run P S.w=.ok v' S.w/\VRel S r v':=by
 unfold Zml at h;split at h
 ·rename_i zero fs hz hu;obtain⟨zc,C,D⟩:=Uh hz;have B:=D S;cases B with|agg _ zarr hz0 hz1 hz2 =>
  split at h
  ·rename_i y aa;split at h
   ·rename_i R G
    cases A:Yb R zero with
    |none=>simp[A]at h
    |some cells =>
     simp[A]at h;subst h
     have K:=Zk4 (P:=P) (w:=S.w) (g:=λf:Field=>do pure (f.offset,<-sizeOf f.type)) (λf b X=>by
      cases N:Xt P f.type with
      |none=>simp[N]at X
      |some n=>simp[N]at X;subst X;simp[Xa N]) aa
     obtain⟨q1,q2⟩:=JO G
     obtain⟨d,z,u⟩:=Zen (S:=S) (place:=λi=>y.toArray[i]?) _ _ R zero cells zarr dh q1 (Zc9 F) (λj p hp=>by
      obtain⟨b,E,Y⟩:=q2 j p hp;simp only[zZ]at E;obtain⟨o,ho,rfl⟩:=E;exact⟨o,by simpa using ho,Y⟩) ⟨hz1,hz2,hz0⟩ A
     exact⟨.agg d,by unfold Instr.build;simp only[Sem.run_bind,C,Result.andThen_ok,run_underlying hu,K,Value.cells,z,Sem.run_pure],.agg _ _ u.cell u.size u.rel⟩
   ·cases h
  ·cases h
 ·rename_i zero n e hz hu;obtain⟨zc,C,D⟩:=Uh hz;have B:=D S;cases B with|agg _ zarr hz0 hz1 hz2 =>
  split at h
  ·rename_i size N
   cases A:Yb (List.map (λp=>(p.1*size,size,p.2)) (T.toList.map λp=>(p.1,ev p.2))) zero with
   |none=>simp only[A]at h;cases h
   |some cells =>
    simp only[A,yI,zV]at h;subst h
    obtain⟨d,z,u⟩:=Zen (S:=S) (place:=λi=>O (i*size,size)) _ (T.map λ(i,x)=>(i,ρ x)).toList _ zero cells zarr dh dh (Zc9 F) (λj p hp=>by
     refine⟨_,rfl,?_⟩;rw[zK,hp];rfl) ⟨hz1,hz2,hz0⟩ A
    exact⟨.agg d,by unfold Instr.build;simp only[Sem.run_bind,C,Result.andThen_ok,run_underlying hu,Xa N,Value.cells,z,Sem.run_pure],.agg _ _ u.cell u.size u.rel⟩
  ·cases h
 ·cases h
def flat (l:List AV):List AV:=(l.map AV.cells).flatten
theorem Yf {k:Nat}:∀ {l:List AV},(∀ e∈l,Z e.cells=k)->(flat l).length=Z l*k:=by
 intro l
 induction l with
 |nil=>intro _;simp[flat]
 |cons e l y =>
  intro h;have u:=h e dh;have j:=y (λe w=>h e (by simp[w]));simp only[flat,List.map_cons,List.flatten_cons,List.length_append,yP]at j ⊢;rw[u,j,zP];omega
theorem Kh {k:Nat}:∀ {l:List AV},(∀ e∈l,Z e.cells=k)->∀ (j i:Nat) (e:AV),l[j]?=O e->i<k->(flat l)[j*k+i]?=e.cells[i]?:=by
 intro l
 induction l with
 |nil=>intro _ j i e h;simp at h
 |cons a l A =>
  intro h j i e u hi;have w:=h a dh;have z:flat (a::l)=a.cells++flat l:=by simp[flat]
  rw[z]
  cases j with
  |zero =>
   simp at u;subst u;rw[zL I];simp
  |succ j =>
   rw[zN (by rw[w,zP];omega)];rw[show (j+1)*k+i-Z a.cells=j*k+i by rw[w,zP];omega];exact A (λe y=>h e (by simp[y])) j i e (by simpa using u) hi
theorem Zwx {k:Nat}{l:List AV}(h:∀ e∈l,Z e.cells=k){j:Nat}{v:AV}(N:j<Z l)(z:Z v.cells=k):flat (l.set j v)=splice (flat l) (j*k) v.cells:=by
 have A:∀ e∈l.set j v,Z e.cells=k:=λe K=>by
  rcases yF K with u|rfl
  ·exact h e u
  ·exact z
 have B:j*k+k<=Z l*k:=by
  have:(j+1)*k<=Z l*k:=zE k N;rw[zP]at this;omega
 apply List.ext_getElem?;intro i;rw[ZiI _ _ _ (by rw[Yf h,z];exact B)];rcases Nat.eq_zero_or_pos k with rfl|R
 ·have G:(flat (l.set j v))=[]:=zF (by rw[Yf A];simp);have y:(flat l)=[]:=zF (by rw[Yf h];simp);rw[G,y,z];simp
 ·by_cases C:i<Z l*k
  ·obtain⟨q,r,F,rfl⟩:∃ q r,r<k/\i=q*k+r:=⟨i / k,i % k,Nat.mod_lt _ R,by rw[yO];exact (yR i k).symm⟩
   have E:q<Z l:=by
    rcases zD q (Z l) with u|u
    ·exact u
    ·have:=zE k u;omega
   by_cases w:q=j
   ·subst w;rw[Kh A q r v (by simp[E]) F,if_pos I];congr 1;omega
   ·have D:¬ (j*k<=q*k+r/\q*k+r<j*k+Z v.cells):=by
     rintro⟨G,y⟩
     rw[z]at y;rcases Nat.lt_or_gt_of_ne w with u|u
     ·have:=zE k (zW u);rw[yG]at this;omega
     ·have:=zE k (zW u);rw[yG]at this;omega
    rw[if_neg D,Kh A q r l[q] (by rw[List.getElem?_set_ne (Ne.symm w)];simp[E]) F,Kh h q r l[q] (by simp[E]) F]
  ·have y:¬ (j*k<=i/\i<j*k+Z v.cells):=by rw[z];omega
   rw[if_neg y,zA (by rw[Yf A];simpa using C),zA (by rw[Yf h];omega)]
theorem IX {l:List AV}(h:(flat l).all AV.isCell=Q){e:AV}(j:e∈l):e.cells.all AV.isCell=Q:=by
 rw[zI]at h ⊢;exact λx u=>h x (yQ.2 ⟨e.cells,yV.2 ⟨e,j,rfl⟩,u⟩)
theorem IQ {l:List AV}(h:∀ e∈l,e.cells.all AV.isCell=Q):(flat l).all AV.isCell=Q:=by
 rw[zI];intro x y;obtain⟨c,u,j⟩:=yQ.1 y;obtain⟨e,w,rfl⟩:=yV.1 u;exact zI.1 (h e w) x j
theorem MB {k:Nat}{tok:Tok}{l:List AV}{b off cap:Nat}{c:Array Value}{el:TypeId}{fz:Nat×Nat}(K:S.w.heap[b]?=O (.cells c el fz))(B:Z l<=cap)(F:∀ e∈l,Z e.cells=k)(u:(flat l).all AV.isCell=Q)
 (N:∀ i,i<Z l*k->S.pub b (off+i)) (T:off+Z l*k<=c.size) (R:∀ (i:Nat) (x:AV) (v:Value),(flat l)[i]?=O x->c[off+i]?=O v->VRel S x v)
 (X:TokOk S k tok (Z l) b off cap):VRel S (.vs k tok l) (.slice (O ⟨b,off,L⟩) (Z l) cap):=by
 have z:∀ j i,j<Z l->i<k->j*k+i<Z l*k:=λj i D hi=>by
  have:=zE k (zW D);rw[yG]at this;omega
 refine .vs k tok l b off cap (λj i=>c.getD (off+(j*k+i)) undef) B (λe y=>⟨F e y,IX u y⟩) (λj i D hi=>⟨?_,?_⟩) (λj e i x y G=>?_) X L (.inl rfl)
 ·have:=z j i D hi;rw[show off+j*k+i=off+(j*k+i) by omega];have A:off+(j*k+i)<c.size:=I
  simp[World.cell?,K,A]
 ·rw[show off+j*k+i=off+(j*k+i) by omega];exact N _ (z j i D hi)
 ·have E:j<Z l:=by
   rcases zD j (Z l) with h|h
   ·exact h
   ·rw[zA h]at y;cases y
  have C:i<k:=by
   rw[<-F e (yC y)];rcases zD i (Z e.cells) with h|h
   ·exact h
   ·rw[zA h]at G;cases G
  have:=z j i E C;have A:off+(j*k+i)<c.size:=I
  refine R (j*k+i) x _ (by rw[Kh F j i e y C];exact G) ?_;simp[A]
theorem Zku (S:Snap)(o:Obj):(S.grow o).w.heap[S.w.heap.size]?=O o:=heap_alloc_new S.w o
theorem Zk5 {size:Nat}:∀ (parts:List (Nat×AV)) (u:List (Nat×Value)) (l r:List AV) (c:Array Value),Z parts=Z u ->
 (∀ (j:Nat) (p:Nat×AV) (q:Nat×Value),parts[j]?=O p->u[j]?=O q->p.1=q.1/\VRel S p.2 q.2) ->
 (∀ e∈l,Z e.cells=size)->CellsRel S (flat l) c->ZB size parts l=O r ->
 ∃ d,Instr.fill (λi=>O (i*size,size)) c u=O d/\CellsRel S (flat r) d/\(∀ e∈r,Z e.cells=size)/\Z r=Z l:=by
 intro parts
 induction parts with
 |nil =>
  intro u l r c F _ A E h;have D:u=[]:=zF (by simpa using F.symm);subst D;simp[ZB]at h;subst h;exact⟨c,rfl,E,A,rfl⟩
 |cons p parts ih =>
  intro u l r c F w A E h
  cases u with
  |nil=>simp at F
  |cons q u =>
   obtain⟨D,h2⟩:=w 0 p q rfl rfl;obtain⟨i,v⟩:=q;obtain⟨Y,a⟩:=p;simp only at D h2;subst D;unfold ZB at h;split at h
   ·rename_i y;obtain⟨T,z,B⟩:=y;have hv:=h2.cells T;have ab:v.cells.size=size:=by rw[hv.size];exact z
    have X:=E.size
    have aa:Y*size+size<=Z l*size:=by
     have:=zE size (zW B);rw[yG]at this;exact this
    rw[Yf A]at X;unfold Instr.fill;simp only;rw[if_neg (by simp;omega)]
    have C:∀ e∈l.set Y a,Z e.cells=size:=λe he=>by
     rcases yF he with h'|rfl
     ·exact A e h'
     ·exact z
    obtain⟨d,G,K,N,R⟩:=ih u (l.set Y a) r _ (by simpa using F) (λj p q hp hq=>w (j+1) p q (by simpa using hp) (by simpa using hq)) C (by
     rw[Zwx A B z];exact E.splice hv (by rw[Yf A];omega)) h
    exact⟨d,G,K,N,by simpa using R⟩
   ·cases h
theorem ZjQ (z:AV):∀ n,flat (zG n z)=(zG n z.cells).flatten:=by
 intro n;simp[flat]
theorem ZeK {z:AV}{u:Value}{k:Nat}(T:VRel S z u)(C:z.known=Q)(F:Z z.cells=k)(N:0<k)(n:Nat) :
 CellsRel S (flat (zG n z)) ((yJ (n*k)).map (u.cells[· % u.cells.size]!)):=by
 have A:=T.cells C;have h:∀ e∈zG n z,Z e.cells=k:=λe B=>by rw[zS B];exact F
 refine⟨by simp[Yf h],λi x v y K=>?_,IQ λe B=>by rw[zS B];exact A.cell⟩
 have D:i<n*k:=by
  rcases zD i (n*k) with j|j
  ·exact j
  ·rw[zA (by rw[Yf h];simpa using j)]at y;cases y
 obtain⟨q,r,G,rfl⟩:∃ q r,r<k/\i=q*k+r:=⟨i / k,i % k,Nat.mod_lt _ N,by rw[yO];exact (yR i k).symm⟩
 have R:q<n:=by
  rcases zD q n with j|j
  ·exact j
  ·have:=zE k j;omega
 rw[Kh h q r z (by simp[R]) G]at y;have E:u.cells.size=k:=by rw[A.size,F]
 have w:(q*k+r) % u.cells.size=r:=by rw[E,yO,Nat.mul_add_mod];exact Nat.mod_eq_of_lt G
 simp only[yM,Array.getElem?_range,D,yI,zV,if_true,w]at K;refine A.rel r x v y ?_;rw[<-K];have:r<u.cells.size:=I
 simp[this]
theorem Pg {t e:TypeId}(h:ZcC P t=O e):P.underlying t=O (.slice e):=by
 unfold ZcC at h;split at h
 ·injection h with h;subst h;assumption
 ·cases h
theorem Zll {t:TypeId}{n:Nat}{ps:Array (Nat×Operand)}{ev:Operand->AV}{ρ:Operand->Value}(hev:∀ x,VRel S (ev x) (ρ x)){r:AV}
 (h:ZjE P t n (ps.toList.map fun p=>(p.1,ev p.2))=some r):Yields P W0 S H (Instr.buildSlice t n (ps.map fun (i,x)=>(i,ρ x))) r H:=by
 intro hI;unfold ZjE at h;split at h
 ·rename_i e he;have hu:=Pg he;split at h
  ·rename_i size z hs hz;split at h
   ·rename_i hc;obtain⟨hc1,hc2,hc3,hc4⟩:=hc;obtain⟨zc,hzr,hzv⟩:=Uh hz
    cases hf:ZB size (ps.toList.map fun p=>(p.1,ev p.2)) (zG n z) with
    |none=>simp[hf]at h
    |some l =>
     simp[hf]at h;subst h
     obtain⟨d,hd1,hd2,hd3,hd4⟩:=Zk5 (S:=S) _ _ (zG n z) l _ (by simp) (Zc9 hev)
      (fun e he=>by rw[zS he];exact hc3) (ZeK (hzv S) hc2 hc3 hc4 n) hf
     simp only[List.length_replicate]at hd4;refine⟨.slice (some ⟨S.w.heap.size,0,none⟩) n n,S.grow (.cells d e),?_,Ext.grow hI _,hI.grow _,?_⟩
     ·have h1:¬ (n*size > 2 ^ 24):=by omega
      have hgo:∀ zr:Array Value,Instr.fill (fun i=>some (i*size,size)) ((yJ (n*size)).map (zr[· % zr.size]!)) (ps.map fun ((i,x):Nat×Operand)=>(i,ρ x)).toList=some d ->
       (match Instr.fill (fun i=>some (i*size,size)) ((yJ (n*size)).map (zr[· % zr.size]!)) (ps.map fun ((i,x):Nat×Operand)=>(i,ρ x)).toList with
        |some cells=>(do pure (.slice (some (<-newRow e cells)) n n):Sem Value)
        | _ => stuck "buildSlice: a part of the wrong size").run P S.w = .ok (.slice (some ⟨S.w.heap.size, 0, none⟩) n n) (S.grow (.cells d e)).w := by
       intro zr hz;rw[hz];rfl
      unfold Instr.buildSlice;simp only[Sem.run_bind,run_underlying hu,Result.andThen_ok,Xa hs];rw[if_neg h1];by_cases h0:n*size=0
      ·simp only[h0,if_true,Sem.run_pure,Result.andThen_ok,Sem.run_bind];have e1:∀ f:Nat->Value,(yJ 0).map f=#[]:=fun f=>by simp
       have:=hgo #[] (by rw[h0,e1]at hd1 ⊢;exact hd1);rw[h0]at this;exact this
      ·simp only[h0,if_false,Sem.run_bind,hzr,Sem.run_pure,Result.andThen_ok];exact hgo _ hd1
     ·rw[<-hd4];have hx:=Ext.grow hI (.cells d e);refine MB (S:=S.grow (.cells d e)) (c:=d) (el:=e) (fz:=(0,0)) (Zku S _) (yA _) hd3 hd2.cell (fun i _=>.inr rfl) ?_ (fun i x v hi hv=>?_) ?_
      ·have:=hd2.size;rw[Yf hd3]at this;omega
      ·rw[yN]at hv;exact (hd2.rel i x v hi hv).mono hx
      ·simp[TokOk]
   ·cases h
  ·cases h
 ·cases h
theorem Zqe {t:TypeId}{x r:AV}{u:Value}(y:VRel S x u)(h:Zmp P t x=O r)(ty:TypeId):∃ v',(Builtin.len_ #[t] ty #[u]).run P S.w=.ok v' S.w/\VRel S r v':=by
 unfold Zmp at h
 cases z:P.underlying t with
 |none=>simp[z]at h
 |some d =>
  rw[z]at h;have j:=run_underlying z S.w;simp only at h;unfold Zf at h;split at h
  ·split at h
   ·injection h with h;subst h;cases y with|str _ b hb =>
    subst hb;refine⟨goInt b.size,by simp[Builtin.len_,j],?_⟩;rw[W8];exact .int _ _
   ·cases h
  ·rename_i n e;injection h with h;subst h;exact⟨goInt n,by simp[Builtin.len_,j],.int _ _⟩
  ·split at h
   ·injection h with h;subst h;cases y;exact⟨goInt 0,by simp[Builtin.len_,j],.int _ _⟩
   ·rename_i k tok l;injection h with h;subst h;cases y;exact⟨goInt (Z l),by simp[Builtin.len_,j],.int _ _⟩
   ·rename_i ag k o off len cap;injection h with h;subst h;cases y;exact⟨goInt len,by simp[Builtin.len_,j],.int _ _⟩
   ·rename_i ag k o e len;injection h with h;subst h;cases y;exact⟨goInt len,by simp[Builtin.len_,j],.int _ _⟩
   ·cases h
  ·cases h
theorem Zoo {x y r:AV}{u v:Value}(z:VRel S x u)(A:VRel S y v)(h:WU x y=O r)(a:Array TypeId)(ty:TypeId):∃ v',(Builtin.min_ a ty #[u,v]).run P S.w=.ok v' S.w/\VRel S r v':=by
 unfold WU at h;split at h
 ·split at h
  ·rename_i j;subst j;injection h with h;subst h;cases z;cases A;exact⟨_,by simp[Builtin.min_,Builtin.min2],.int _ _⟩
  ·cases h
 ·cases h
theorem Zon {x y r:AV}{u v:Value}(z:VRel S x u)(A:VRel S y v)(h:K9 x y=O r)(a:Array TypeId)(ty:TypeId):∃ v',(Builtin.max_ a ty #[u,v]).run P S.w=.ok v' S.w/\VRel S r v':=by
 unfold K9 at h;split at h
 ·split at h
  ·rename_i j;subst j;injection h with h;subst h;cases z;cases A;exact⟨_,by simp[Builtin.max_,Builtin.max2],.int _ _⟩
  ·cases h
 ·cases h
end
section
variable {P:Program}{S:Snap}{W0:World}{H:Hp}
theorem Zbo:∀ {l:List AV} {s:dr},V8 l=O s->∃ j:List Int,l=j.map (AV.int .u8)/\s=j.map λn=>zO n.toNat:=by
 intro l
 induction l with
 |nil=>intro s h;simp[V8]at h;exact⟨[],rfl,by simp[h]⟩
 |cons a l A =>
  intro s h;unfold V8 at h;split at h
  ·rename_i u;cases u
  ·rename_i n r u;injection u with y z;subst y z;split at h
   ·rename_i s' w;injection h with h;subst h;obtain⟨j,rfl,rfl⟩:=A w;exact⟨n::j,rfl,rfl⟩
   ·cases h
  ·cases h
theorem Zi4 (h:List Int):∀ (r:ByteArray),(h.foldl (λr n=>r.push (zO n.toNat)) r).data.toList=r.data.toList++h.map λn=>zO n.toNat:=by
 induction h with
 |nil=>intro r;simp
 |cons n h j=>intro r;rw[yH,j];simp[ByteArray.push]
theorem O5 {d:Option TypeDesc}(h:ZbT d=Q):d=O (.int .u8):=by
 unfold ZbT at h;split at h
 ·rfl
 ·cases h
theorem Zoi {D C:TypeId}{x r:AV}{u:Value}(B:VRel S x u){wr:TypeId->Bool}(h:Zhs P wr D C x=O r):Yields P W0 S H (convert D C u) r H:=by
 intro X;unfold Zhs at h;split at h
 ·rename_i q k G E;unfold ZS at h;split at h
  ·rename_i q' n;injection h with h;subst h;cases B with|int _ _ =>
   exact⟨.int k (k.wrap n),S,by simp[convert,run_underlying G,run_underlying E,Conv.intToInt],Ext.refl S,X,.int _ _⟩
  ·cases h
 ·rename_i G E;unfold Zy2 at h;split at h
  ·injection h with h;subst h;cases B with|str _ b hb =>
   exact⟨.string b,S,by simp[convert,run_underlying G,run_underlying E],Ext.refl S,X,.str _ _ hb⟩
  ·cases h
 ·rename_i e G E;split at h
  ·rename_i z;have z:=O5 z;unfold Ql at h;split at h
   ·injection h with h;subst h;cases B with|nils =>
    exact⟨.string .empty,S,by simp[convert,run_underlying G,run_underlying E,run_underlying z,Conv.bytesToString],Ext.refl S,X,.str _ _ rfl⟩
   ·rename_i k tok l;split at h
    ·rename_i ae;subst ae;split at h
     ·rename_i s af;injection h with h;subst h;obtain⟨K,rfl,rfl⟩:=Zbo af;cases B with|vs _ _ _ b off cap f y hk h1 h2 ht sp hsp =>
      have hl:(loadCells ⟨b,off,sp⟩ (K.map (AV.int .u8)).length).run P S.w=.ok (K.map (Value.int .u8)).toArray S.w:=by
       by_cases aa:K=[]
       ·subst aa;rfl
       obtain rfl:sp=L:=hsp.resolve_right (by have:=List.length_pos_iff.2 aa;simp at y;omega)
       have:=run_loadCells_list (P:=P) S.w ⟨b,off,L⟩ (K.map (Value.int .u8)) (λj v T=>by
        rw[zK,zZ]at T;obtain⟨n,hn,rfl⟩:=T
        have hj:j<Z K:=by
         rcases zD j (Z K) with N|N
         ·exact N
         ·rw[zA N]at hn;cases hn
        have hc:=(h1 j 0 (by simpa using hj) I).1;have hr:=h2 j (.int .u8 n) 0 (.int .u8 n) (by rw[zK,hn];rfl) rfl;rw[YP];simp only[Nat.mul_one,Nat.add_zero]at hc;rw[hc];generalize f j 0=fv at hr;cases hr;rfl)
       simpa using this
      refine⟨.string (K.foldl (λr n=>r.push (zO n.toNat)) ByteArray.empty),S,?_,Ext.refl S,X,.str _ _ ?_⟩
      ·rw[run_convert_bytes_string S.w D C e _ _ _ G z E];exact run_bytesToString S.w _ _ _ K hl
      ·rw[Zi4];simp
     ·cases h
    ·cases h
   ·cases h
  ·cases h
 ·rename_i e G E;split at h
  ·rename_i z;have z:=O5 z;split at h
   ·cases h
   unfold Zko at h;split at h
   ·injection h with h;subst h;cases B with|str _ b hb =>
    subst hb;have F:=run_bytes_of_string S.w D C e b G E z;have y:=grownCap_ge S.w b.size 0 e;generalize grownCap S.w b.size 0 e=cap at F y
    have R:∀ j,j<b.size->(bytesRow b cap)[j]?=O (.int .u8 ((b.data.toList.getD j 0).toNat:Int)):=by
     intro j hj;unfold bytesRow;rw[Array.getElem?_append_left (by simp;exact hj)];have hg:b.data[j]?=O b.data[j]:=zH hj;simp[hg]
    let S1:Snap:=S.drew
    have Y:Inv W0 S1 H:=X.drew;refine⟨_,S1.grow (.cells (bytesRow b cap) e ((bytesRow b cap).size,(bytesRow b cap).size+1)),F,(Ext.drew S).trans (Ext.grow Y _),Y.grow _,?_⟩;have A:(b.data.toList.map λb=>AV.int .u8 (b.toNat:Int)).length=b.size:=by rw[List.length_map];exact W8 b
    have ac:=MB (S:=S1.grow (.cells (bytesRow b cap) e ((bytesRow b cap).size,(bytesRow b cap).size+1))) (k:=1) (tok:=.no) (l:=b.data.toList.map λb=>AV.int .u8 (b.toNat:Int))
     (b:=S.w.heap.size) (off:=0) (cap:=cap) (Zku S1 _) (by rw[A];exact y) (λe z=>by simp at z;obtain⟨a,_,rfl⟩:=z;rfl) (IQ λe z=>by simp at z;obtain⟨a,_,rfl⟩:=z;rfl) (λi _=>.inr rfl)
     (by rw[A];simp[bytesRow]) (λi x v B T=>?_) trivial
    ·rw[A]at ac;exact ac
    ·have ad:flat (b.data.toList.map λb=>AV.int .u8 (b.toNat:Int))=b.data.toList.map λb=>AV.int .u8 (b.toNat:Int):=by
      unfold flat;rw[List.map_map];show (b.data.toList.map λb=>[AV.int .u8 (b.toNat:Int)]).flatten=_
      induction b.data.toList with
      |nil=>rfl
      |cons a l ih=>simp[ih]
     rw[ad]at B
     have hi:i<b.size:=by
      rw[<-A];rcases zD i (b.data.toList.map λb=>AV.int .u8 (b.toNat:Int)).length with N|N
      ·exact N
      ·rw[zA N]at B;cases B
     rw[yN,R i hi]at T;have ab:i<Z b.data.toList:=by rw[W8];exact hi
     rw[zK,zR ab]at B;simp only[yI,zV]at B T;subst B T;rw[List.getD_eq_getElem?_getD,zR ab];exact .int _ _
   ·cases h
  ·cases h
 ·cases h
def Held (S:Snap)(g:Nat)(h:List AV):Prop:=∃ vs:Array Value,vs.size=Z h/\∀ i,S.pub g i/\S.w.cell? ⟨g,i,L⟩=vs[i]?
theorem Held.mono {S u:Snap}(y:Ext S u){g:Nat}{w:List AV}(h:Held S g w):Held u g w:=by
 obtain⟨vs,z,j⟩:=h;exact⟨vs,z,λi=>⟨(y.pub g i (j i).1).1,(y.pub g i (j i).1).2.trans (j i).2⟩⟩
def ZpY (C:Cfg)(S:Snap):Prop:=∀ g h,C.glob g=O h->VRel S (.vp h) (.pointer (O ⟨g,0,L⟩))/\Held S g h
def Zcw (C:Cfg)(id:FuncId)(g:List AV->Option AV):Prop :=
 ∀ {W0:World} (S:Snap) (H:Hp) (args:List AV) (args':Array Value) (v:AV),Inv W0 S H->ZpY C S->args'.size=Z args ->
  (∀ (i:Nat) (a:AV) (u:Value),args[i]?=O a->args'[i]?=O u->VRel S a u)->g args=O v ->
  Calls C.P id args' S.w λe w'=>∃ v' h,e=.returned v'/\h.w=w'/\Ext S h/\Inv W0 h H/\VRel h v v'
def Bw (C:Cfg)(id:FuncId)(g:EffFn):Prop :=
 ∀ {W0:World} (S:Snap) (H H':Hp) (args:List AV) (args':Array Value) (v:AV),Inv W0 S H->ZpY C S->args'.size=Z args ->
  (∀ (i:Nat) (a:AV) (u:Value),args[i]?=O a->args'[i]?=O u->VRel S a u)->g.run args H=O (v,H') ->
  Calls C.P id args' S.w λe w'=>∃ v' h,e=.returned v'/\h.w=w'/\Ext S h/\Inv W0 h H'/\VRel h v v'
def VG (C:Cfg):Prop :=
 (∀ t,C.eqok t=Q->C.P.stoodInHeld t=J/\C.P.eqGuardType C.P.depth t=J) /\
 (∀ f,C.user f=Q->∀ (args:Array Value) (w:World),(callFunc f args).run C.P w=.ok (.enter f args) w) /\
 C.P.follows .mixedOrders=Q /\
 (∀ f e,C.ext f=O e->∀ (args:Array Value) (w:World),(callFunc f args).run C.P w=(do pure (.value (<-Jz e args)):Sem Next).run C.P w) /\
 (∀ f g,C.sum f=O g->C.user f=Q/\Zcw C f g) /\
 (∀ f g,C.eff f=O g->C.user f=Q/\Bw C f g)
def Gives (P:Program)(W0:World)(S:Snap)(H:Hp)(s:Sem Next)(v:AV)(H':Hp):Prop :=
 Inv W0 S H->∃ v' h,s.run P S.w=.ok (.value v') h.w/\Ext S h/\Inv W0 h H'/\VRel h v v'
theorem Yields.gives {s:Sem Value}{v:AV}{H':Hp}(h:Yields P W0 S H s v H'):Gives P W0 S H (do pure (.value (<-s))) v H':=by
 intro y;obtain⟨v',j,u,w⟩:=h y;exact⟨v',j,by simp[u],w⟩
theorem Gives.same {s:Sem Value}{v:AV}(h:∃ v',s.run P S.w=.ok v' S.w/\VRel S v v'):Gives P W0 S H (do pure (.value (<-s))) v H:=by
 obtain⟨v',j,u⟩:=h;exact (Yields.same v' j u).gives
theorem An {S:Snap}{ev:Operand->AV}{ρ:Operand->Value}(h:∀ x,VRel S (ev x) (ρ x))(x:Option Operand):SB S (x.map ev) (x.map ρ):=by
 cases x with
 |none=>trivial
 |some x=>exact h x
theorem iW {S:Snap}{ev:Operand->AV}{ρ:Operand->Value}(j:∀ x,VRel S (ev x) (ρ x))(xs:Array Operand)(i:Nat)(c:AV)(v:Value)(h:(xs.toList.map ev)[i]?=O c)(u:(xs.map ρ)[i]?=O v):VRel S c v:=by
 rw[zK,yB]at h;rw[yM]at u
 cases w:xs[i]? with
 |none=>simp[w]at h
 |some x=>simp[w]at h u;subst h u;exact j x
theorem Q5 {α:Type}{xs:Array α}{x:α}(h:xs.toList=[x]):xs=#[x]:=by cases xs;simp_all
theorem XI {α:Type}{xs:Array α}{x y:α}(h:xs.toList=[x,y]):xs=#[x,y]:=by cases xs;simp_all
theorem Zor {C:Cfg}(hC:VG C){ev:Operand->AV}{ρ:Operand->Value}(j:∀ x,VRel S (ev x) (ρ x)){o:Oper}{v:AV}(h:Yc C ev o.op=O v) :
 Gives C.P W0 S H (execOp ρ o) v H:=by
 obtain⟨al,op,aa,pos,after,af⟩:=o;simp only at h;unfold execOp;simp only
 cases op with
 |move x =>
  simp[Yc]at h;subst h;exact λK=>⟨ρ x,S,rfl,Ext.refl S,K,j x⟩
 |assign x =>
  simp[Yc]at h;subst h;exact λK=>⟨ρ x,S,rfl,Ext.refl S,K,j x⟩
 |pick c a b =>
  simp only[Yc]at h;unfold Zm at h;split at h
  ·rename_i t ht;injection h with h;subst h;have hc:=j c;rw[ht]at hc;generalize ah:ρ c=cv at hc;cases hc with|bool _ =>
   intro K;refine⟨if t then ρ a else ρ b,S,by simp[ah,asBool],Ext.refl S,K,?_⟩;cases t
   ·exact j b
   ·exact j a
  ·cases h
 |build t parts=>simp only[Yc]at h;exact Gives.same (Zmm j h)
 |buildSlice t len parts=>simp only[Yc]at h;exact (Zll j h).gives
 |load t a =>
  simp only[Yc]at h;split at h
  ·rename_i g sz hg Y;unfold Xy at h;split at h
   ·rename_i cells hc;have D:=j a;rw[hc]at D;generalize ag:ρ a=av at D;cases D with|vp _ b off f h0 T X =>
    refine Gives.same ?_;obtain⟨v',N,hv⟩:=LX (P:=C.P) (S:=S) (t:=t) (off:=off) (b:=b) (f:=f) hg Y (λi hi=>by rw[yU];exact (T i hi).1) X h0 h;exact⟨v',by simpa[ag,Instr.loadAt,Instr.sureAddr]using N,hv⟩
   ·cases h
  ·cases h
 |nilCheck x =>
  simp only[Yc]at h;unfold Zw at h;have B:=j x;split at h
  ·rename_i o off R;injection h with h;subst h;rw[R]at B;generalize A:ρ x=xv at B;cases B with|ptr _ _ b F =>
   exact λK=>⟨_,S,by simp only[A];rfl,Ext.refl S,K,.ptr _ _ b F⟩
  ·rename_i cs R;injection h with h;subst h;rw[R]at B;generalize A:ρ x=xv at B;cases B with|vp _ b off f h0 T X =>
   exact λK=>⟨_,S,by simp only[A];rfl,Ext.refl S,K,.vp _ b off f h0 T X⟩
  ·rename_i o e off R;injection h with h;subst h;rw[R]at B;generalize A:ρ x=xv at B;cases B with|wp _ _ _ b F =>
   exact λK=>⟨_,S,by simp only[A];rfl,Ext.refl S,K,.wp _ _ _ b F⟩
  ·cases h
 |binOp op t x y ty =>
  simp only[Yc]at h;split at h
  ·rename_i ai;split at h
   ·rename_i hc;exact Gives.same (ZoF ai hc (j x) (j y) h)
   ·cases h
  ·exact Gives.same (Zq2 hC.1 (j x) (j y) h)
 |unOp op t x=>simp only[Yc]at h;exact Gives.same (ZsJ (j x) h)
 |convert s d x=>simp only[Yc]at h;exact (Zoi (j x) h).gives
 |makeFunc fn first E =>
  cases fn <;> simp only[Yc]at h
  case func f =>
   injection h with h;subst h;exact λK=>⟨.func (.func f) (first.map ρ) (E.map ρ),S,by simp[Instr.makeFunc],Ext.refl S,K,.fn _ _ _ _ _ dh dh (iW j first) (iW j E)⟩
  all_goals cases h
 |slice t x lo hi mx =>
  simp only[Yc]at h;have B:=j x;split at h
  ·rename_i G;unfold ZR at h;split at h
   ·rename_i s R ak
    have aj:mx=L:=by
     cases mx with
     |none=>rfl
     |some _=>simp at ak
    subst aj;rw[R]at B;generalize A:ρ x=xv at B;cases B with|str _ b F =>
    refine Gives.same ?_;obtain⟨v',N,hv⟩:=ZhC (P:=C.P) G F (An j lo) (An j hi) h;exact⟨v',by simpa[A,Instr.sliceAt,run_underlying G]using N,hv⟩
   ·cases h
  ·rename_i e G;split at h
   ·rename_i size Y;refine Gives.same ?_;obtain⟨v',N,hv⟩:=Zlq (P:=C.P) G Y B (An j lo) (An j hi) (An j mx) h;exact⟨v',by simpa[Instr.sliceAt,run_underlying G]using N,hv⟩
   ·cases h
  ·cases h
 |fieldAddr t x f =>
  simp only[Yc]at h;split at h
  ·rename_i fd hf;split at h
   ·rename_i sz Y;split at h
    ·rename_i h0;obtain⟨b,o,A,N⟩:=Zbi (j x) h;exact Gives.same ⟨_,by rw[A];exact Zph hf Y h0 S.w,N⟩
    ·cases h
   ·cases h
  ·cases h
 |field t x f =>
  simp only[Yc]at h;split at h
  ·rename_i fd hf;split at h
   ·rename_i g sz hg Y;unfold Cb at h;split at h
    ·rename_i cs R;have B:=j x;rw[R]at B;generalize A:ρ x=xv at B;cases B with|agg _ vs h0 T X =>
     obtain⟨v',N,hv⟩:=BU hg Y ⟨T,X,h0⟩ h;exact Gives.same ⟨v',by rw[A,ZuX hf];exact N,hv⟩
    ·cases h
   ·cases h
  ·cases h
 |indexAddr t x i =>
  simp only[Yc]at h;split at h
  ·rename_i e G;split at h
   ·rename_i size Y;exact Gives.same (Zln G Y (j x) (j i) h)
   ·cases h
  ·rename_i len e G;split at h
   ·rename_i size Y;exact Gives.same (Zlm G Y (j x) (j i) h)
   ·cases h
  ·cases h
 |index t x i =>
  simp only[Yc]at h;split at h
  ·rename_i G;exact Gives.same (Zhw G (j x) (j i) h)
  ·rename_i len e G;split at h
   ·rename_i g size hg Y;exact Gives.same (Zhv G hg Y (j x) (j i) h)
   ·cases h
  ·cases h
 |extract t i =>
  simp only[Yc]at h;unfold ZK at h;split at h
  ·rename_i l R;have B:=j t;rw[R]at B;generalize A:ρ t=xv at B;cases B with|tuple _ vs T X =>
   obtain⟨u,G,N⟩:∃ u,vs[i]?=O u/\VRel S v u:=by
    have ae:i<vs.size:=by
     rw[T];rcases zD i (Z l) with h'|h'
     ·exact h'
     ·rw[zA h']at h;cases h
    exact⟨vs[i],zH ae,X i v _ h (zH ae)⟩
   exact Gives.same ⟨u,by simp[A,Instr.extract,G],N⟩
  ·cases h
 |call c =>
  obtain⟨callee,args,argTypes⟩:=c
  cases callee with
  |value f=>simp[Yc]at h
  |invoke r m=>simp[Yc]at h
  |builtin b =>
   cases b <;> first
    |(simp[Yc]at h;done)
    |skip
   case len =>
    simp only[Yc]at h;split at h
    ·rename_i x t D ht;obtain rfl:=Q5 D;obtain rfl:=Q5 ht;intro K;obtain⟨v',T,X⟩:=Zqe (P:=C.P) (j x) h aa;exact⟨v',S,by simp[resolve,invoke,builtin,T],Ext.refl S,K,X⟩
    ·cases h
   case min =>
    simp only[Yc]at h;split at h
    ·rename_i x y D;obtain rfl:=XI D;intro K;obtain⟨v',T,X⟩:=Zoo (P:=C.P) (j x) (j y) h argTypes aa;exact⟨v',S,by simp[resolve,invoke,builtin,T],Ext.refl S,K,X⟩
    ·cases h
   case max =>
    simp only[Yc]at h;split at h
    ·rename_i x y D;obtain rfl:=XI D;intro K;obtain⟨v',T,X⟩:=Zon (P:=C.P) (j x) (j y) h argTypes aa;exact⟨v',S,by simp[resolve,invoke,builtin,T],Ext.refl S,K,X⟩
    ·cases h
 |makeInterface t x =>
  simp only[Yc,Zzz]at h;split at h
  ·cases h
  ·rename_i d hd G;injection h with h;subst h;refine Gives.same ⟨.iface t (ρ x),?_,.iface t _ _ (j x)⟩;have N:=λw=>run_underlying (w:=w) G;simp only[Instr.makeInterface,Sem.run_bind,N,Result.andThen_ok];cases d <;> first|rfl|exact absurd G (hd _)
  ·cases h
 |typeAssert x xt t ok =>
  simp only[Yc]at h;split at h
  ·rename_i z hz;obtain⟨zc,z1,z2⟩:=Uh hz;unfold ZzE at h;split at h
   ·cases h
   ·rename_i d hd G;have N:=λw=>run_underlying (w:=w) G;have B:=j x;have ab:∀ ms,d≠.interface ms:=λms e=>hd ms e;split at h
    ·rename_i t' v' R;rw[R]at B;generalize A:ρ x=xv at B;cases B with|iface _ _ u hvu =>
     split at h
     ·rename_i ad;injection h with h;subst h;refine Gives.same ⟨if ok then .tuple #[u,.bool Q] else u,?_,?_⟩
      ·simp only[A,Instr.typeAssert,Sem.run_bind,N,Result.andThen_ok];cases d <;> first|(simp[ad];done)|exact absurd rfl (ab _)
      ·cases ok with
       |true=>exact .tuple _ _ rfl (λi a b D F=>by
        match i with
        |0=>simp at D F;subst D;subst F;exact hvu
        |1=>simp at D F;subst D;subst F;exact .bool _
        |i+2=>simp at D)
       |false=>exact hvu
     ·rename_i ad;split at h
      ·rename_i ac;injection h with h;subst h;refine Gives.same ⟨.tuple #[zc,.bool J],?_,?_⟩
       ·simp only[A,Instr.typeAssert,Sem.run_bind,N,Result.andThen_ok];cases d <;> first|(simp[ad,ac,z1];done)|exact absurd rfl (ab _)
       ·exact .tuple _ _ rfl (λi a b D F=>by
         match i with
         |0=>simp at D F;subst D;subst F;exact z2 S
         |1=>simp at D F;subst D;subst F;exact .bool _
         |i+2=>simp at D)
      ·cases h
    ·rename_i R;rw[R]at B;generalize A:ρ x=xv at B;cases B;split at h
     ·rename_i ac;injection h with h;subst h;refine Gives.same ⟨.tuple #[zc,.bool J],?_,?_⟩
      ·simp only[A,Instr.typeAssert,Sem.run_bind,N,Result.andThen_ok];cases d <;> first|(simp[ac,z1];done)|exact absurd rfl (ab _)
      ·exact .tuple _ _ rfl (λi a b D F=>by
        match i with
        |0=>simp at D F;subst D;subst F;exact z2 S
        |1=>simp at D F;subst D;subst F;exact .bool _
        |i+2=>simp at D)
     ·cases h
    ·cases h
   ·cases h
  ·cases h
 |_=>simp[Yc]at h
end
end Go.Am
