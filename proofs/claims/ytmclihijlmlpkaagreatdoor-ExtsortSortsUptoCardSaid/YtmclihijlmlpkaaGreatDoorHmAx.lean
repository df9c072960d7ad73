/- THE ABSTRACT MACHINE -/
import Derived.WalkKit
import Derived.Lib.FrozenHead
import Derived.ChangeKeysEq
import Derived.Laws.IdiomStrings
theorem de {α:Sort _}{a:α}:a=a:=(Eq.refl _).trans (Eq.refl _)
theorem df {p:Prop}(h:p:=by kernel_rfl):p:=h
theorem cm {p:Prop}(h:p:=by omega):p:=h
theorem Go.db.cm {p:Prop}(h:p:=by omega):p:=h
theorem cn {p:Prop}(h:p:=by simp):p:=h
theorem Go.db.cn {p:Prop}(h:p:=by simp):p:=h
theorem co {p:Prop}(h:p:=by decide):p:=h
theorem Go.db.co {p:Prop}(h:p:=by decide):p:=h
abbrev cz:=List UInt8
abbrev da:=List Nat
def Go.db.dd:Nat->Nat->List Nat->List Nat
 |0,_,l=>l
 |k+1,n,l=>cond (Nat.ble n 1) l (Go.db.dd k (n/2) (n%2::l))
abbrev dd (n:Nat):=Go.db.dd 60 n []
open Option renaming some->O,none->L
open Bool renaming true->Q,false->J
open List renaming length->Z
open Go.db renaming cm->I
open List renaming getElem?_eq_none->zA,eq_nil_of_length_eq_zero->zF,replicate->zG,all_eq_true->zI,getElem?_map->zK,getElem?_append_left->zL,mem_of_mem_drop->zM,getElem?_append_right->zN,getElem?_take_of_lt->zQ,getElem?_eq_getElem->zR,eq_of_mem_replicate->zS,getElem?_drop->zT,range->zX,mem_of_getElem?->yC,mem_of_mem_take->yD,mem_or_eq_of_mem_set->yF,foldl_cons->yH,mapM_cons->yK,length_cons->yP,mem_flatten->yQ,mem_map->yV
open Nat renaming beq->zC,lt_or_ge->zD,mul_le_mul_right->zE,beq_eq->zJ,add_mul->zP,succ_le_of_lt->zW,le_refl->yA,lt_succ_of_lt->yE,succ_mul->yG,zero_add->yN,mul_comm->yO,div_add_mod->yR,le_trans->yT,add_comm->yU
open Bool renaming and_eq_true->zB,false_eq_true->zU,not_true->yS
open Option renaming map_eq_some_iff->zZ,map_some->yI
open Array renaming getElem?_eq_getElem->zH,getElem?_eq_none->zY,getElem?_toList->yB,range->yJ,getElem?_map->yM
open UInt8 renaming ofNat->zO
open Option.some renaming injEq->zV
open Prod.mk renaming injEq->yL
namespace Go.Am
inductive Tok where
 |no
 |own (t e:Nat)
 |clip
 deriving DecidableEq
inductive AV where
 |undef
 |bool (b:Bool)
 |int (k:IntKind) (n:Int)
 |str (s:cz)
 |nilp
 |ptr (o off:Nat)
 |vp (cells:List AV)
 |nils
 |vs (k:Nat) (tok:Tok) (l:List AV)
 |rs (ag:Bool) (k o off len cap:Nat)
 |ws (ag:Bool) (k o e len:Nat)
 |wp (o e off:Nat)
 |nilm
 |map (o:Nat)
 |nilf
 |fn (fn:Fn) (first captured:List AV)
 |nili
 |iface (t:TypeId) (v:AV)
 |agg (cells:List AV)
 |tuple (l:List AV)
def AV.cells:AV->List AV
 |.agg cs=>cs
 |v=>[v]
def AV.isCell:AV->Bool
 |.undef|.agg _|.tuple _=>J
 |_=>Q
inductive AObj where
 |cells (l:List AV)
 |bld (T u:TypeId) (l:cz)
 |tok (e:Nat)
 |row (e:Nat) (l:List AV)
 |map (es:List (AV×AV×Nat)) (clock:Nat)
 |siter (s:cz) (pos:Nat)
 |dead
 |free
structure Snap where
 w:World
 phi:Nat->Option Nat
 pub:Nat->Nat->Prop
 tk:Nat->Option (Nat×Nat×Nat×Nat)
 lim:Nat
def TokOk (S:Snap)(k:Nat)(tok:Tok)(len b off cap:Nat):Prop :=
 match tok with
 |.no=>True
 |.clip=>cap=len
 |.own t e=>∃ e0 h hw0 g,S.tk t=O (e0,h,hw0,g)/\e<=e0/\(e=e0->len<cap->b=h/\off+len*k=hw0/\off+cap*k<=g)
def RowOk (S:Snap)(o e b hw h:Nat):Prop:=∃ e0 j hw0 g,S.tk o=O (e0,j,hw0,g)/\e<=e0/\(e=e0->b=j/\hw<=hw0/\h<=g)
def RowIn (S:Snap)(o e b:Nat):Prop:=∃ e0 h hw0 g,S.tk o=O (e0,h,hw0,g)/\e<=e0/\(e=e0->b=h)
inductive VRel (S:Snap):AV->Value->Prop
 |undef (v:Value):VRel S .undef v
 |bool (b:Bool):VRel S (.bool b) (.bool b)
 |int (k:IntKind) (n:Int):VRel S (.int k n) (.int k n)
 |str (s:cz) (b:ByteArray) (h:b.data.toList=s):VRel S (.str s) (.string b)
 |nilp:VRel S .nilp (.pointer L)
 |ptr (o off b:Nat) (h:S.phi o=O b):VRel S (.ptr o off) (.pointer (O ⟨b,off,L⟩))
 |vp (cells:List AV) (b off:Nat) (f:Nat->Value) (hc:cells.all AV.isCell=Q)
  (h1:∀ i,i<Z cells->S.w.cell? ⟨b,off+i,L⟩=O (f i)/\S.pub b (off+i))
  (h2:∀ (i:Nat) (c:AV),cells[i]?=O c->VRel S c (f i)):VRel S (.vp cells) (.pointer (O ⟨b,off,L⟩))
 |nils:VRel S .nils (.slice L 0 0)
 |vs (k:Nat) (tok:Tok) (l:List AV) (b off cap:Nat) (f:Nat->Nat->Value)
  (hcap:Z l<=cap)
  (hk:∀ e,e∈l->Z e.cells=k/\e.cells.all AV.isCell=Q)
  (h1:∀ j i,j<Z l->i<k->S.w.cell? ⟨b,off+j*k+i,L⟩=O (f j i)/\S.pub b (off+j*k+i))
  (h2:∀ (j:Nat) (e:AV) (i:Nat) (c:AV),l[j]?=O e->e.cells[i]?=O c->VRel S c (f j i))
  (ht:TokOk S k tok (Z l) b off cap) (sp:Option Nat) (hsp:sp=L\/cap=0):VRel S (.vs k tok l) (.slice (O ⟨b,off,sp⟩) (Z l) cap)
 |rs (ag:Bool) (k o off len cap b:Nat) (h:S.phi o=O b) (hlen:len<=cap):VRel S (.rs ag k o off len cap) (.slice (O ⟨b,off,L⟩) len cap)
 |ws (ag:Bool) (k o e len cap b:Nat) (h:RowOk S o e b (len*k) (cap*k)) (hlen:len<=cap):VRel S (.ws ag k o e len) (.slice (O ⟨b,0,L⟩) len cap)
 |wp (o e off b:Nat) (h:RowIn S o e b):VRel S (.wp o e off) (.pointer (O ⟨b,off,L⟩))
 |nilm:VRel S .nilm (.map L)
 |map (o b:Nat) (h:S.phi o=O b):VRel S (.map o) (.map (O b))
 |nilf:VRel S .nilf .nilFunc
 |fn (fn:Fn) (first captured:List AV) (F C:Array Value) (hF:F.size=Z first) (hC:C.size=Z captured)
  (h1:∀ (i:Nat) (c:AV) (v:Value),first[i]?=O c->F[i]?=O v->VRel S c v)
  (h2:∀ (i:Nat) (c:AV) (v:Value),captured[i]?=O c->C[i]?=O v->VRel S c v):VRel S (.fn fn first captured) (.func fn F C)
 |nili:VRel S .nili .nilIface
 |iface (t:TypeId) (v:AV) (u:Value) (h:VRel S v u):VRel S (.iface t v) (.iface t u)
 |agg (cells:List AV) (vs:Array Value) (hc:cells.all AV.isCell=Q) (hs:vs.size=Z cells) (h:∀ (i:Nat) (c:AV) (v:Value),cells[i]?=O c->vs[i]?=O v->VRel S c v):VRel S (.agg cells) (.agg vs)
 |tuple (l:List AV) (vs:Array Value) (hs:vs.size=Z l) (h:∀ (i:Nat) (c:AV) (v:Value),l[i]?=O c->vs[i]?=O v->VRel S c v):VRel S (.tuple l) (.tuple vs)
structure Ext0 (S S':Snap):Prop where
 phi:∀ o b,S.phi o=O b->S'.phi o=O b
 pub:∀ b i,S.pub b i->S'.pub b i/\S'.w.cell? ⟨b,i,L⟩=S.w.cell? ⟨b,i,L⟩
 tk:∀ t e b hw sz,S.tk t=O (e,b,hw,sz)->∃ e' b' hw' sz',S'.tk t=O (e',b',hw',sz')/\e<=e'/\(e'=e->b'=b/\hw'=hw/\sz'=sz)
structure Ext (S S':Snap):Prop extends Ext0 S S' where
 lim:S'.lim=S.lim
 old:∀ b i,S'.pub b i->b<S.lim->S.pub b i
theorem Ext.refl (S:Snap):Ext S S :=
 ⟨⟨λ_ _ h=>h,λ_ _ h=>⟨h,rfl⟩,λ_ e b hw sz h=>⟨e,b,hw,sz,h,yA _,λ_=>⟨rfl,rfl,rfl⟩⟩⟩,rfl,λ_ _ h _=>h⟩
theorem Ext.trans {A B C:Snap}(h:Ext A B)(k:Ext B C):Ext A C:=by
 refine⟨⟨λo b e=>k.phi o b (h.phi o b e),λb i e=>?_,λt e b hw sz X=>?_⟩,k.lim.trans h.lim,λb i hp N=>h.old b i (k.old b i hp (by rw[h.lim];exact N)) N⟩
 ·obtain⟨p,q⟩:=h.pub b i e;obtain⟨p',q'⟩:=k.pub b i p;exact⟨p',q'.trans q⟩
 ·obtain⟨u,R,z,E,Y,y,w⟩:=h.tk t e b hw sz X;obtain⟨K,T,D,F,h3,j,g⟩:=k.tk t u R z E Y;refine⟨K,T,D,F,h3,yT y j,λhe=>?_⟩;have:u=e:=I
  obtain⟨rfl,rfl,rfl⟩:=w this;have:K=u:=I
  exact g this
theorem TokOk.mono0 {S A:Snap}(T:Ext0 S A){k:Nat}{tok:Tok}{len b off cap:Nat}(h:TokOk S k tok len b off cap):TokOk A k tok len b off cap:=by
 cases tok with
 |no=>trivial
 |clip=>exact h
 |own t e =>
  obtain⟨e0,D,hw0,y,F,N,R⟩:=h;obtain⟨B,E,w,z,K,C,u⟩:=T.tk t e0 D hw0 y F;refine⟨B,E,w,z,K,I,λX j=>?_⟩;have g:B=e0:=I
  obtain⟨rfl,rfl,rfl⟩:=u g;exact R I j
theorem RowOk.mono0 {S A:Snap}(T:Ext0 S A){o e b hw g:Nat}(h:RowOk S o e b hw g):RowOk A o e b hw g:=by
 obtain⟨e0,D,hw0,y,F,N,R⟩:=h;obtain⟨B,E,w,z,K,C,u⟩:=T.tk o e0 D hw0 y F;refine⟨B,E,w,z,K,I,λX=>?_⟩;have j:B=e0:=I
 obtain⟨rfl,rfl,rfl⟩:=u j;exact R I
theorem RowIn.mono0 {S z:Snap}(R:Ext0 S z){o e b:Nat}(h:RowIn S o e b):RowIn z o e b:=by
 obtain⟨e0,C,hw0,w,E,K,N⟩:=h;obtain⟨A,D,u,y,F,B,j⟩:=R.tk o e0 C hw0 w E;refine⟨A,D,u,y,F,I,λT=>?_⟩;have g:A=e0:=I
 obtain⟨rfl,rfl,rfl⟩:=j g;exact N I
theorem VRel.mono0 {S Y:Snap}(z:Ext0 S Y){a:AV}{v:Value}(h:VRel S a v):VRel Y a v:=by
 induction h with
 |undef v=>exact .undef v
 |bool b=>exact .bool b
 |int k n=>exact .int k n
 |str s b h=>exact .str s b h
 |nilp=>exact .nilp
 |ptr o off b h=>exact .ptr o off b (z.phi _ _ h)
 |vp cells b off f D B h2 y =>
  refine .vp cells b off f D (λi hi=>?_) y;obtain⟨p,q⟩:=B i hi;obtain⟨T,X⟩:=z.pub _ _ q;exact⟨X.trans p,T⟩
 |nils=>exact .nils
 |vs k tok l b off cap f A hk B h2 ht sp K y =>
  refine .vs k tok l b off cap f A hk (λj i hj hi=>?_) y (ht.mono0 z) sp K;obtain⟨p,q⟩:=B j i hj hi;obtain⟨T,X⟩:=z.pub _ _ q;exact⟨X.trans p,T⟩
 |rs ag k o off len cap b h w=>exact .rs ag k o off len cap b (z.phi _ _ h) w
 |ws ag k o e len cap b h w=>exact .ws ag k o e len cap b (h.mono0 z) w
 |wp o e off b h=>exact .wp o e off b (h.mono0 z)
 |nilm=>exact .nilm
 |map o b h=>exact .map o b (z.phi _ _ h)
 |nilf=>exact .nilf
 |fn fn first g F C hF hC B h2 N R=>exact .fn fn first g F C hF hC N R
 |nili=>exact .nili
 |iface t v u h y=>exact .iface t v u y
 |agg cells vs D E h y=>exact .agg cells vs D E y
 |tuple l vs E h y=>exact .tuple l vs E y
theorem VRel.mono {S g:Snap}(j:Ext S g){a:AV}{v:Value}(h:VRel S a v):VRel g a v:=h.mono0 j.toExt0
def ZqA (n:Nat)(fz:Nat×Nat):Prop:=∀ i,i<n->¬ (fz.1<=i/\i<fz.2)
def ORel (S:Snap)(j:Nat)(o:Nat):AObj->Prop
 |.cells l=>∃ b c el,S.phi o=O b/\j<=b/\S.w.heap[b]?=O (.cells c el (0,0))/\c.size=Z l /\
  (∀ (i:Nat) (x:AV) (v:Value),l[i]?=O x->c[i]?=O v->VRel S x v)/\(∀ i,¬ S.pub b i)/\l.all AV.isCell=Q
 |.bld T u l=>∃ b,S.phi o=O b/\Lib.IsBuilderF T u j b (Lib.byteCells l) S.w/\T≠u/\(∀ i,¬ S.pub b i) /\
  ∀ v g,S.w.cell? ⟨b,1,L⟩=O v->v.ownBlock=O g->(∃ n hw sz,S.tk o=O (n,g,hw,sz))/\∀ i,¬ S.pub g i
 |.row e l=>∃ b sz c el fz,S.tk o=O (e,b,Z l,sz)/\j<=b/\S.w.heap[b]?=O (.cells c el fz)/\c.size=sz/\Z l<=sz /\
  (∀ (i:Nat) (x:AV) (v:Value),l[i]?=O x->c[i]?=O v->VRel S x v)/\(∀ i,¬ S.pub b i)/\l.all AV.isCell=Q/\ZqA c.size fz
 |.tok e=>∃ b hw sz c el fz,S.tk o=O (e,b,hw,sz)/\j<=b/\S.w.heap[b]?=O (.cells c el fz)/\c.size=sz/\hw<=sz /\
  (∀ i,hw<=i->¬ S.pub b i)/\ZqA c.size fz
 |.map es clock=>∃ b h,S.phi o=O b/\j<=b/\S.w.heap[b]?=O (.map h clock)/\h.size=Z es/\(∀ i,¬ S.pub b i) /\
  (∀ (i:Nat) (k v:AV) (n:Nat) (e:MapEntry),es[i]?=O (k,v,n)->h[i]?=O e->VRel S k e.key/\VRel S v e.val/\e.born=n)
 |.siter s pos=>∃ b s',S.phi o=O b/\j<=b/\S.w.heap[b]?=O (.stringIter s' pos)/\s'.data.toList=s/\(∀ i,¬ S.pub b i)
 |.dead=>True
 |.free=>S.phi o=L/\S.tk o=L
structure Inv (W0:World)(S:Snap)(H:List AObj):Prop where
 below:RowKit.Below W0.heap.size W0 S.w
 objs:∀ o x,H[o]?=O x->ORel S W0.heap.size o x
 past:∀ o,Z H<=o->S.phi o=L/\S.tk o=L
 inj:∀ o o' b,S.phi o=O b->S.phi o'=O b->H[o]?≠O .dead->H[o']?≠O .dead->o=o'
 tinj:∀ t t' e b hw sz e' hw' sz',S.tk t=O (e,b,hw,sz)->S.tk t'=O (e',b,hw',sz')->t=t'
 apart:∀ t e b hw sz o,S.tk t=O (e,b,hw,sz)->S.phi o≠O b
 puball:∀ b i,S.pub b i->b<S.w.heap.size
 dom:∀ o b,S.phi o=O b->b<S.w.heap.size
 tdom:∀ t e b hw sz,S.tk t=O (e,b,hw,sz)->b<S.w.heap.size
 lim:S.lim<=W0.heap.size
end Go.Am
namespace Go.Am
abbrev Hp:=List AObj
inductive ExtK where
 |same
 |indexByte
 |cmp
 |count
 deriving DecidableEq
def K6 (c:UInt8):cz->Nat->Int
 |[],_=>-1
 |b::l,i=>if b=c then i else K6 c l (i+1)
def Qw:cz->cz->Int
 |[],[]=>0
 |[],_::_=>-1
 |_::_,[]=>1
 |a::l,b::m=>if a=b then Qw l m else if a<b then -1 else 1
def TB (c:UInt8):cz->Nat
 |[]=>0
 |b::l=>if b=c then TB c l+1 else TB c l
def Znv:ExtK->List AV->Option AV
 |.same,[x]=>O x
 |.indexByte,[.str s,.int .u8 n]=>O (.int .i64 (K6 (zO n.toNat) s 0))
 |.cmp,[.str a,.str b]=>O (.int .i64 (Qw a b))
 |.count,[.str s,.int .u8 n]=>O (.int .i64 (TB (zO n.toNat) s))
 |_,_=>L
def D9:ExtK->Array Value->Sem Value
 |.same=>Extern.AbiNoEscape.same
 |.indexByte=>Extern.BytealgIndexByte.indexByte
 |.cmp=>Extern.BytealgCompare.compare
 |.count=>Extern.BytealgCount.count
def fR (e:ExtK)(args:List AV)(H:List AObj):Option (AV×List AObj) :=
 match Znv e args with
 |some v=>O (v,H)
 |none=>L
def Xp {α:Type}(g:Hp->Option (α×Hp)):Prop :=
 ∀ H v H',g H=O (v,H')->Z H<=Z H'/\∀ o,o<Z H->H'[o]?=O .free->H[o]?=O .free/\∀ x,g (H.set o x)=O (v,H'.set o x)
structure EffFn where
 run:List AV->Hp->Option (AV×Hp)
 frm:∀ args,Xp (run args)
structure Cfg where
 P:Program
 glob:Nat->Option (List AV)
 user:FuncId->Bool
 eqok:TypeId->Bool
 pure:FuncId->Bool
 flat:FuncId->Bool
 ext:FuncId->Option ExtK
 sum:FuncId->Option (List AV->Option AV)
 keep:FuncId->Nat->Option da
 eff:FuncId->Option EffFn:=λ_=>L
 bld:TypeId->Option TypeId:=λ_=>L
 lin:TypeId->Bool:=λ_=>J
 qk:Nat->da->Bool:=λ_ _=>J
 wrb:TypeId->Bool:=λ_=>J
 ro:FuncId->Bool:=λ_=>J
 rst:TypeId->Nat->Nat->Nat:=λ_ _ _=>0
 far:Option (TypeId->Nat->TypeId->Nat->Bool):=L
 dfr:FuncId->Bool:=λ_=>J
def Xx (P:Program)(t:TypeId):Option Bool :=
 match P.underlying t with
 |some (.struct _)=>O Q
 |some (.array _ _)=>O Q
 |some _=>O J
 |none=>L
def Xr (P:Program)(t:TypeId):Option Nat :=
 match P.info? t with
 |some i=>O i.size
 |none=>L
def DH (P:Program)(t:TypeId):Option Nat :=
 match P.info? t with
 |some i=>O i.bytes
 |none=>L
def ZbV (P:Program)(t:TypeId):Option TypeId :=
 match P.underlying t with
 |some (.slice e)=>O e
 |_=>L
def cN (P:Program)(t:TypeId)(f:Nat):Option Field :=
 match P.underlying t with
 |some (.struct fs)=>fs[f]?
 |_=>L
def UV:Nat->Value->AV
 |_,.bool b=>.bool b
 |_,.int k n=>.int k n
 |_,.string s=>.str s.data.toList
 |_,.pointer L=>.nilp
 |_,.slice L 0 0=>.nils
 |_,.map L=>.nilm
 |_,.nilFunc=>.nilf
 |_,.nilIface=>.nili
 |n+1,.agg cs=>if (cs.toList.map (UV n)).all AV.isCell then .agg (cs.toList.map (UV n)) else .undef
 |n+1,.tuple cs=>.tuple (cs.toList.map (UV n))
 |n+1,.iface t v=>.iface t (UV n v)
 |n+1,.func fn f c=>.fn fn (f.toList.map (UV n)) (c.toList.map (UV n))
 |_,_=>.undef
def JY (P:Program)(t:TypeId):Option AV :=
 match P.info? t with
 |some i=>match i.zero with
  |some z=>O (UV 3 z)
  |none=>L
 |none=>L
def eval (C:Cfg)(tm:List AV):Operand->AV
 |.tmp t=>tm.getD t (.tuple [])
 |.const v=>UV 4 v
 |.global g=>match C.glob g with
  |some h=>.vp h
  |none=>.undef
 |.func f=>.fn (.func f) [] []
def apart (g:Bool)(sz:Nat)(cells:List AV)(off:Nat):Option AV :=
 if g then (if off+sz<=Z cells then O (.agg ((cells.drop off).take sz)) else L) else cells[off]?
def Z2 (g:Bool)(sz:Nat)(a:AV)(H:Hp):Option AV :=
 match a with
 |.ptr o off=>match H[o]? with
  |some (.cells l)=>apart g sz l off
  |_=>L
 |.vp cells=>apart g sz cells 0
 |.wp o e off=>match H[o]? with
  |some (.row e' l)=>if e'=e then apart g sz l off else L
  |_=>L
 |_=>L
def Xk (g:Bool)(sz:Nat)(a:AV):Option AV :=
 match a with
 |.vp cells=>apart g sz cells 0
 |_=>L
def AV.known:AV->Bool
 |.undef|.tuple _=>J
 |_=>Q
def splice (l:List AV)(off:Nat)(g:List AV):List AV:=l.take off++g++l.drop (off+Z g)
def YI (sz:Nat)(a v:AV)(H:Hp):Option Hp :=
 match a with
 |.ptr o off=>match H[o]? with
  |some (.cells l)=>if v.known=Q/\Z v.cells=sz/\off+sz<=Z l then O (H.set o (.cells (splice l off v.cells))) else L
  |_=>L
 |.wp o e off=>match H[o]? with
  |some (.row e' l)=>if e'=e/\v.known=Q/\Z v.cells=sz/\off+sz<=Z l then O (H.set o (.row e (splice l off v.cells))) else L
  |_=>L
 |_=>L
def Z8 (off:Nat)(a:AV):Option AV :=
 match a with
 |.ptr o x=>O (.ptr o (x+off))
 |.wp o e x=>O (.wp o e (x+off))
 |.vp cells=>if off<=Z cells then O (.vp (cells.drop off)) else L
 |_=>L
def Zj (size:Nat)(x i:AV):Option AV :=
 match x,i with
 |.vs k _ l,.int _ n=>if k=size/\0<=n then match l[n.toNat]? with
  |some e=>O (.vp e.cells)
  |none=>L else L
 |.rs _ _ o off len _,.int _ n=>if 0<=n/\n<len then O (.ptr o (off+n.toNat*size)) else L
 |.ws _ _ o e len,.int _ n=>if 0<=n/\n<len then O (.wp o e (n.toNat*size)) else L
 |_,_=>L
def N7 (len size:Nat)(x i:AV):Option AV :=
 match i with
 |.int _ n=>if 0<=n/\n<len then Z8 (n.toNat*size) x else L
 |_=>L
def Zz (x i:AV):Option AV :=
 match x,i with
 |.str s,.int _ n=>if 0<=n then match s[n.toNat]? with
  |some b=>O (.int .u8 b.toNat)
  |none=>L else L
 |_,_=>L
def Zai (g:Bool)(len size:Nat)(x i:AV):Option AV :=
 match x,i with
 |.agg cs,.int _ n=>if 0<=n/\n<len then apart g size cs (n.toNat*size) else L
 |_,_=>L
def Wk (op:BinOp)(k:IntKind)(a b:Int):Option AV :=
 match op with
 |.add=>O (.int k (k.wrap (a+b)))
 |.sub=>O (.int k (k.wrap (a-b)))
 |.mul=>O (.int k (k.wrap (a*b)))
 |.quo=>if b=0 then L else O (.int k (k.wrap (a.tdiv b)))
 |.rem=>if b=0 then L else O (.int k (a.tmod b))
 |.and=>O (.int k (k.wrap ((BitVec.ofInt k.bits a &&& BitVec.ofInt k.bits b).toNat:Int)))
 |.or=>O (.int k (k.wrap ((BitVec.ofInt k.bits a ||| BitVec.ofInt k.bits b).toNat:Int)))
 |.xor=>O (.int k (k.wrap ((BitVec.ofInt k.bits a ^^^ BitVec.ofInt k.bits b).toNat:Int)))
 |.andNot=>O (.int k (k.wrap ((BitVec.ofInt k.bits a &&& ~~~BitVec.ofInt k.bits b).toNat:Int)))
 |.eql=>O (.bool (a==b))
 |.neq=>O (.bool (a != b))
 |.lss=>O (.bool (decide (a<b)))
 |.leq=>O (.bool (decide (a<=b)))
 |.gtr=>O (.bool (decide (a > b)))
 |.geq=>O (.bool (decide (a ≥ b)))
 |_=>L
def F5 (op:BinOp)(a b:cz):Option AV :=
 match op with
 |.add=>if Z a+Z b<=9223372036854775807 then O (.str (a++b)) else L
 |.eql=>O (.bool (a==b))
 |.neq=>O (.bool (!(a==b)))
 |.lss=>O (.bool (Op.bytesLess a b))
 |.leq=>O (.bool (Op.bytesLess a b || a==b))
 |.gtr=>O (.bool (!(Op.bytesLess a b || a==b)))
 |.geq=>O (.bool (!Op.bytesLess a b))
 |_=>L
def Zag (g:TypeDesc)(x y:AV):Option Bool :=
 match g,x,y with
 |.bool,.bool a,.bool b=>O (a==b)
 |.int _,.int k a,.int k' b=>if k=k' then O (a==b) else L
 |.string,.str a,.str b=>O (a==b)
 |.pointer _,.nilp,.nilp=>O Q
 |.pointer _,.nilp,.ptr _ _=>O J
 |.pointer _,.nilp,.vp _=>O J
 |.pointer _,.ptr _ _,.nilp=>O J
 |.pointer _,.nilp,.wp _ _ _=>O J
 |.pointer _,.wp _ _ _,.nilp=>O J
 |.pointer _,.vp _,.nilp=>O J
 |.slice _,.nils,.nils=>O Q
 |.slice _,.nils,.vs _ _ _=>O J
 |.slice _,.nils,.rs _ _ _ _ _ _=>O J
 |.slice _,.nils,.ws _ _ _ _ _=>O J
 |.slice _,.ws _ _ _ _ _,.nils=>O J
 |.slice _,.vs _ _ _,.nils=>O J
 |.slice _,.rs _ _ _ _ _ _,.nils=>O J
 |.map _ _,.nilm,.nilm=>O Q
 |.map _ _,.nilm,.map _=>O J
 |.map _ _,.map _,.nilm=>O J
 |.func _ _ _,.nilf,.nilf=>O Q
 |.func _ _ _,.nilf,.fn _ _ _=>O J
 |.func _ _ _,.fn _ _ _,.nilf=>O J
 |_,_,_=>L
def Rl (P:Program)(rec:TypeId->AV->AV->Option Bool)(xs ys:List AV):List Field->Option Bool
 |[]=>some true
 |f::fs =>
  if f.name ≠ "_" then
   match Xx P f.type,Xr P f.type with
   |some g,some sz=>match apart g sz xs f.offset,apart g sz ys f.offset with
    |some u,some v=>match rec f.type u v with
     |some true=>Rl P rec xs ys fs
     |r=>r
    |_,_=>none
   |_,_=>none
  else Rl P rec xs ys fs
def Cy (h:AV->AV->Option Bool)(g:Bool)(sz:Nat)(xs j:List AV):da->Option Bool
 |[]=>O Q
 |i::is=>match apart g sz xs (i*sz),apart g sz j (i*sz) with
  |some u,O v=>match h u v with
   |some Q=>Cy h g sz xs j is
   |r=>r
  |_,_=>L
def AR (P:Program)(ok:TypeId->Bool):Nat->TypeId->AV->AV->Option Bool
 |0,_,_,_=>L
 |d+1,t,x,y =>
  match P.underlying t with
  |some (.struct fs)=>match x,y with
   |.agg xs,.agg ys=>if ok t then Rl P (AR P ok d) xs ys fs.toList else L
   |_,_=>L
  |some (.array n e)=>match x,y with
   |.agg xs,.agg ys=>if ok t then (match Xx P e,Xr P e with
    |some g,O sz=>Cy (AR P ok d e) g sz xs ys (zX n)
    |_,_=>L) else L
   |_,_=>L
  |some h=>Zag h x y
  |none=>L
def MA (P:Program)(ok:TypeId->Bool)(op:BinOp)(t:TypeId)(x y:AV):Option AV :=
 match op with
 |.eql=>match AR P ok 20 t x y with
  |some b=>O (.bool b)
  |none=>L
 |.neq=>match AR P ok 20 t x y with
  |some b=>O (.bool (!b))
  |none=>L
 |_=>L
def Wj (op:BinOp)(k k':IntKind)(a b:Int):Option AV :=
 match op with
 |.shl=>if b<0 then L else O (.int k (k.wrap (a*2 ^ (min b.toNat k.bits))))
 |.shr=>if b<0 then L else O (.int k (a.fdiv (2 ^ (min b.toNat k.bits))))
 |op=>if k=k' then Wk op k a b else L
def Z3 (op:BinOp)(x y:AV):Option AV :=
 match x,y with
 |.int k a,.int k' b=>Wj op k k' a b
 |_,_=>L
def YK (op:BinOp)(x y:AV):Option AV :=
 match x,y with
 |.str a,.str b=>F5 op a b
 |_,_=>L
def YJ (d:TypeDesc)(op:BinOp)(x y:AV):Option AV :=
 match op with
 |.eql=>match Zag d x y with
  |some b=>O (.bool b)
  |none=>L
 |.neq=>match Zag d x y with
  |some b=>O (.bool (!b))
  |none=>L
 |_=>L
def ZvY (P:Program)(ok:TypeId->Bool)(op:BinOp)(t:TypeId)(x y:AV):Option AV :=
 match P.underlying t with
 |some (.int _)=>Z3 op x y
 |some .string=>YK op x y
 |some (.struct _)=>MA P ok op t x y
 |some (.array _ _)=>MA P ok op t x y
 |some d=>YJ d op x y
 |none=>L
def ZfE (P:Program)(t:TypeId):Bool :=
 match P.underlying t with
 |some (.interface _)=>Q
 |_=>J
def ZzJ (P:Program)(t:TypeId)(x:AV):Option AV :=
 match P.underlying t with
 |some (.interface _)=>L
 |some _=>O (.iface t x)
 |none=>L
def ZzO (P:Program)(ok:Bool)(t:TypeId)(z:AV)(x:AV):Option AV :=
 match P.underlying t with
 |some (.interface _)=>L
 |some _=>match x with
  |.iface t' v=>if t'=t then O (if ok then .tuple [v,.bool Q] else v) else if ok then O (.tuple [z,.bool J]) else L
  |.nili=>if ok then O (.tuple [z,.bool J]) else L
  |_=>L
 |none=>L
def Zs7 (P:Program)(t:TypeId)(name:String):Option FuncId :=
 match P.info? t,P.underlying t with
 |some i,O (.pointer _)=>match i.methods.find? (·.name==name) with
  |some m=>match m.path.toList,m.func with
   |[],O (f,Q)=>O f
   |_,_=>L
  |none=>L
 |_,_=>L
def ZbU (x y:Operand):Bool :=
 match x,y with
 |.const _,_=>Q
 |_,.const _=>Q
 |_,_=>J
def Zke:AV->AV->Option Bool
 |.nili,.nili=>O Q
 |.nili,.iface _ _=>O J
 |.iface _ _,.nili=>O J
 |_,_=>L
def ZhU (op:BinOp)(x y:AV):Option AV :=
 match op with
 |.eql=>match Zke x y with
  |some b=>O (.bool b)
  |none=>L
 |.neq=>match Zke x y with
  |some b=>O (.bool (!b))
  |none=>L
 |_=>L
def Xa (op:UnOp)(x:AV):Option AV :=
 match op,x with
 |.not,.bool b=>O (.bool (!b))
 |.neg,.int k n=>O (.int k (k.wrap (0-n)))
 |.xor,.int k n=>Wk .xor k (if k.signed then -1 else k.max) n
 |_,_=>L
def Yq:List (Nat×Nat×AV)->List AV->Option (List AV)
 |[],cells=>O cells
 |(off,size,v)::rest,cells=>if v.known=Q/\Z v.cells=size/\off+size<=Z cells then Yq rest (splice cells off v.cells) else L
def ZmR (P:Program)(t:TypeId)(parts:List (Nat×AV)):Option AV :=
 match JY P t,P.underlying t with
 |some (.agg zero),O (.struct fs) =>
  match fs.toList.mapM λf=>(Xr P f.type).map (f.offset,·) with
  |some g=>match parts.mapM λp=>(g[p.1]?).map λ(q:Nat×Nat)=>(q.1,q.2,p.2) with
   |some h=>(Yq h zero).map .agg
   |none=>L
  |none=>L
 |some (.agg zero),O (.array _ e)=>match Xr P e with
  |some size=>(Yq (parts.map λp=>(p.1*size,size,p.2)) zero).map .agg
  |none=>L
 |_,_=>L
def Zt (size:Nat):List (Nat×AV)->List AV->Option (List AV)
 |[],l=>O l
 |(i,v)::rest,l=>if v.known=Q/\Z v.cells=size/\i<Z l then Zt size rest (l.set i v) else L
def Zkd (P:Program)(t:TypeId)(len:Nat)(parts:List (Nat×AV)):Option AV :=
 match ZbV P t with
 |some e=>match Xr P e,JY P e with
  |some size,O z=>if len*size<=16777216/\z.known=Q/\Z z.cells=size/\0<size then (Zt size parts (zG len z)).map (.vs size .clip) else L
  |_,_=>L
 |none=>L
def Xj (x:AV)(y:Nat):Option Nat :=
 match x with
 |.int _ n=>if 0<=n/\n<=y then O n.toNat else L
 |_=>L
def YQ (len cap:Nat)(lo hi mx:Option AV):Option (Nat×Nat×Nat) :=
 match (match mx with|some v=>Xj v cap|none=>O cap) with
 |none=>L
 |some m=>match (match hi,mx with|some v,_=>Xj v m|none,L=>O len|none,O _=>L) with
  |none=>L
  |some h=>match (match lo with|some v=>Xj v h|none=>O 0) with
   |none=>L
   |some l=>O (l,h,m)
def Gd (s:cz)(lo hi:Option AV):Option AV :=
 match YQ (Z s) (Z s) lo hi L with
 |some (l,h,_)=>O (.str ((s.take h).drop l))
 |none=>L
def YC (size:Nat)(x:AV)(lo hi mx:Option AV):Option AV :=
 match x with
 |.nils=>match YQ 0 0 lo hi mx with
  |some _=>O .nils
  |none=>L
 |.vs k tok l=>if k=size then match YQ (Z l) (Z l) lo hi mx with
  |some (a,h,m)=>O (.vs k (match mx with
   |some _=>if h=m then .clip else .no
   |none=>if h=Z l then tok else .no) ((l.take h).drop a))
  |none=>L else L
 |.rs ag k o off len cap=>match YQ len cap lo hi mx with
  |some (a,h,m)=>O (.rs ag k o (if m=a then off else off+a*size) (h-a) (m-a))
  |none=>L
 |.ws ag k o e len=>match lo,hi,mx with
  |none,O v,L=>match Xj v len with
   |some h=>if k=size then O (.ws ag k o e h) else L
   |none=>L
  |_,_,_=>L
 |_=>L
def Ug (ag:Bool)(k:Nat):Nat->List AV->List AV
 |0,_=>[]
 |n+1,l=>(if ag then .agg (l.take k) else l.headD .undef)::Ug ag k n (l.drop k)
def elems (k:Nat)(x:AV)(H:Hp):Option (List AV) :=
 match x with
 |.nils=>O []
 |.vs k' _ l=>if k'=k then O l else L
 |.str s=>if k=1 then O (s.map λb=>.int .u8 b.toNat) else L
 |.rs ag k' o off len _=>if k'=k/\(ag=Q\/k=1) then match H[o]? with
  |some (.cells cs)=>if off+len*k<=Z cs then O (Ug ag k len (cs.drop off)) else L
  |_=>L else L
 |.ws ag k' o e len=>if k'=k/\(ag=Q\/k=1) then match H[o]? with
  |some (.row e' cs)=>if e'=e/\len*k<=Z cs then O (Ug ag k len cs) else L
  |_=>L else L
 |_=>L
def Wo:TypeDesc->AV->Bool
 |.bool,.bool _=>Q
 |.int k,.int k' _=>decide (k'=k)
 |.string,.str _=>Q
 |_,_=>J
def Jb:AV->AV->Option Bool
 |.int k a,.int k' b=>if k=k' then O (a==b) else L
 |.str a,.str b=>O (a==b)
 |.bool a,.bool b=>O (a==b)
 |_,_=>L
def YX (k:AV):List (AV×AV×Nat)->Nat->Option (Option (Nat×AV))
 |[],_=>O L
 |e::es,i=>match Jb k e.1 with
  |some Q=>O (O (i,e.2.1))
  |some J=>YX k es (i+1)
  |none=>L
def Dc (P:Program)(t:TypeId):Option (TypeDesc×TypeId) :=
 match P.underlying t with
 |some (.map k e)=>match P.underlying k with
  |some d=>O (d,e)
  |none=>L
 |_=>L
def Xq (x:AV)(H:Hp):Option (List (AV×AV×Nat)) :=
 match x with
 |.nilm=>O []
 |.map o=>match H[o]? with
  |some (.map es _)=>O es
  |_=>L
 |_=>L
def Yo (d:TypeDesc)(z:AV)(g:Bool)(x k:AV)(H:Hp):Option AV :=
 if Wo d k then match Xq x H with
  |some h=>match YX k h 0 with
   |some (O (_,v))=>O (if g then .tuple [v,.bool Q] else v)
   |some L=>O (if g then .tuple [z,.bool J] else z)
   |none=>L
  |none=>L else L
def XC (d:TypeDesc)(m k v:AV)(H:Hp):Option (AV×Hp) :=
 match m with
 |.map o=>match H[o]? with
  |some (.map es c)=>if Wo d k then match YX k es 0 with
   |some (O (i,_))=>O (.tuple [],H.set o (.map (es.set i (k,v,(es.getD i (.undef,.undef,0)).2.2)) c))
   |some L=>O (.tuple [],H.set o (.map (es++[(k,v,c)]) (c+1)))
   |none=>L else L
  |_=>L
 |_=>L
def Jw (x:AV)(H:Hp):Option AV :=
 match Xq x H with
 |some g=>O (.int .i64 (Z g))
 |none=>L
def J7 (d:TypeDesc)(m k:AV)(H:Hp):Option (AV×Hp) :=
 match m with
 |.map o=>match H[o]? with
  |some (.map es c)=>if Wo d k then match YX k es 0 with
   |some (O (i,_))=>O (.tuple [],H.set o (.map (es.eraseIdx i) c))
   |some L=>O (.tuple [],H.set o (.map es c))
   |none=>L else L
  |_=>L
 |_=>L
def YB (n bytes:Nat):Bool:=decide (n*(bytes+1)<=140737488355328)
def Ys (k bytes:Nat)(s:AV)(xs:List AV)(H:Hp):Option (AV×Hp) :=
 match s with
 |.nils=>if xs=[] then O (.nils,H)
  else if YB (Z xs) bytes then O (.vs k (.own (Z H) (Z xs)) xs,H++[.tok (Z xs)]) else L
 |.vs k' tok l =>
  if k'=k/\YB (Z l+Z xs) bytes then
   if xs=[] then O (.vs k tok l,H) else
   match tok with
   |.clip=>O (.vs k (.own (Z H) (Z l+Z xs)) (l++xs),H++[.tok (Z l+Z xs)])
   |.own t e=>match H[t]? with
    |some (.tok e')=>if e'=e then O (.vs k (.own t (e+Z xs)) (l++xs),H.set t (.tok (e+Z xs))) else L
    |_=>L
   |.no=>L
  else L
 |_=>L
def Zrj (n:Nat)(l:List AV):List AV:=if Z l<=n then l else l.take n
theorem cJ (n:Nat)(l:List AV):Zrj n l=l.take n:=by
 unfold Zrj;split
 ·rw[List.take_of_length_le (by assumption)]
 ·rfl
def QH (ag:Bool)(k bytes:Nat)(s:AV)(xs:List AV)(H:Hp):Option (AV×Hp) :=
 match s with
 |.nils=>if xs=[] then O (.nils,H)
  else if YB (Z xs) bytes then O (.ws ag k (Z H) 0 (Z xs),H++[.row 0 (xs.map AV.cells).flatten]) else L
 |.vs k' .clip l =>
  if k'=k/\YB (Z l+Z xs) bytes then
   if xs=[] then O (.vs k .clip l,H) else O (.ws ag k (Z H) 0 (Z l+Z xs),H++[.row 0 ((l++xs).map AV.cells).flatten])
  else L
 |.ws ag' k' o e len =>
  if ag'=ag/\k'=k/\YB (len+Z xs) bytes then
   if xs=[] then O (.ws ag k o e len,H) else
   match H[o]? with
   |some (.row e' l)=>if e'=e/\len*k<=Z l then O (.ws ag k o (e+1) (len+Z xs),H.set o (.row (e+1) (Zrj (len*k) l++(xs.map AV.cells).flatten))) else L
   |_=>L
  else L
 |_=>Ys k bytes s xs H
def AQ (k:Nat)(d x:AV)(H:Hp):Option (AV×Hp) :=
 match elems k x H with
 |some xs=>match d with
  |.nils=>if xs=[] then O (.int .i64 0,H) else L
  |.vs _ _ _=>if xs=[] then O (.int .i64 0,H) else L
  |.rs _ k' o off len _=>if xs=[] then O (.int .i64 0,H) else if k'=k/\Z xs<=len then match H[o]? with
   |some (.cells cs)=>if off+Z xs*k<=Z cs then O (.int .i64 (Z xs),H.set o (.cells (splice cs off (xs.map AV.cells).flatten))) else L
   |_=>L else L
  |_=>L
 |none=>L
def Uy (k bytes:Nat)(ag:Bool)(z:AV)(len cap:AV)(H:Hp):Option (AV×Hp) :=
 match len,cap with
 |.int .i64 n,.int .i64 c =>
  if 0<=n/\n<=c/\z.known=Q/\Z z.cells=k/\0<k/\YB c.toNat bytes then
   if n=0 then O (.vs k (.own (Z H) 0) [],H++[.tok 0])
   else O (.rs ag k (Z H) 0 n.toNat c.toNat,H++[.cells ((zG c.toNat z.cells).flatten)])
  else L
 |_,_=>L
def Zk (d:TypeDesc)(x:AV):Option AV :=
 match d with
 |.string=>match x with
  |.str s=>O (.int .i64 (Z s))
  |_=>L
 |.array n _=>O (.int .i64 n)
 |.slice _=>match x with
  |.nils=>O (.int .i64 0)
  |.vs _ _ l=>O (.int .i64 (Z l))
  |.rs _ _ _ _ len _=>O (.int .i64 len)
  |.ws _ _ _ _ len=>O (.int .i64 len)
  |_=>L
 |_=>L
def ZmV (P:Program)(t:TypeId)(x:AV):Option AV :=
 match P.underlying t with
 |some d=>Zk d x
 |none=>L
def Q3:AV->AV->Option AV
 |.int k x,.int k' y=>if k=k' then O (.int k (if y<x then y else x)) else L
 |_,_=>L
def Q2:AV->AV->Option AV
 |.int k x,.int k' y=>if k=k' then O (.int k (if y > x then y else x)) else L
 |_,_=>L
def V6:List AV->Option cz
 |[]=>O []
 |.int .u8 n::r=>match V6 r with
  |some l=>O (zO n.toNat::l)
  |none=>L
 |_=>L
def Yn (k:IntKind)(x:AV):Option AV :=
 match x with
 |.int _ n=>O (.int k (k.wrap n))
 |_=>L
def Zyh (x:AV):Option AV :=
 match x with
 |.str s=>O (.str s)
 |_=>L
def Jk (x:AV):Option AV :=
 match x with
 |.nils=>O (.str [])
 |.vs k _ l=>if k=1 then match V6 l with
  |some s=>O (.str s)
  |none=>L else L
 |_=>L
def Zl6 (x:AV):Option AV :=
 match x with
 |.str s=>O (.vs 1 .no (s.map λb=>.int .u8 b.toNat))
 |_=>L
def Zbj:Option TypeDesc->Bool
 |some (.int .u8)=>Q
 |_=>J
def Zht (P:Program)(j:TypeId->Bool)(h g:TypeId)(x:AV):Option AV :=
 match P.underlying h,P.underlying g with
 |some (.int _),O (.int k)=>Yn k x
 |some .string,O .string=>Zyh x
 |some (.slice e),O .string=>if Zbj (P.underlying e) then Jk x else L
 |some .string,O (.slice e)=>if Zbj (P.underlying e) then (if j g then L else Zl6 x) else L
 |_,_=>L
def Zm (c a b:AV):Option AV :=
 match c with
 |.bool t=>O (if t then a else b)
 |_=>L
def ZD (x:AV):Option AV :=
 match x with
 |.ptr o off=>O (.ptr o off)
 |.vp cs=>O (.vp cs)
 |.wp o e off=>O (.wp o e off)
 |_=>L
def Y4 (x:AV)(lo hi mx:Option AV):Option AV :=
 match x,mx with
 |.str s,L=>Gd s lo hi
 |_,_=>L
def Su (g:Bool)(sz off:Nat)(x:AV):Option AV :=
 match x with
 |.agg cs=>apart g sz cs off
 |_=>L
def ZQ (x:AV)(i:Nat):Option AV :=
 match x with
 |.tuple l=>l[i]?
 |_=>L
def Y9 (C:Cfg)(ev:Operand->AV):Op->Option AV
 |.move x|.assign x=>O (ev x)
 |.pick c a b=>Zm (ev c) (ev a) (ev b)
 |.build t parts=>ZmR C.P t (parts.toList.map λp=>(p.1,ev p.2))
 |.buildSlice t len parts=>Zkd C.P t len (parts.toList.map λp=>(p.1,ev p.2))
 |.load t a=>match Xx C.P t,Xr C.P t with
  |some g,O sz=>Xk g sz (ev a)
  |_,_=>L
 |.nilCheck x=>ZD (ev x)
 |.binOp op t x y _=>if ZfE C.P t then (if ZbU x y then ZhU op (ev x) (ev y) else L) else ZvY C.P C.eqok op t (ev x) (ev y)
 |.unOp op _ x=>Xa op (ev x)
 |.convert s d x=>Zht C.P C.wrb s d (ev x)
 |.makeFunc (.func f) first captured=>O (.fn (.func f) (first.toList.map ev) (captured.toList.map ev))
 |.slice t x lo hi mx=>match C.P.underlying t with
  |some .string=>Y4 (ev x) (lo.map ev) (hi.map ev) (mx.map ev)
  |some (.slice e)=>match Xr C.P e with
   |some size=>YC size (ev x) (lo.map ev) (hi.map ev) (mx.map ev)
   |none=>L
  |_=>L
 |.fieldAddr t x f=>match cN C.P t f with
  |some h=>match Xr C.P h.type with
   |some sz=>if 0<sz then Z8 h.offset (ev x) else L
   |none=>L
  |none=>L
 |.field t x f=>match cN C.P t f with
  |some h=>match Xx C.P h.type,Xr C.P h.type with
   |some g,O sz=>Su g sz h.offset (ev x)
   |_,_=>L
  |none=>L
 |.indexAddr t x i=>match C.P.underlying t with
  |some (.slice e)=>match Xr C.P e with
   |some size=>Zj size (ev x) (ev i)
   |none=>L
  |some (.array len e)=>match Xr C.P e with
   |some size=>N7 len size (ev x) (ev i)
   |none=>L
  |_=>L
 |.index t x i=>match C.P.underlying t with
  |some .string=>Zz (ev x) (ev i)
  |some (.array len e)=>match Xx C.P e,Xr C.P e with
   |some g,O size=>Zai g len size (ev x) (ev i)
   |_,_=>L
  |_=>L
 |.extract t i=>ZQ (ev t) i
 |.makeInterface t x=>ZzJ C.P t (ev x)
 |.typeAssert x _ t ok=>match JY C.P t with
  |some z=>ZzO C.P ok t z (ev x)
  |none=>L
 |.call { callee:=.builtin .len,args,argTypes }=>match args.toList,argTypes.toList with
  |[x],[t]=>ZmV C.P t (ev x)
  |_,_=>L
 |.call { callee:=.builtin .min,args,.. }=>match args.toList with
  |[x,y]=>Q3 (ev x) (ev y)
  |_=>L
 |.call { callee:=.builtin .max,args,.. }=>match args.toList with
  |[x,y]=>Q2 (ev x) (ev y)
  |_=>L
 |_=>L
abbrev ZM:=FuncId->List AV->Hp->Option (AV×Hp)
def Zh (H:Hp)(n:Nat):Nat->AV->Option AV
 |0,_=>L
 |f+1,a=>match a with
  |.ptr o off=>if o<n then O (.ptr o off) else L
  |.map o=>if o<n then O (.map o) else L
  |.vp cells=>match cells.mapM (Zh H n f) with
   |some l=>O (.vp l)
   |none=>L
  |.vs k tok l=>match l.mapM (Zh H n f) with
   |some l=>O (.vs k (match tok with|.own t e=>if t<n then .own t e else .no|tok=>tok) l)
   |none=>L
  |.rs ag k o off len cap=>if o<n then O (.rs ag k o off len cap) else
   match elems k (.rs ag k o off len cap) H with
   |some l=>match l.mapM (Zh H n f) with
    |some l=>O (.vs k .no l)
    |none=>L
   |none=>L
  |.ws ag k o e len=>if o<n then O (.ws ag k o e len) else
   match elems k (.ws ag k o e len) H with
   |some l=>match l.mapM (Zh H n f) with
    |some l=>O (.vs k .no l)
    |none=>L
   |none=>L
  |.wp o e off=>if o<n then O (.wp o e off) else L
  |.fn fn a b=>match a.mapM (Zh H n f),b.mapM (Zh H n f) with
   |some a,O b=>O (.fn fn a b)
   |_,_=>L
  |.iface t v=>match Zh H n f v with
   |some v=>O (.iface t v)
   |none=>L
  |.agg l=>match l.mapM (Zh H n f) with
   |some l=>O (.agg l)
   |none=>L
  |.tuple l=>match l.mapM (Zh H n f) with
   |some l=>O (.tuple l)
   |none=>L
  |a=>O a
def iS (g:List AV->Option AV)(args:List AV)(H:List AObj):Option (AV×List AObj) :=
 match g args with
 |some v=>O (v,H)
 |none=>L
def GJ:Nat->AV->Bool
 |_,.bool _=>Q
 |_,.int _ _=>Q
 |_,.str _=>Q
 |_,.nilp=>Q
 |_,.nils=>Q
 |_,.nilm=>Q
 |_,.nilf=>Q
 |_,.nili=>Q
 |n+1,.agg l=>l.all (GJ n)
 |n+1,.tuple l=>l.all (GJ n)
 |_,_=>J
def Ze (call:List AV->Hp->Option (AV×Hp))(args:List AV)(H:Hp):Option (AV×Hp) :=
 match args.mapM (Zh [] 0 9) with
 |some args'=>match call args' [] with
  |some (v,H1)=>match Zh H1 0 9 v with
   |some v'=>O (v',H)
   |none=>L
  |none=>L
 |none=>L
mutual
def AV.eqb:AV->AV->Bool
 |.undef,.undef=>Q
 |.bool a,.bool b=>a==b
 |.int k a,.int k' b=>decide (k=k')&&decide (a=b)
 |.str a,.str b=>decide (a=b)
 |.nilp,.nilp=>Q
 |.ptr o f,.ptr o' f'=>zC o o'&&zC f f'
 |.vp a,.vp b=>AV.eqbL a b
 |.nils,.nils=>Q
 |.vs k t l,.vs k' t' l'=>zC k k'&&decide (t=t')&&AV.eqbL l l'
 |.rs g k o f n c,.rs g' k' o' f' n' c'=>g==g'&&zC k k'&&zC o o'&&zC f f'&&zC n n'&&zC c c'
 |.ws g k o e n,.ws g' k' o' e' n'=>g==g'&&zC k k'&&zC o o'&&zC e e'&&zC n n'
 |.wp o e f,.wp o' e' f'=>zC o o'&&zC e e'&&zC f f'
 |.nilm,.nilm=>Q
 |.map o,.map o'=>zC o o'
 |.nilf,.nilf=>Q
 |.fn f a b,.fn f' a' b'=>decide (f=f')&&AV.eqbL a a'&&AV.eqbL b b'
 |.nili,.nili=>Q
 |.iface t v,.iface t' v'=>zC t t'&&AV.eqb v v'
 |.agg l,.agg l'=>AV.eqbL l l'
 |.tuple l,.tuple l'=>AV.eqbL l l'
 |_,_=>J
def AV.eqbL:List AV->List AV->Bool
 |[],[]=>Q
 |a::l,b::m=>AV.eqb a b&&AV.eqbL l m
 |_,_=>J
end
def Zaw:List (AV×AV×Nat)->List (AV×AV×Nat)->Bool
 |[],[]=>Q
 |(a,b,n)::l,(a',b',n')::m=>AV.eqb a a'&&AV.eqb b b'&&zC n n'&&Zaw l m
 |_,_=>J
def AObj.eqb:AObj->AObj->Bool
 |.cells a,.cells b=>AV.eqbL a b
 |.bld T u l,.bld T' u' l'=>zC T T'&&zC u u'&&decide (l=l')
 |.tok e,.tok e'=>zC e e'
 |.row e l,.row e' l'=>zC e e'&&AV.eqbL l l'
 |.map es c,.map es' c'=>Zaw es es'&&zC c c'
 |.siter s p,.siter s' p'=>decide (s=s')&&zC p p'
 |.dead,.dead=>Q
 |.free,.free=>Q
 |_,_=>J
def Zax:Hp->Hp->Bool
 |[],[]=>Q
 |a::l,b::m=>AObj.eqb a b&&Zax l m
 |_,_=>J
mutual
theorem AV.eqb_eq:∀ (a b:AV),AV.eqb a b=Q->a=b
 |a,b,h=>by
  unfold AV.eqb at h;split at h
  all_goals first
   |rfl
   |cases h;done
   |skip
  ·rw[beq_iff_eq]at h;rw[h]
  ·simp only[zB,decide_eq_true_eq]at h;rw[h.1,h.2]
  ·rw[decide_eq_true_eq]at h;rw[h]
  ·simp only[zB,zJ]at h;rw[h.1,h.2]
  ·rw[AV.eqbL_eq _ _ h]
  ·simp only[zB,zJ,decide_eq_true_eq]at h;rw[h.1.1,h.1.2,AV.eqbL_eq _ _ h.2]
  ·simp only[zB,zJ,beq_iff_eq]at h;obtain⟨⟨⟨⟨⟨rfl,rfl⟩,rfl⟩,rfl⟩,rfl⟩,rfl⟩:=h;rfl
  ·simp only[zB,zJ,beq_iff_eq]at h;obtain⟨⟨⟨⟨rfl,rfl⟩,rfl⟩,rfl⟩,rfl⟩:=h;rfl
  ·simp only[zB,zJ]at h;obtain⟨⟨rfl,rfl⟩,rfl⟩:=h;rfl
  ·rw[zJ]at h;rw[h]
  ·simp only[zB,decide_eq_true_eq]at h;rw[h.1.1,AV.eqbL_eq _ _ h.1.2,AV.eqbL_eq _ _ h.2]
  ·simp only[zB,zJ]at h;rw[h.1,AV.eqb_eq _ _ h.2]
  ·rw[AV.eqbL_eq _ _ h]
  ·rw[AV.eqbL_eq _ _ h]
theorem AV.eqbL_eq:∀ (a b:List AV),AV.eqbL a b=Q->a=b
 |[],[],_=>rfl
 |a::l,b::m,h=>by
  simp only[AV.eqbL,zB]at h;rw[AV.eqb_eq _ _ h.1,AV.eqbL_eq _ _ h.2]
 |[],_::_,h=>by simp[AV.eqbL]at h
 |_::_,[],h=>by simp[AV.eqbL]at h
end
theorem Zq9:∀ a b,Zaw a b=Q->a=b
 |[],[],_=>rfl
 |(a,b,n)::l,(a',b',n')::m,h=>by
  simp only[Zaw,zB,zJ]at h;rw[AV.eqb_eq _ _ h.1.1.1,AV.eqb_eq _ _ h.1.1.2,h.1.2,Zq9 _ _ h.2]
 |[],_::_,h=>by simp[Zaw]at h
 |_::_,[],h=>by simp[Zaw]at h
theorem AObj.eqb_eq (a b:AObj)(h:AObj.eqb a b=Q):a=b:=by
 unfold AObj.eqb at h;split at h
 all_goals first
  |rfl
  |cases h;done
  |skip
 ·rw[AV.eqbL_eq _ _ h]
 ·simp only[zB,zJ,decide_eq_true_eq]at h;obtain⟨⟨rfl,rfl⟩,rfl⟩:=h;rfl
 ·rw[zJ]at h;rw[h]
 ·simp only[zB,zJ]at h;rw[h.1,AV.eqbL_eq _ _ h.2]
 ·simp only[zB,zJ]at h;rw[Zq9 _ _ h.1,h.2]
 ·simp only[zB,zJ,decide_eq_true_eq]at h;rw[h.1,h.2]
theorem Zko:∀ a b,Zax a b=Q->a=b
 |[],[],_=>rfl
 |a::l,b::m,h=>by
  simp only[Zax,zB]at h;rw[AObj.eqb_eq _ _ h.1,Zko _ _ h.2]
 |[],_::_,h=>by simp[Zax]at h
 |_::_,[],h=>by simp[Zax]at h
mutual
theorem AV.eqb_refl:∀ (a:AV),AV.eqb a a=Q
 |.undef|.nilp|.nils|.nilm|.nilf|.nili=>by simp[AV.eqb]
 |.bool _|.int _ _|.str _|.ptr _ _|.rs _ _ _ _ _ _|.ws _ _ _ _ _|.wp _ _ _|.map _=>by simp[AV.eqb]
 |.vp l|.agg l|.tuple l=>by simp[AV.eqb,AV.eqbL_refl l]
 |.vs _ _ l=>by simp[AV.eqb,AV.eqbL_refl l]
 |.fn _ a b=>by simp[AV.eqb,AV.eqbL_refl a,AV.eqbL_refl b]
 |.iface _ v=>by simp[AV.eqb,AV.eqb_refl v]
theorem AV.eqbL_refl:∀ (a:List AV),AV.eqbL a a=Q
 |[]=>by simp[AV.eqbL]
 |a::l=>by simp[AV.eqbL,AV.eqb_refl a,AV.eqbL_refl l]
end
theorem Zl8:∀ a,Zaw a a=Q
 |[]=>rfl
 |(a,b,n)::l=>by simp[Zaw,AV.eqb_refl a,AV.eqb_refl b,Zl8 l]
theorem AObj.eqb_refl (a:AObj):AObj.eqb a a=Q:=by
 cases a <;> simp[AObj.eqb,AV.eqbL_refl,Zl8]
theorem Zay:∀ a,Zax a a=Q
 |[]=>rfl
 |a::l=>by simp[Zax,AObj.eqb_refl a,Zay l]
def Kb (call:List AV->Hp->Option (AV×Hp))(args:List AV)(H:Hp):Option (AV×Hp) :=
 match call args H with
 |some (v,H1)=>if Zax (H1.take (Z H)) H then match Zh H1 (Z H) 9 v with
  |some v'=>O (v',H)
  |none=>L else L
 |none=>L
def XF (C:Cfg)(call:ZM)(id:FuncId)(args:List AV)(H:Hp):Option (AV×Hp) :=
 match C.ext id with
 |some e=>fR e args H
 |none=>match C.sum id with
  |some g=>iS g args H
  |none=>match C.eff id with
  |some g=>g.run args H
  |none=>if C.user id then (if C.flat id then Ze (call id) args H else if C.ro id then Kb (call id) args H else call id args H) else L
def Yu (C:Cfg)(call:ZM)(f:AV)(args:List AV)(H:Hp):Option (AV×Hp) :=
 match f with
 |.fn (.func id) first captured=>XF C call id (first++args++captured) H
 |_=>L
def Zc5 (C:Cfg)(f:FuncId):Bool:=(C.ext f).isSome || (C.sum f).isSome || (C.user f&&C.flat f&&(C.eff f).isNone)
def qC (C:Cfg)(g:AV->List AV->Hp->Option (AV×Hp))(f:AV)(args:List AV)(H:Hp):Option (AV×Hp) :=
 match f with
 |.fn (.func id) first captured=>if Zc5 C id then g (.fn (.func id) first captured) args H else L
 |_=>L
def XG (C:Cfg)(call:ZM):AV->List AV->Hp->Option (AV×Hp):=qC C (Yu C call)
def ZAv:Operand->Nat
 |.tmp i=>i
 |_=>0
def iC (C:Cfg)(f:Operand)(args:Array Operand):Bool :=
 match f with
 |.tmp t=>C.qk t (args.toList.map ZAv)
 |_=>J
def ZF (x:AV)(H:Hp):Option (AV×Hp):=if x.known then O (.ptr (Z H) 0,H++[.cells x.cells]) else L
def stC (C:Cfg):Op->Nat
 |.store t (.tmp a) (.tmp x)=>C.rst t a x
 |_=>0
def stV (k:Nat)(a:AV):Bool :=
 match k with
 |0=>Q
 |1=>match a with|.wp _ _ _=>Q|_=>J
 |_=>match a with|.ptr _ _=>Q|_=>J
def Zc (sz:Nat)(a v:AV)(H:Hp):Option (AV×Hp) :=
 match YI sz a v H with
 |some H'=>O (.tuple [],H')
 |none=>L
def ZR (k bytes:Nat)(s x:AV)(H:Hp):Option (AV×Hp) :=
 match elems k x H with
 |some xs=>Ys k bytes s xs H
 |none=>L
def Xu (ag:Bool)(k bytes:Nat)(s x:AV)(H:Hp):Option (AV×Hp) :=
 match elems k x H with
 |some xs=>QH ag k bytes s xs H
 |none=>L
def ZzQ:AV->Bool
 |.agg [.nilp,.nils]=>Q
 |_=>J
def ZAW (C:Cfg)(e:TypeId):Option Bool:=if C.lin e then Xx C.P e else L
def ZvO (P:Program)(e:TypeId)(k:Nat):Bool :=
 match JY P e with
 |some z=>z.known&&Z z.cells==k
 |none=>J
def Xl:TypeDesc->Bool
 |.slice _|.string=>Q
 |_=>J
def J9 (x:AV)(H:Hp):Option (List AV) :=
 match x with
 |.str _=>L
 |x=>elems 1 x H
def Gh (x:AV)(H:Hp):Option (AV×Hp) :=
 match J9 x H with
 |some l=>match V6 l with
  |some s=>O (.str s,H)
  |none=>L
 |none=>L
def fF (x:AV)(H:Hp):Option (AV×Hp) :=
 match x with
 |.str s=>O (.ws J 1 (Z H) 0 (Z s),H++[.row 0 (s.map λb=>.int .u8 b.toNat)])
 |_=>L
def ZmU (C:Cfg)(call:ZM)(x:AV)(name:String)(args:List AV)(H:Hp):Option (AV×Hp) :=
 match x with
 |.iface t v=>match Zs7 C.P t name with
  |some f=>Yu C call (.fn (.func f) [v] []) args H
  |none=>L
 |_=>L
def ZL (C:Cfg)(call:ZM)(ev:Operand->AV)(H:Hp):Op->Option (AV×Hp)
 |.alloc e=>match JY C.P e with
  |some z=>match C.bld e with
   |some u=>if ZzQ z&&e != u then O (.ptr (Z H) 0,H++[.bld e u []]) else L
   |none=>if z.known then O (.ptr (Z H) 0,H++[.cells z.cells]) else L
  |none=>L
 |.box _ x=>ZF (ev x) H
 |.load t a=>match Xx C.P t,Xr C.P t with
  |some g,O sz=>(Z2 g sz (ev a) H).map (·,H)
  |_,_=>L
 |.store t a x=>match Xr C.P t with
  |some sz=>if stV (stC C (.store t a x)) (ev a) then Zc sz (ev a) (ev x) H else L
  |none=>L
 |.makeSlice t l c=>match ZbV C.P t with
  |some e=>match Xr C.P e,DH C.P e,Xx C.P e,JY C.P e with
   |some k,O bytes,O ag,O z=>Uy k bytes ag z (ev l) (ev c) H
   |_,_,_,_=>L
  |none=>L
 |.convert s d x=>match C.P.underlying s,C.P.underlying d with
  |some (.slice e),O .string=>if Zbj (C.P.underlying e) then Gh (ev x) H else L
  |some .string,O (.slice e)=>if C.wrb d&&Zbj (C.P.underlying e) then fF (ev x) H else L
  |_,_=>L
 |.makeMap _ L=>O (.map (Z H),H++[.map [] 0])
 |.lookup t x k ck=>match Dc C.P t with
  |some (d,e)=>match JY C.P e with
   |some z=>(Yo d z ck (ev x) (ev k) H).map (·,H)
   |none=>L
  |none=>L
 |.mapUpdate t m k x=>match Dc C.P t with
  |some (d,_)=>XC d (ev m) (ev k) (ev x) H
  |none=>L
 |.insert t m k x=>match Dc C.P t with
  |some (d,_)=>XC d (ev m) (ev k) (ev x) H
  |none=>L
 |.call { callee:=.builtin .append,args,argTypes }=>match args.toList,argTypes.toList with
  |[s,x],[st,xt]=>match ZbV C.P st,C.P.underlying xt with
   |some e,O xd=>if !Xl xd then L else match Xr C.P e,DH C.P e with
    |some k,O bytes=>if 0<k&&ZvO C.P e k then (match ZAW C e with|some ag=>Xu ag k bytes (ev s) (ev x) H|none=>ZR k bytes (ev s) (ev x) H) else L
    |_,_=>L
   |_,_=>L
  |_,_=>L
 |.call { callee:=.builtin .len,args,argTypes }=>match args.toList,argTypes.toList with
  |[x],[t]=>match Dc C.P t with
   |some _=>(Jw (ev x) H).map (·,H)
   |none=>L
  |_,_=>L
 |.call { callee:=.builtin .delete,args,argTypes }=>match args.toList,argTypes.toList with
  |[m,k],[t,_]=>match Dc C.P t with
   |some (d,_)=>J7 d (ev m) (ev k) H
   |none=>L
  |_,_=>L
 |.call { callee:=.builtin .copy,args,argTypes }=>match args.toList,argTypes.toList with
  |[d,x],[dt,_]=>match ZbV C.P dt with
   |some e=>match Xr C.P e with
    |some k=>if 0<k then AQ k (ev d) (ev x) H else L
    |none=>L
   |none=>L
  |_,_=>L
 |.call { callee:=.value f,args,.. }=>if iC C f args then XG C call (ev f) (args.toList.map ev) H else Yu C call (ev f) (args.toList.map ev) H
 |.call { callee:=.invoke r m,args,.. }=>ZmU C call (ev r) m (args.toList.map ev) H
 |_=>L
def Xf (C:Cfg)(call:ZM)(ev:Operand->AV)(H:Hp)(fl:Bool)(op:Op):Option (AV×Hp) :=
 match Y9 C ev op with
 |some v=>O (v,H)
 |none=>if fl then L else ZL C call ev H op
abbrev St:=List AV×Hp
def Xh (tm:List AV)(g:Option Tmp)(v:AV):List AV :=
 match g with
 |some d=>tm.set d v
 |none=>tm
def WM (ops:Array Oper)(tm:List AV)(o:Oper):Option Bool :=
 match o.guard with
 |none=>O Q
 |some (j,want)=>match (match ops[j]? with|some g=>g.dst|none=>L) with
  |none=>O J
  |some d=>match tm[d]? with
   |some (.bool b)=>O (b==want)
   |some .undef=>L
   |_=>O J
def YF (C:Cfg)(call:ZM)(ops:Array Oper)(fl:Bool)(o:Oper)(tm:List AV)(H:Hp):Option (AV×Hp) :=
 match WM ops tm o with
 |none=>L
 |some J=>O (.tuple [],H)
 |some Q=>Xf C call (eval C tm) H fl o.op
def VW (C:Cfg)(call:ZM)(ops:Array Oper)(fl:Bool)(o:Oper)(s:St):Option St :=
 match YF C call ops fl o s.1 s.2 with
 |some (v,H)=>O (Xh s.1 o.dst v,H)
 |none=>L
def Yh (C:Cfg):Op->Nat
 |.move _|.assign _|.pick _ _ _|.build _ _|.buildSlice _ _ _|.nilCheck _|.binOp _ _ _ _ _|.unOp _ _ _|.makeInterface _ _|.makeFunc _ _ _
 |.slice _ _ _ _ _|.fieldAddr _ _ _|.field _ _ _|.indexAddr _ _ _|.index _ _ _|.extract _ _|.typeAssert _ _ _ _=>0
 |.call { callee:=.builtin .min,.. }|.call { callee:=.builtin .max,.. }=>0
 |.convert _ d _=>if C.wrb d then 2 else 1
 |.load _ _|.lookup _ _ _ _=>1
 |.call { callee:=.builtin .len,.. }=>1
 |.call { callee:=.value (.func f),.. }=>if Zc5 C f then 0 else 2
 |.call { callee:=.value f,args,.. }=>if iC C f args then 0 else 2
 |_=>2
def Zok (C:Cfg):Op->Bool
 |.call { callee:=.value (.func f),.. }=>C.ro f&&!C.flat f&&(C.ext f).isNone&&(C.sum f).isNone&&(C.eff f).isNone
 |_=>J
def IM (C:Cfg)(x:Op):Bool:=decide (Yh C x<=1) || Zok C x
def IP (C:Cfg)(x y:Op):Bool:=(decide (stC C x=1)&&decide (stC C y=2)) || (decide (stC C x=2)&&decide (stC C y=1))
def fY (C:Cfg)(x y:Op):Option (Nat×Nat) :=
 match C.far with
 |none=>L
 |some f=>match x,y with
  |.load t (.tmp a),.store u (.tmp b) _=>if f t a u b then O (a,b) else L
  |_,_=>L
def Zb1 (C:Cfg)(x y:Op):Bool:=(fY C x y).isSome || (fY C y x).isSome
def fX (C:Cfg)(ops:Array Oper):List (Nat×Nat) :=
 match C.far with
 |none=>[]
 |some _=>ops.toList.flatMap λx=>ops.toList.filterMap λy=>fY C x.op y.op
def JF (ops:Array Oper)(a:Nat):Bool:=ops.toList.all λo=>match o.dst with|some d=>!zC d a|none=>Q
def LS (x y:AV):Bool :=
 match x,y with
 |.ptr o _,.ptr o' _=>!zC o o'
 |_,_=>J
def Rq (C:Cfg)(ops:Array Oper):Bool:=(fX C ops).all λp=>JF ops p.1&&JF ops p.2
def Zry (C:Cfg)(ops:Array Oper)(ev:Operand->AV):Bool:=(fX C ops).all λp=>LS (ev (.tmp p.1)) (ev (.tmp p.2))
def DQ (C:Cfg)(ops:Array Oper)(ev:Operand->AV):Bool:=Rq C ops&&Zry C ops ev
def ZhJ (C:Cfg)(x y:Op):Bool:=!(decide (Yh C x=0) || decide (Yh C y=0) || (IM C x&&IM C y) || IP C x y || Zb1 C x y)
def XH (ops:Array Oper):Nat->Nat->Nat->Bool
 |0,_,_=>J
 |n+1,j,i=>match ops[j]? with
  |none=>J
  |some o=>o.after.toList.any λe=>Region.binds .any e&&(e.on==i || XH ops n e.on i)
def fresh:Op->Bool
 |.alloc _|.box _ _|.makeMap _ L=>Q
 |_=>J
def Vq (C:Cfg)(ops:Array Oper)(i:Nat):Bool :=
 match ops[i]? with
 |some o=>fresh o.op&&o.guard.isNone&&(zX ops.size).any λj=>decide (j<i)&&(match ops[j]? with|some o'=>decide (2<=Yh C o'.op)|none=>J)&&!XH ops ops.size i j&&!XH ops ops.size j i
 |none=>J
def Vr (C:Cfg)(ops:Array Oper)(n:Nat):Nat:=(zX n).countP (Vq C ops)
def Lw (C:Cfg)(ev:Operand->AV):Op->Option AObj
 |.alloc e=>match JY C.P e with
  |some z=>if z.known&&(C.bld e).isNone then O (.cells z.cells) else L
  |none=>L
 |.box _ x=>if (ev x).known then O (.cells (ev x).cells) else L
 |.makeMap _ L=>O (.map [] 0)
 |_=>L
def ZA8 (x:AObj):Bool :=
 match x with
 |.free=>J
 |_=>Q
def ZA7 (x:AObj)(p:Nat):AV :=
 match x with
 |.map _ _=>.map p
 |_=>.ptr p 0
def D2 (p:Nat)(g:Option AObj)(H:Hp):Option (AV×Hp) :=
 match g with
 |some l=>match H[p]? with
  |some .free=>if ZA8 l then O (ZA7 l p,H.set p l) else L
  |_=>L
 |none=>L
def Qj:Nat->Hp->Hp
 |0,H=>H
 |n+1,H=>H++zG (n+1) .free
def Xv (C:Cfg)(ops:Array Oper)(i:Nat):Bool :=
 match ops[i]? with
 |none=>J
 |some o=>(zX ops.size).any λj=>j != i&&(match ops[j]? with|some o'=>ZhJ C o.op o'.op&&(decide (Yh C o.op<=1) || decide (2<=Yh C o'.op))|none=>J)&&!(match ops[j]? with|some o'=>decide (Yh C o.op<=1)&&fresh o'.op&&decide (i<j)|none=>J)&&!(decide (i<j)&&Vq C ops j)&&!(decide (j<i)&&Vq C ops i)&&!XH ops ops.size i j&&!XH ops ops.size j i
def W5 (C:Cfg)(call:ZM)(ops:Array Oper)(draw:Bool)(b i:Nat)(o:Oper)(s:St):Option St :=
 if draw&&Vq C ops i then (if Xv C ops i then L else match D2 (b+Vr C ops i) (Lw C (eval C s.1) o.op) s.2 with
  |some (v,H)=>O (Xh s.1 o.dst v,H)
  |none=>L)
 else VW C call ops (draw&&Xv C ops i) o s
def YD (C:Cfg)(call:ZM)(ops:Array Oper)(draw:Bool)(b:Nat):Nat->List Oper->St->Option St
 |_,[],s=>O s
 |i,o::rest,s=>match W5 C call ops draw b i o s with
  |some s'=>YD C call ops draw b (i+1) rest s'
  |none=>L
inductive AExit where
 |normal
 |exit (id:Nat)
 |goto (l:Nat)
 |ret
 deriving DecidableEq
def XQ (keep:da):Nat->List AV->List AV
 |_,[]=>[]
 |i,v::r=>(if keep.contains i then v else .undef)::XQ keep (i+1) r
def YP:Code->Option Nat
 |.region id _ _=>O id
 |.seq a b=>match YP a with
  |some r=>O r
  |none=>YP b
 |.block _ c|.loop c|.scope c=>YP c
 |_=>L
def trim (kp:Nat->Option da)(c:Code)(s:St):St :=
 match YP c with
 |none=>s
 |some r=>match kp r with
  |none=>s
  |some keep=>(XQ keep 0 s.1,s.2)
def Ng (a:AV)(H:Hp):AV×Hp :=
 match a with
 |.ptr o 0=>match H[o]? with
  |some (.cells l)=>(.vp l,H.set o .dead)
  |some .free=>(a,H.set o .dead)
  |_=>(a,H)
 |_=>(a,H)
def frz1 (s:St)(t:Nat):St:=(s.1.set t (Ng (s.1.getD t (.tuple [])) s.2).1,(Ng (s.1.getD t (.tuple [])) s.2).2)
def Zks (g:da)(s:St):St:=g.foldl frz1 s
def frzs (kp:Nat->Option da)(id:Nat)(s:St):St :=
 match kp (id+1000000) with
 |none=>s
 |some g=>Zks g s
def W4 (f:St->Option (AExit×St)):Nat->St->Option (AExit×St)
 |0,_=>L
 |n+1,s=>match f s with
  |some (.normal,s')=>W4 f n s'
  |r=>r
def V9 (ops:Array Oper):Bool :=
 Region.noSelect ops&&(zX ops.size).all λk =>
  match ops[k]? with
  |none=>J
  |some o=>(o.after.toList.all λe=>!Region.binds .any e || decide (e.on<k)) &&
   (zX ops.size).all λj=>decide (j<=k) || (match ops[j]? with
    |none=>J
    |some g=>XH ops ops.size j k || o.apart ops g)
def XM:Code->Bool
 |.goto _=>J
 |.seq a b=>XM a&&XM b
 |.cond _ x y=>XM x&&XM y
 |.block _ c|.loop c|.scope c=>XM c
 |_=>Q
def ZA (C:Cfg)(call:ZM)(kp:Nat->Option da)(n:Nat):Code->St->Option (AExit×St)
 |.skip,s=>O (.normal,s)
 |.region id ops draw,s=>if draw&&!(V9 ops&&DQ C ops (eval C (frzs kp id s).1)) then L else match YD C call ops draw (frzs kp id s).2.length 0 ops.toList ((frzs kp id s).1,Qj (if draw then Vr C ops ops.size else 0) (frzs kp id s).2) with
  |some s'=>O (.normal,s')
  |none=>L
 |.seq a b,s=>match ZA C call kp n a s with
  |some (.normal,s')=>ZA C call kp n b (trim kp b s')
  |r=>r
 |.cond c x y,s=>match eval C s.1 c with
  |.bool t=>if t then ZA C call kp n x s else ZA C call kp n y s
  |_=>L
 |.block id c,s=>match ZA C call kp n c s with
  |some (.exit i,s')=>if i=id then O (.normal,s') else O (.exit i,s')
  |r=>r
 |.loop c,s=>W4 (λs=>ZA C call kp n c (trim kp c s)) n s
 |.scope c,s=>if XM c then ZA C call kp n c s else L
 |.exit id,s=>O (.exit id,s)
 |.label _,s=>O (.normal,s)
 |.goto l,s=>O (.goto l,s)
 |.ret,s=>O (.ret,s)
 |_,_=>L
def WH (C:Cfg)(s:St):ResultVar->Option AV
 |.tmp t=>O (s.1.getD t (.tuple []))
 |.cell a t=>match Xx C.P t,Xr C.P t with
  |some g,O sz=>Z2 g sz (s.1.getD a (.tuple [])) s.2
  |_,_=>L
def VL (C:Cfg)(fn:Func)(s:St):Option AV :=
 match fn.results.toList.mapM (WH C s) with
 |some [v]=>O v
 |some l=>O (.tuple l)
 |none=>L
open Classical in
noncomputable def cO (H0:Hp)(v:AV)(H:Hp):Option (AV×Hp) :=
 if H.take (Z H0)=H0 then match Zh H (Z H0) 9 v with
  |some v'=>O (v',H0)
  |none=>L else L
noncomputable def FH (C:Cfg)(f:FuncId)(H:Hp)(r:AV×Hp):Option (AV×Hp):=if C.pure f then cO H r.1 r.2 else O r
noncomputable def body (C:Cfg)(call:ZM)(n:Nat)(f:FuncId)(fn:Func)(c:Code)(args:List AV)(H:Hp):Option (AV×Hp) :=
 match ZA C call (C.keep f) n c (args++zG (fn.ntmps-Z args) .undef,H) with
 |some (.normal,s)|some (.ret,s)=>match VL C fn s with
  |some v=>FH C f H (v,s.2)
  |none=>L
 |_=>L
def Xc (K:Nat):Code->Code
 |.ret=>.exit K
 |.seq a b=>.seq (Xc K a) (Xc K b)
 |.cond c x y=>.cond c (Xc K x) (Xc K y)
 |.block id c=>.block id (Xc K c)
 |.loop c=>.loop (Xc K c)
 |.scope c=>.scope (Xc K c)
 |c=>c
def KR (K:Nat):Code->Bool
 |.exit id=>!zC id K
 |.seq a b=>KR K a&&KR K b
 |.cond _ x y=>KR K x&&KR K y
 |.block id c=>!zC id K&&KR K c
 |.loop c=>KR K c
 |.scope c=>KR K c
 |_=>Q
def FL (x:Nat):Code->Bool
 |.region _ ops _=>JF ops x
 |.seq a b=>FL x a&&FL x b
 |.cond _ a b=>FL x a&&FL x b
 |.block _ c=>FL x c
 |.loop c=>FL x c
 |.scope c=>FL x c
 |_=>Q
def dG (C:Cfg)(g:FuncId):Bool:=C.user g&&(!C.flat g&&(!C.ro g&&((C.ext g).isNone&&((C.sum g).isNone&&((C.eff g).isNone&&!C.dfr g)))))
def ZhQ (C:Cfg)(N:Nat)(ops:Array Oper):Option (Oper×Oper×Nat) :=
 match ops.toList with
 |[o1,o2]=>match o1.op,o1.dst,o1.guard with
  |.makeFunc (.func g) _ _,O x,L=>match o2.op,o2.dst,o2.guard with
   |.defer c,L,L=>match c.callee with
    |.value (.tmp y)=>if zC x y&&(Nat.blt x N&&(c.args.isEmpty&&dG C g)) then O (o1,{ o2 with op:=.call c },x) else L
    |_=>L
   |_,_,_=>L
  |_,_,_=>L
 |_=>L
def B9 (C:Cfg)(N:Nat):Code->Code
 |.seq a b=>match a with
  |.region id ops J=>match ZhQ C N ops with
   |some (o1,o2,x)=>if FL x b&&KR 900001 b then .seq (.region id #[o1] J) (.seq (.block 900001 (Xc 900001 b)) (.seq (.region 900002 #[o2] J) .ret)) else .seq (.region id ops J) b
   |none=>.seq a (B9 C N b)
  |_=>.seq a (B9 C N b)
 |c=>c
def Tz (C:Cfg)(f:FuncId)(fn:Func):Option Code :=
 match C.dfr f with
 |false=>fn.body
 |true=>match fn.body with
  |some c=>O (B9 C fn.ntmps c)
  |none=>L
noncomputable def call (C:Cfg):Nat->ZM
 |0,_,_,_=>L
 |n+1,f,args,H=>match C.P.funcs[f]? with
  |none=>L
  |some fn=>match Tz C f fn with
   |none=>L
   |some c=>body C (call C n) n f fn c args H
end Go.Am
namespace Go.Am
open RowKit
section
variable {P:Program}{S:Snap}{W0:World}{H:Hp}
theorem ZqJ {C:Cfg}{call:ZM}{f:AV}{args:List AV}{r:AV×Hp}(h:XG C call f args H=O r):Yu C call f args H=O r:=by
 unfold XG qC at h;split at h
 ·split at h
  ·exact h
  ·cases h
 ·cases h
theorem ZqI {C:Cfg}{call:ZM}{b:Bool}{f:AV}{args:List AV}{r:AV×Hp}(h:(if b then XG C call f args H else Yu C call f args H)=O r):Yu C call f args H=O r:=by
 cases b with
 |true=>exact ZqJ h
 |false=>exact h
def Yields (P:Program)(W0:World)(S:Snap)(H:Hp)(s:Sem Value)(v:AV)(H':Hp):Prop :=
 Inv W0 S H->∃ v' g,s.run P S.w=.ok v' g.w/\Ext S g/\Inv W0 g H'/\VRel g v v'
theorem Yields.same {s:Sem Value}{v:AV}(v':Value)(h:s.run P S.w=.ok v' S.w)(j:VRel S v v'):Yields P W0 S H s v H :=
 λg=>⟨v',S,h,Ext.refl S,g,j⟩
theorem Inv.size (g:Inv W0 S H):W0.heap.size<=S.w.heap.size:=g.below.size
theorem Nh {w:World}{b:Nat}{o:Obj}(h:w.heap[b]?=O o):b<w.heap.size:=by
 rcases zD b w.heap.size with g|g
 ·exact g
 ·rw[zY g]at h;cases h
theorem _root_.Go.Lib.BuilderAtF.frame {T e:TypeId}{B b:Nat}{p:Value}{C:List Value}{w w':World}(h:Lib.BuilderAtF T e B b p C w)(F:w'.heap[b]?=w.heap[b]?)
 (N:∀ v g,w.cell? ⟨b,1,L⟩=O v->v.ownBlock=O g->w'.heap[g]?=w.heap[g]?):Lib.BuilderAtF T e B b p C w':=by
 obtain⟨E,v,u,j,A⟩:=h;have K:w.cell? ⟨b,1,L⟩=O v:=by rw[Lib.cell_of_heap u];rfl
 refine⟨E,v,F.trans u,⟨j.1,?_⟩,A⟩;rcases j.2 with h|⟨g,cap,cur,fz,D,y,z,rest⟩
 ·exact .inl h
 ·exact .inr ⟨g,cap,cur,fz,D,y,(N v g K (by rw[D];rfl)).trans z,rest⟩
theorem _root_.Go.Lib.IsBuilderF.frame {T e:TypeId}{B b:Nat}{j:List Value}{w w':World}(h:Lib.IsBuilderF T e B b j w)(u:w'.heap[b]?=w.heap[b]?)
 (y:∀ v g,w.cell? ⟨b,1,L⟩=O v->v.ownBlock=O g->w'.heap[g]?=w.heap[g]?):Lib.IsBuilderF T e B b j w' :=
 h.elim (λh=>.inl (h.frame u y)) λh=>.inr (h.frame u y)
theorem _root_.Go.Lib.BuilderAtF.own_lt {T e:TypeId}{B b:Nat}{p:Value}{z:List Value}{w:World}(h:Lib.BuilderAtF T e B b p z w){v:Value}{g:Nat}(u:w.cell? ⟨b,1,L⟩=O v)(A:v.ownBlock=O g):g<w.heap.size:=by
 obtain⟨D,v',y,j,C⟩:=h;rw[Lib.cell_of_heap y]at u;injection u with u;subst u;exact (j.lt g A).2
theorem _root_.Go.Lib.IsBuilderF.own_lt {T e:TypeId}{B b:Nat}{y:List Value}{w:World}(h:Lib.IsBuilderF T e B b y w){v:Value}{g:Nat}(u:w.cell? ⟨b,1,L⟩=O v)(j:v.ownBlock=O g):g<w.heap.size :=
 h.elim (λh=>h.own_lt u j) λh=>h.own_lt u j
theorem ORel.frame {S X:Snap}(R:Ext S X){B0 o:Nat}{x:AObj}(h:ORel S B0 o x)
 (N:∀ b,(S.phi o=O b\/∃ e hw sz,S.tk o=O (e,b,hw,sz))->b<S.w.heap.size->X.w.heap[b]?=S.w.heap[b]?/\∀ i,X.pub b i->S.pub b i)
 (K:X.tk o=S.tk o) (ae:X.phi o=S.phi o):ORel X B0 o x:=by
 cases x with
 |cells l =>
  obtain⟨b,c,el,j,z,y,E,C,Y,h7⟩:=h;obtain⟨B,D⟩:=N b (.inl j) (Nh y);exact⟨b,c,el,R.phi _ _ j,z,B.trans y,E,λi x v hi F=>(C i x v hi F).mono R,λi A=>Y i (D i A),h7⟩
 |bld T u l =>
  obtain⟨b,j,z,y,E,C⟩:=h;have ad:b<S.w.heap.size:=z.elim (λh=>h.lt) λh=>h.lt;obtain⟨B,D⟩:=N b (.inl j) ad;have aa:∀ i,X.w.cell? ⟨b,i,L⟩=S.w.cell? ⟨b,i,L⟩:=λi=>by unfold World.cell?;rw[B]
  refine⟨b,R.phi _ _ j,z.frame B λv g F hg=>?_,y,λi A=>E i (D i A),λv g F hg=>?_⟩
  ·obtain⟨⟨n,hw,sz,q⟩,_⟩:=C v g F hg;exact (N g (.inr ⟨_,_,_,q⟩) (z.own_lt F hg)).1
  ·rw[aa]at F;obtain⟨⟨n,hw,sz,q⟩,q2⟩:=C v g F hg;exact⟨⟨n,hw,sz,K.trans q⟩,λi A=>q2 i ((N g (.inr ⟨_,_,_,q⟩) (z.own_lt F hg)).2 i A)⟩
 |row e l =>
  obtain⟨b,sz,c,el,fz,j,z,y,E,C,Y,h7,h8,h9⟩:=h;obtain⟨B,D⟩:=N b (.inr ⟨_,_,_,j⟩) (Nh y);exact⟨b,sz,c,el,fz,K.trans j,z,B.trans y,E,C,λi x v hi F=>(Y i x v hi F).mono R,λi A=>h7 i (D i A),h8,h9⟩
 |tok e =>
  obtain⟨b,hw,sz,c,el,fz,j,z,y,E,C,Y,h7⟩:=h;obtain⟨B,D⟩:=N b (.inr ⟨_,_,_,j⟩) (Nh y);exact⟨b,hw,sz,c,el,fz,K.trans j,z,B.trans y,E,C,λi hi A=>Y i hi (D i A),h7⟩
 |map es ab =>
  obtain⟨b,ac,j,z,y,E,C,Y⟩:=h;obtain⟨B,D⟩:=N b (.inl j) (Nh y)
  exact⟨b,ac,R.phi _ _ j,z,B.trans y,E,λi A=>C i (D i A),λi k v n e hi he =>
   let ⟨p,q,r⟩:=Y i k v n e hi he;⟨p.mono R,q.mono R,r⟩⟩
 |siter s af =>
  obtain⟨b,s',j,z,y,E,C⟩:=h;obtain⟨B,D⟩:=N b (.inl j) (Nh y);exact⟨b,s',R.phi _ _ j,z,B.trans y,E,λi A=>C i (D i A)⟩
 |dead=>trivial
 |free=>exact⟨ae.trans h.1,K.trans h.2⟩
def Snap.drew (S:Snap):Snap:={ S with w:=S.w.drew }
theorem Ext.drew (S:Snap):Ext S S.drew :=
 ⟨⟨λ_ _ h=>h,λ_ _ h=>⟨h,rfl⟩,λ_ e b hw sz h=>⟨e,b,hw,sz,h,yA _,λ_=>⟨rfl,rfl,rfl⟩⟩⟩,rfl,λ_ _ h _=>h⟩
theorem Inv.drew (g:Inv W0 S H):Inv W0 S.drew H :=
 ⟨g.below.drew,λo x h=>(g.objs o x h).frame (Ext.drew S) (λ_ _ _=>⟨rfl,λ_ h=>h⟩) rfl rfl,g.past,g.inj,g.tinj,g.apart,g.puball,g.dom,g.tdom,g.lim⟩
def Snap.grow (S:Snap)(o:Obj):Snap:={ S with w:=S.w.alloc o,pub:=λb i=>S.pub b i\/b=S.w.heap.size }
theorem Ext.grow (g:Inv W0 S H)(o:Obj):Ext S (S.grow o):=by
 refine⟨⟨λ_ _ h=>h,λb i h=>⟨.inl h,?_⟩,λ_ e b hw sz h=>⟨e,b,hw,sz,h,yA _,λ_=>⟨rfl,rfl,rfl⟩⟩⟩,rfl,λb i j u=>j.elim id λe=>by have:=g.lim;have:=g.below.size;omega⟩;exact World.cell?_alloc_lt _ _ _ (g.puball b i h)
theorem Inv.grow (g:Inv W0 S H)(o:Obj):Inv W0 (S.grow o) H:=by
 refine⟨g.below.alloc g.size o,λn x h=>(g.objs n x h).frame (Ext.grow g o) (λb _ j=>⟨Below.heap_alloc S.w o b j,λi u=>?_⟩) rfl rfl,
  g.past,g.inj,g.tinj,g.apart,λb i h=>?_,λo b h=>?_,λt e b hw sz h=>?_,g.lim⟩
 ·rcases u with u|rfl
  ·exact u
  ·exact absurd j (Nat.lt_irrefl _)
 ·show b<(S.w.alloc o).heap.size;rw[World.size_alloc];rcases h with h|rfl
  ·exact yE (g.puball b i h)
  ·exact Nat.lt_succ_self _
 ·show b<(S.w.alloc _).heap.size;rw[World.size_alloc];exact yE (g.dom _ b h)
 ·show b<(S.w.alloc _).heap.size;rw[World.size_alloc];exact yE (g.tdom _ _ b _ _ h)
theorem X4 {t:TypeId}{n:Nat}(h:Xr P t=O n)(w:World):(sizeOf t).run P w=.ok n w:=by
 unfold Xr at h
 cases hi:P.info? t with
 |none=>simp[hi]at h
 |some i=>simp[hi]at h;subst h;simp[sizeOf,typeInfo,hi]
theorem Sj {t:TypeId}{g:Bool}(h:Xx P t=O g)(w:World):(isAgg t).run P w=.ok g w:=by
 unfold Xx at h;unfold isAgg
 cases j:P.underlying t with
 |none=>simp[j]at h
 |some d=>rw[Sem.run_bind,run_underlying j];cases d <;> simp_all
structure CellsRel (S:Snap)(l:List AV)(c:Array Value):Prop where
 size:c.size=Z l
 rel:∀ (i:Nat) (x:AV) (v:Value),l[i]?=O x->c[i]?=O v->VRel S x v
 cell:l.all AV.isCell=Q
theorem CellsRel.get {l:List AV}{c:Array Value}(h:CellsRel S l c){i:Nat}{x:AV}(hi:l[i]?=O x):∃ v,c[i]?=O v/\VRel S x v:=by
 have g:i<c.size:=by
  rw[h.size];rcases zD i (Z l) with j|j
  ·exact j
  ·rw[zA j]at hi;cases hi
 exact⟨c[i],zH g,h.rel i x _ hi (zH g)⟩
theorem CellsRel.mono {S g:Snap}(u:Ext S g){l:List AV}{c:Array Value}(h:CellsRel S l c):CellsRel g l c :=
 ⟨h.size,λi x v hi j=>(h.rel i x v hi j).mono u,h.cell⟩
theorem ZqS {l:List AV}(h:∀ (i:Nat) (x:AV),l[i]?=O x->x.isCell=Q):l.all AV.isCell=Q:=by
 rw[zI];intro x g;obtain⟨i,hi⟩:=List.getElem?_of_mem g;exact h i x hi
theorem Zig {l:List AV}(h:l.all AV.isCell=Q){i:Nat}{x:AV}(hi:l[i]?=O x):x.isCell=Q:=zI.1 h x (yC hi)
theorem ZbR {l:List AV}(h:l.all AV.isCell=Q)(a n:Nat):((l.drop a).take n).all AV.isCell=Q:=by
 rw[zI]at h ⊢;exact λx g=>h x (zM (yD g))
theorem CellsRel.extract {l:List AV}{c:Array Value}(h:CellsRel S l c)(a n:Nat)(w:a+n<=Z l):CellsRel S ((l.drop a).take n) (c.extract a (a+n)):=by
 refine⟨by simp[h.size];omega,λi x v hi g=>?_,ZbR h.cell a n⟩
 have j:i<n:=by
  rcases zD i n with u|u
  ·exact u
  ·rw[zA (by simp;omega)]at hi;cases hi
 rw[zQ j,zT]at hi;refine h.rel (a+i) x v hi ?_;rw[Array.getElem?_extract]at g;split at g
 ·exact g
 ·cases g
theorem VRel.cells {a:AV}{v:Value}(h:VRel S a v)(g:a.known=Q):CellsRel S a.cells v.cells:=by
 cases h with
 |undef v=>cases g
 |tuple _ _ _ _=>cases g
 |agg cells vs u w h=>exact⟨w,h,u⟩
 |_ =>
  refine⟨rfl,λi x v hi j=>?_,rfl⟩
  cases i with
  |zero =>
   simp[AV.cells]at hi;simp[Value.cells]at j;subst hi j
   first
    |exact .bool _
    |exact .int _ _
    |exact .str _ _ ‹_›
    |exact .nilp
    |exact .ptr _ _ _ ‹_›
    |exact .vp _ _ _ _ ‹_› ‹_› ‹_›
    |exact .nils
    |exact .vs _ _ _ _ _ _ _ ‹_› ‹_› ‹_› ‹_› ‹_› _ ‹_›
    |exact .rs _ _ _ _ _ _ _ ‹_› ‹_›
    |exact .ws _ _ _ _ _ _ _ ‹_› ‹_›
    |exact .wp _ _ _ _ ‹_›
    |exact .nilm
    |exact .map _ _ ‹_›
    |exact .nilf
    |exact .fn _ _ _ _ _ ‹_› ‹_› ‹_› ‹_›
    |exact .nili
    |exact .iface _ _ _ ‹_›
  |succ n=>simp[AV.cells]at hi
theorem GZ {t:TypeId}{g:Bool}{sz off:Nat}{l:List AV}{c:Array Value}{v:AV}(A:Xx P t=O g)(C:Xr P t=O sz)(z:CellsRel S l c)
 (h:apart g sz l off=O v):∃ v',(part t c off).run P S.w=.ok v' S.w/\VRel S v v':=by
 unfold apart at h
 cases g with
 |true =>
  simp only[if_true]at h;split at h
  ·rename_i j;injection h with h;subst h;have y:=z.extract off sz j;exact⟨.agg (c.extract off (off+sz)),by simp[part,Sj A,X4 C],.agg _ _ y.cell y.size y.rel⟩
  ·cases h
 |false =>
  simp only[zU,if_false]at h;obtain⟨u,D,B⟩:=z.get h;exact⟨u,by simp[part,Sj A,D],B⟩
theorem Lx {t:TypeId}{g:Bool}{sz off b:Nat}{l:List AV}{f:Nat->Value}{v:AV}(E:Xx P t=O g)(T:Xr P t=O sz)
 (C:∀ i,i<Z l->S.w.cell? ⟨b,i+off,L⟩=O (f i)) (D:∀ (i:Nat) (x:AV),l[i]?=O x->VRel S x (f i)) (K:l.all AV.isCell=Q) (h:apart g sz l 0=O v) :
 ∃ v',(loadVar t ⟨b,off,L⟩).run P S.w=.ok v' S.w/\VRel S v v':=by
 unfold apart at h;have u:∀ j,(⟨b,off,L⟩:Addr).add j=⟨b,j+off,L⟩:=λj=>by unfold Addr.add;split <;> simp_all [yU]
 cases g with
 |true =>
  simp only[if_true]at h;split at h
  ·rename_i R;injection h with h;subst h;have N:=run_loadCells (P:=P) S.w ⟨b,off,L⟩ sz f (λj X=>by rw[u];exact C j I);refine⟨.agg ((zX sz).map f).toArray,by simp[loadVar,Sj E,X4 T,N],.agg _ _ (ZbR K 0 sz) (by simp;omega) (λi x v hi F=>?_)⟩
   have y:i<sz:=by
    rcases zD i sz with A|A
    ·exact A
    ·rw[zA (by simp;omega)]at hi;cases hi
   simp[y]at hi F;subst F;exact D i x hi
  ·cases h
 |false =>
  simp only[zU,if_false]at h
  have z:0<Z l:=by
   cases l with
   |nil=>simp at h
   |cons=>simp
  have B:=C 0 z;simp only[yN]at B;exact⟨f 0,by simp[loadVar,Sj E,B],D 0 v h⟩
end
section
variable {P:Program}{S:Snap}{W0:World}{H:Hp}
theorem Zbg {op:BinOp}{k:IntKind}{a b:Int}{v:AV}(h:Wk op k a b=O v)(t:TypeId) :
 ∃ v',(binOp op t (.int k a) (.int k b)).run P S.w=.ok v' S.w/\VRel S v v':=by
 cases op <;> simp only[Wk]at h
 case quo =>
  split at h
  ·cases h
  ·injection h with h;subst h;exact⟨_,by simp[binOp,Op.intDiv, *],.int _ _⟩
 case rem =>
  split at h
  ·cases h
  ·injection h with h;subst h;exact⟨_,by simp[binOp,Op.intDiv, *],.int _ _⟩
 case shl=>cases h
 case shr=>cases h
 case add|sub|mul =>
  injection h with h;subst h;exact⟨_,by simp[binOp,Op.intArith],.int _ _⟩
 case and|or|xor|andNot =>
  injection h with h;subst h;exact⟨_,by simp[binOp,Op.intBits],.int _ _⟩
 all_goals
  injection h with h;subst h;exact⟨_,by simp[binOp,Op.intCmp],.bool _⟩
theorem XZ (a:ByteArray):Z a.data.toList=a.size:=by cases a;rfl
theorem Zow {op:BinOp}{x y:cz}{v:AV}{a b:ByteArray}(u:a.data.toList=x)(z:b.data.toList=y)(h:F5 op x y=O v) :
 ∃ v',(Op.stringOp op a b).run P S.w=.ok v' S.w/\VRel S v v':=by
 subst u z;cases op <;> simp only[F5]at h
 case add =>
  split at h
  ·rename_i g;injection h with h;subst h
   have j:¬ (((a.size+b.size:Nat):Int) > IntKind.i64.max):=by
    rw[XZ,XZ]at g;rw[IntKind.max_i64];omega
   refine⟨.string (a++b),by simp only[Op.stringOp,if_neg j,Sem.run_pure],.str _ _ ?_⟩;simp
  ·cases h
 case sub|mul|quo|rem|and|or|xor|shl|shr|andNot=>cases h
 all_goals (injection h with h;subst h;exact⟨_,by simp only[Op.stringOp,ByteArray.toList_eq,Sem.run_pure],.bool _⟩)
theorem Zkn {d:Nat}{z:TypeId->AV->AV->Option Bool}{xs X:List AV}{C D:Array Value}(hx:CellsRel S xs C)(hy:CellsRel S X D)
 (N:∀ (t:TypeId) (x y:AV) (u v:Value) (r:Bool),VRel S x u->VRel S y v->z t x y=O r->(Op.equalIn d t u v).run P S.w=.ok r S.w) :
 ∀ (fs:List Field) (r:Bool),Rl P z xs X fs=O r->(Op.eqFields d C D fs).run P S.w=.ok r S.w:=by
 intro fs
 induction fs with
 |nil=>intro r h;simp[Rl]at h;subst h;rfl
 |cons f fs T =>
  intro r h;unfold Rl at h;unfold Op.eqFields;split at h
  ·rename_i A;rw[if_pos A];split at h
   ·rename_i g sz K R;split at h
    ·rename_i u v Y hv;obtain⟨u',r1,E⟩:=GZ K R hx Y;obtain⟨v',r2,F⟩:=GZ K R hy hv;simp only[Sem.run_bind,r1,r2,Result.andThen_ok];split at h
     ·rename_i j;simp only[N _ _ _ _ _ _ E F j,Result.andThen_ok,yS,zU,if_false];exact T r h
     ·rename_i B
      cases r with
      |true=>exact absurd h B
      |false=>simp[N _ _ _ _ _ _ E F h]
    ·cases h
   ·cases h
  ·rename_i A;rw[if_neg A];exact T r h
theorem Zmc {d:Nat}{z:AV->AV->Option Bool}{e:TypeId}{g:Bool}{sz:Nat}{xs R:List AV}{B C:Array Value}(F:Xx P e=O g)(N:Xr P e=O sz)(Y:CellsRel S xs B)(hy:CellsRel S R C)
 (K:∀ (x y:AV) (u v:Value) (r:Bool),VRel S x u->VRel S y v->z x y=O r->(Op.equalIn d e u v).run P S.w=.ok r S.w) :
 ∀ (is:da) (r:Bool),Cy z g sz xs R is=O r->(Op.eqItems d e sz B C is).run P S.w=.ok r S.w:=by
 intro is
 induction is with
 |nil=>intro r h;simp[Cy]at h;subst h;rfl
 |cons i is ih =>
  intro r h;unfold Cy at h;unfold Op.eqItems;split at h
  ·rename_i u v T X;obtain⟨u',r1,D⟩:=GZ F N Y T;obtain⟨v',r2,E⟩:=GZ F N hy X;simp only[Sem.run_bind,r1,r2,Result.andThen_ok];split at h
   ·rename_i j;simp only[K _ _ _ _ _ D E j,Result.andThen_ok,yS,zU,if_false];exact ih r h
   ·rename_i A
    cases r with
    |true=>exact absurd h A
    |false=>simp[K _ _ _ _ _ D E h]
  ·cases h
set_option maxHeartbeats 4000000 in
theorem ZqK {B:TypeDesc}{t:TypeId}{x y:AV}{u v:Value}{r:Bool}(d:Nat)(g:P.underlying t=O B)(j:VRel S x u)(z:VRel S y v)(h:Zag B x y=O r) :
 (Op.equalIn (d+1) t u v).run P S.w=.ok r S.w:=by
 have A:=run_underlying g S.w;unfold Zag at h;split at h
 case h_1=>cases j;cases z;injection h with h;subst h;exact run_equalIn_bool' S.w d t _ _ g
 case h_2 =>
  cases j;cases z;split at h
  ·injection h with h;rename_i C;subst h C;exact run_equalIn_int S.w d t _ _ _ _ g
  ·cases h
 case h_3 =>
  cases j with|str _ a' ha =>
  cases z with|str _ b' hb =>
  injection h with h;subst h ha hb;rw[run_equalIn_string S.w d t _ _ g,ByteArray.toList_eq,ByteArray.toList_eq]
 all_goals first
  |(cases h;done)
  |(cases j;cases z;injection h with h;subst h;unfold Op.equalIn;simp only[Sem.run_bind,A,Result.andThen_ok];rfl)
theorem ZkX {ok:TypeId->Bool}(E:∀ t,ok t=Q->P.stoodInHeld t=J):∀ (n d:Nat) (t:TypeId) (x y:AV) (u v:Value) (r:Bool),n<=d->VRel S x u->VRel S y v->AR P ok n t x y=O r ->
 (Op.equalIn d t u v).run P S.w=.ok r S.w:=by
 intro n
 induction n with
 |zero=>intro d t x y u v r _ _ _ h;simp[AR]at h
 |succ n N =>
  intro d t x y u v r hd F K h;obtain⟨d,rfl⟩:∃ d',d=d'+1:=⟨d-1,I⟩;unfold AR at h;split at h
  ·rename_i fs j;split at h
   ·split at h
    ·rename_i X;cases F with|agg _ cx hxc hxs hxr =>
     cases K with|agg _ cy hyc hys hyr =>
     have R:P.underlying t=O (.struct (P.fieldsOf t)):=by simp[Program.fieldsOf,j]
     have D:P.fieldsOf t=fs:=by simp[Program.fieldsOf,j]
     rw[run_equalIn_struct S.w d t cx cy R (E t X),D];exact Zkn ⟨hxs,hxr,hxc⟩ ⟨hys,hyr,hyc⟩ (λt x y u v r A B C=>N d t x y u v r I A B C) _ r h
    ·cases h
   ·cases h
  ·rename_i n' e j;split at h
   ·split at h
    ·split at h
     ·rename_i g sz T z;cases F with|agg _ cx hxc hxs hxr =>
      cases K with|agg _ cy hyc hys hyr =>
      obtain⟨i,hi,rfl⟩:∃ i,P.info? e=O i/\P.cellsOf e=sz:=by
       unfold Xr at z
       cases hi:P.info? e with
       |none=>simp[hi]at z
       |some i=>exact⟨i,rfl,by simp[hi]at z;simp[Program.cellsOf,hi,z]⟩
      rw[run_equalIn_array S.w d cx cy j hi];exact Zmc T z ⟨hxs,hxr,hxc⟩ ⟨hys,hyr,hyc⟩ (λx y u v r A B C=>N d e x y u v r I A B C) _ r h
     ·cases h
    ·cases h
   ·cases h
  ·rename_i ds aa Y j;exact ZqK d j F K h
  ·cases h
end
section
variable {P:Program}{S:Snap}{W0:World}{H:Hp}
def Hl:Value->Bool
 |.int _ _|.float _ _|.complex _ _ _|.string _=>J
 |_=>Q
def Zus:Value->Bool
 |.nilIface|.agg _=>J
 |_=>Q
theorem kG {t:TypeId}{u v:Value}(g:Hl u=Q):binOp .eql t u v=(do pure (.bool (<-Op.equal t u v))):=by
 cases u <;> first|(simp[Hl]at g;done)|rfl
theorem kH {t:TypeId}{u v:Value}(g:Hl u=Q):binOp .neq t u v=(do pure (.bool (!(<-Op.equal t u v)))):=by
 cases u <;> first|(simp[Hl]at g;done)|rfl
theorem OI {op:BinOp}{t:TypeId}{X Y:Operand}{u v:Value}(g:Zus u=Q)(w:World):(eqGuard op t X Y u v).run P w=.ok () w:=by
 cases u <;> first|(simp[Zus]at g;done)|(cases op <;> rfl)
set_option maxHeartbeats 1000000 in
theorem Ze9 {ok:TypeId->Bool}(g:∀ t,ok t=Q->P.eqGuardType P.depth t=J){n:Nat}{op:BinOp}{t:TypeId}{X Y:Operand}{x y:AV}{u v:Value}{r:Bool}
 (j:VRel S x u) (z:VRel S y v) (h:AR P ok n t x y=O r):(eqGuard op t X Y u v).run P S.w=.ok () S.w:=by
 cases n with
 |zero=>simp[AR]at h
 |succ n =>
  unfold AR at h;split at h
  ·split at h
   ·split at h
    ·cases j with|agg _ cx _ _ _ =>
     cases z with|agg _ cy _ _ _ =>
     exact run_eqGuard_agg S.w op t X Y cx cy (g t ‹_›)
    ·cases h
   ·cases h
  ·split at h
   ·split at h
    ·cases j with|agg _ cx _ _ _ =>
     cases z with|agg _ cy _ _ _ =>
     exact run_eqGuard_agg S.w op t X Y cx cy (g t ‹_›)
    ·cases h
   ·cases h
  ·unfold Zag at h
   split at h <;> first
    |(cases h;done)
    |(cases j;exact OI rfl S.w)
  ·cases h
theorem ZhW {t:TypeId}{B:Array (String×TypeId)}(A:P.underlying t=O (.interface B)){x y:AV}{u v:Value}{b:Bool}(j:VRel S x u)(z:VRel S y v)(h:Zke x y=O b)(d:Nat)(w:World):(Op.equalIn (d+1) t u v).run P w=.ok b w:=by
 have g:=run_underlying A w;unfold Zke at h;split at h
 ·cases j;cases z;injection h with h;subst h;unfold Op.equalIn;simp only[Sem.run_bind,g,Result.andThen_ok];rfl
 ·cases j;cases z;injection h with h;subst h;unfold Op.equalIn;simp only[Sem.run_bind,g,Result.andThen_ok];rfl
 ·cases j;cases z;injection h with h;subst h;unfold Op.equalIn;simp only[Sem.run_bind,g,Result.andThen_ok];rfl
 ·cases h
theorem Zih {op:BinOp}{t:TypeId}{X Y:Operand}(g:op=.eql\/op=.neq)(j:ZbU X Y=Q){x y:AV}{u v:Value}{b:Bool}(z:VRel S x u)(A:VRel S y v)(h:Zke x y=O b)(w:World):(eqGuard op t X Y u v).run P w=.ok () w/\Hl u=Q:=by
 unfold Zke at h;split at h
 ·cases z;cases A;refine⟨?_,rfl⟩;unfold ZbU at j;split at j
  ·rcases g with rfl|rfl <;> rfl
  ·rcases g with rfl|rfl <;> cases X <;> rfl
  ·cases j
 ·cases z;cases A;exact⟨by rcases g with rfl|rfl <;> rfl,rfl⟩
 ·cases z;cases A;exact⟨by rcases g with rfl|rfl <;> rfl,rfl⟩
 ·cases h
theorem Zpf {op:BinOp}{t:TypeId}{X Y:Operand}{x y:AV}{u v:Value}{r:AV}(D:ZfE P t=Q)(E:ZbU X Y=Q)(j:VRel S x u)(z:VRel S y v)(h:ZhU op x y=O r) :
 ∃ v',(do eqGuard op t X Y u v;binOp op t u v:Sem Value).run P S.w=.ok v' S.w/\VRel S r v':=by
 unfold ZfE at D;split at D
 ·rename_i K F;unfold ZhU at h;split at h
  ·split at h
   ·rename_i b g;injection h with h;subst h;obtain⟨A,B⟩:=Zih (P:=P) (op:=.eql) (t:=t) (.inl rfl) E j z g S.w;have C:=ZhW F j z g 9999 S.w;refine⟨.bool b,?_,.bool _⟩;rw[kG B];simp only[Sem.run_bind,A,Result.andThen_ok,Op.equal,Op.maxDepth,C,Sem.run_pure]
   ·cases h
  ·split at h
   ·rename_i b g;injection h with h;subst h;obtain⟨A,B⟩:=Zih (P:=P) (op:=.neq) (t:=t) (.inr rfl) E j z g S.w;have C:=ZhW F j z g 9999 S.w;refine⟨.bool (!b),?_,.bool _⟩;rw[kH B];simp only[Sem.run_bind,A,Result.andThen_ok,Op.equal,Op.maxDepth,C,Sem.run_pure]
   ·cases h
  ·cases h
 ·cases D
theorem Zaf {ok:TypeId->Bool}(g:∀ t,ok t=Q->P.stoodInHeld t=J/\P.eqGuardType P.depth t=J){op:BinOp}{t:TypeId}{X Y:Operand}{x y:AV}{u v:Value}{r:AV}
 (z:VRel S x u) (A:VRel S y v) (D:Hl u=Q) (h:MA P ok op t x y=O r) :
 ∃ v',(do eqGuard op t X Y u v;binOp op t u v:Sem Value).run P S.w=.ok v' S.w/\VRel S r v':=by
 unfold MA at h;split at h
 ·split at h
  ·rename_i b j;injection h with h;subst h;have C:=ZkX (λt h=>(g t h).1) 20 10000 t x y u v b I z A j;have B:=Ze9 (λt h=>(g t h).2) (op:=.eql) (X:=X) (Y:=Y) z A j;refine⟨.bool b,?_,.bool _⟩;rw[kG D];simp only[Sem.run_bind,B,Result.andThen_ok,Op.equal,Op.maxDepth,C,Sem.run_pure]
  ·cases h
 ·split at h
  ·rename_i b j;injection h with h;subst h;have C:=ZkX (λt h=>(g t h).1) 20 10000 t x y u v b I z A j;have B:=Ze9 (λt h=>(g t h).2) (op:=.neq) (X:=X) (Y:=Y) z A j;refine⟨.bool (!b),?_,.bool _⟩;rw[kH D];simp only[Sem.run_bind,B,Result.andThen_ok,Op.equal,Op.maxDepth,C,Sem.run_pure]
  ·cases h
 ·cases h
theorem ZmY {op:BinOp}{k k':IntKind}{a b:Int}{v:AV}(h:Wj op k k' a b=O v)(t:TypeId) :
 ∃ v',(binOp op t (.int k a) (.int k' b)).run P S.w=.ok v' S.w/\VRel S v v':=by
 unfold Wj at h;split at h
 ·split at h
  ·cases h
  ·injection h with h;subst h;exact⟨_,by simp[binOp,Op.shift, *],.int _ _⟩
 ·split at h
  ·cases h
  ·injection h with h;subst h;exact⟨_,by simp[binOp,Op.shift, *],.int _ _⟩
 ·split at h
  ·rename_i g;subst g;exact Zbg h t
  ·cases h
theorem Zn1 {ok:TypeId->Bool}(z:∀ t,ok t=Q->P.stoodInHeld t=J/\P.eqGuardType P.depth t=J){op:BinOp}{t:TypeId}{X Y:Operand}{x y:AV}{u v:Value}{r:AV}
 (B:∀ d,P.underlying t=O d->d≠.string/\∀ k,d≠.int k) (A:VRel S x u) (D:VRel S y v) (h:MA P ok op t x y=O r) :
 ∃ v',(do eqGuard op t X Y u v;binOp op t u v:Sem Value).run P S.w=.ok v' S.w/\VRel S r v':=by
 have Vl:∀ b,AR P ok 20 t x y=O b->Hl u=Q:=by
  intro b g;unfold AR at g;split at g
  ·split at g
   ·cases A;rfl
   ·cases g
  ·split at g
   ·cases A;rfl
   ·cases g
  ·rename_i C _ _ F;obtain⟨E,j⟩:=B C F
   cases C with
   |int k=>exact absurd rfl (j k)
   |string=>exact absurd rfl E
   |_ =>
    unfold Zag at g
    split at g <;> first
     |(cases g;done)
     |(cases A;rfl)
     |(rename_i K;cases K)
  ·cases g
 have j:=h;unfold MA at j;split at j
 ·split at j
  ·exact Zaf z A D (Vl _ ‹_›) h
  ·cases j
 ·split at j
  ·exact Zaf z A D (Vl _ ‹_›) h
  ·cases j
 ·cases j
theorem Zpg {ok:TypeId->Bool}{op:BinOp}{t:TypeId}{d:TypeDesc}{x y:AV}(j:P.underlying t=O d)(h:∀ fs,d≠.struct fs)(g:∀ n e,d≠.array n e):YJ d op x y=MA P ok op t x y:=by
 have:AR P ok 20 t x y=Zag d x y:=by
  unfold AR;rw[j];cases d <;> first|rfl|exact absurd rfl (h _)|exact absurd rfl (g _ _)
 unfold YJ MA;rw[this]
theorem ZqG {ok:TypeId->Bool}(j:∀ t,ok t=Q->P.stoodInHeld t=J/\P.eqGuardType P.depth t=J){op:BinOp}{t:TypeId}{X Y:Operand}{x y:AV}{u v:Value}{r:AV}
 (A:VRel S x u) (B:VRel S y v) (h:ZvY P ok op t x y=O r) :
 ∃ v',(do eqGuard op t X Y u v;binOp op t u v:Sem Value).run P S.w=.ok v' S.w/\VRel S r v':=by
 unfold ZvY at h;split at h
 ·unfold Z3 at h;split at h
  ·cases A with|int _ _ =>
   cases B with|int _ _ =>
   rw[Sem.run_bind,OI rfl,Result.andThen_ok];exact ZmY h t
  ·cases h
 ·unfold YK at h;split at h
  ·cases A with|str _ b hb =>
   cases B with|str _ b' hb' =>
   rw[Sem.run_bind,OI rfl,Result.andThen_ok];have K:binOp op t (.string b) (.string b')=Op.stringOp op b b':=by cases op <;> rfl
   rw[K];exact Zow hb hb' h
  ·cases h
 ·rename_i fs z;exact Zn1 j (λd g=>by rw[z]at g;injection g with g;subst g;exact⟨cn,cn⟩) A B h
 ·rename_i R N z;exact Zn1 j (λd g=>by rw[z]at g;injection g with g;subst g;exact⟨cn,cn⟩) A B h
 ·rename_i d C D E F z;rw[Zpg (ok:=ok) z E F]at h;exact Zn1 j (λd' g=>by rw[z]at g;injection g with g;subst g;exact⟨D,C⟩) A B h
 ·cases h
theorem Ztv {op:UnOp}{x r:AV}{u:Value}(g:VRel S x u)(h:Xa op x=O r):∃ v',(Op.unary op u).run P S.w=.ok v' S.w/\VRel S r v':=by
 unfold Xa at h;split at h
 ·cases g;injection h with h;subst h;exact⟨_,rfl,.bool _⟩
 ·cases g;injection h with h;subst h;exact⟨_,rfl,.int _ _⟩
 ·cases g with|int k n =>
  obtain⟨v',j,y⟩:=Zbg (P:=P) (S:=S) h 0;refine⟨v',?_,y⟩;rw[<-j];simp[Op.unary,binOp]
 ·cases h
theorem ZnD (off:Nat):∀ (j:List Value) (n:Nat) (g:Array Value) (i:Nat),
 ((j.zipIdx n).foldl (λ(a:Array Value) (p:Value×Nat)=>a.setIfInBounds (off+p.2) p.1) g)[i]? =
  if off+n<=i/\i<off+n+Z j/\i<g.size then j[i-off-n]? else g[i]?:=by
 intro j
 induction j with
 |nil=>intro n g i;simp;omega
 |cons c j y =>
  intro n g i;rw[List.zipIdx_cons,yH,y];simp only[Array.size_setIfInBounds,yP];by_cases h:off+n=i
  ·subst h;rw[if_neg I];by_cases w:off+n<g.size
   ·rw[if_pos I];simp[w]
   ·rw[if_neg I,zY (by simp;omega),zY I]
  ·rw[Array.getElem?_setIfInBounds_ne h];by_cases u:off+(n+1)<=i/\i<off+(n+1)+Z j/\i<g.size
   ·rw[if_pos u,if_pos I];rw[show i-off-n=(i-off-(n+1))+1 by omega,List.getElem?_cons_succ]
   ·rw[if_neg u,if_neg I]
theorem Zuh (off:Nat):∀ (h:List (Value×Nat)) (g:Array Value),
 (h.foldl (λ(a:Array Value) (p:Value×Nat)=>a.setIfInBounds (off+p.2) p.1) g).size=g.size:=by
 intro h
 induction h with
 |nil=>intro g;rfl
 |cons c h j=>intro g;rw[yH,j];simp
theorem Zmo (l:List AV)(off:Nat)(g:List AV)(h:off+Z g<=Z l):(splice l off g).length=Z l:=by
 simp[splice];omega
theorem ZiS (l:List AV)(off:Nat)(g:List AV)(h:off+Z g<=Z l)(i:Nat) :
 (splice l off g)[i]?=if off<=i/\i<off+Z g then g[i-off]? else l[i]?:=by
 unfold splice;by_cases j:i<off
 ·rw[if_neg I,zL (by simp;omega),zL (by simp;omega),zQ j]
 ·by_cases u:i<off+Z g
  ·rw[if_pos I,zL (by simp;omega),zN (by simp;omega)];congr 1;simp;omega
  ·rw[if_neg I,zN (by simp;omega),zT];congr 1;simp;omega
theorem ZqT {l j:List AV}{off:Nat}(h:l.all AV.isCell=Q)(u:j.all AV.isCell=Q):(splice l off j).all AV.isCell=Q:=by
 rw[zI]at h u ⊢;intro x g;simp only[splice,List.mem_append]at g;rcases g with (g|g)|g
 ·exact h x (yD g)
 ·exact u x g
 ·exact h x (zM g)
theorem CellsRel.splice {l:List AV}{c:Array Value}(h:CellsRel S l c){g:List AV}{d:Array Value}(w:CellsRel S g d){off:Nat}(y:off+Z g<=Z l) :
 CellsRel S (splice l off g) (d.zipIdx.foldl (λ(a:Array Value) (p:Value×Nat)=>a.setIfInBounds (off+p.2) p.1) c):=by
 rw[<-Array.foldl_toList,Array.toList_zipIdx];refine⟨by rw[Zuh,Zmo l off g y];exact h.size,λi x v u j=>?_,ZqT h.cell w.cell⟩;rw[ZnD off d.toList 0 c i]at j;rw[ZiS l off g y]at u;have A:Z d.toList=Z g:=by rw[Array.length_toList];exact w.size
 have z:=h.size;by_cases hi:off<=i/\i<off+Z g
 ·rw[if_pos hi]at u;rw[if_pos I]at j;simp only[Nat.sub_zero,yB]at j;exact w.rel _ x v u j
 ·rw[if_neg hi]at u;rw[if_neg I]at j;exact h.rel i x v u j
theorem Jn {α β:Type}{f:α->Option β}:∀ {l:List α} {r:List β},l.mapM f=O r->Z r=Z l/\∀ (i:Nat) (a:α),l[i]?=O a->∃ b,f a=O b/\r[i]?=O b:=by
 intro l
 induction l with
 |nil=>intro r h;simp at h;subst h;simp
 |cons x l y =>
  intro r h;rw[yK]at h
  cases g:f x with
  |none=>simp[g]at h
  |some b =>
   cases j:l.mapM f with
   |none=>simp[g,j]at h
   |some z =>
    simp[g,j]at h;subst h;obtain⟨u,w⟩:=y j;refine⟨by simp[u],λi a hi=>?_⟩
    cases i with
    |zero=>simp at hi;subst hi;exact⟨b,g,rfl⟩
    |succ i=>simpa using w i a (by simpa using hi)
theorem Ze2 {place:Nat->Option (Nat×Nat)}:∀ (parts:List (Nat×AV)) (g:List (Nat×Value)) (u:List (Nat×Nat×AV)) (l r:List AV) (c:Array Value),
 Z parts=Z g->Z u=Z parts ->
 (∀ (j:Nat) (p:Nat×AV) (q:Nat×Value),parts[j]?=O p->g[j]?=O q->p.1=q.1/\VRel S p.2 q.2) ->
 (∀ (j:Nat) (p:Nat×AV),parts[j]?=O p->∃ o,place p.1=O o/\u[j]?=O (o.1,o.2,p.2)) ->
 CellsRel S l c->Yq u l=O r->∃ d,Instr.fill place c g=O d/\CellsRel S r d:=by
 intro parts
 induction parts with
 |nil =>
  intro g u l r c F w _ _ E h;have C:g=[]:=zF (by simpa using F.symm);have D:u=[]:=zF (by simpa using w);subst C D;simp[Yq]at h;subst h;exact⟨c,rfl,E⟩
 |cons p parts ih =>
  intro g u l r c F w y B E h
  cases g with
  |nil=>simp at F
  |cons q g =>
   cases u with
   |nil=>simp at w
   |cons p0 u =>
    obtain⟨C,D⟩:=y 0 p q rfl rfl;obtain⟨i,v⟩:=q;obtain⟨i',a⟩:=p;simp only at C D;subst C;obtain⟨⟨off,size⟩,R,A⟩:=B 0 (i',a) rfl;simp only[List.getElem?_cons_zero,zV]at A;subst A;unfold Yq at h;split at h
    ·rename_i z;obtain⟨K,N,X⟩:=z;have T:=D.cells K;unfold Instr.fill;simp only at R;simp only[R];have aa:v.cells.size=size:=by rw[T.size];exact N
     have ab:=E.size;rw[if_neg (by simp;omega)]
     refine ih g u _ r _ (by simpa using F) (by simpa using w) (λj p q w Y=>y (j+1) p q (by simpa using w) (by simpa using Y))
      (λj p w=>by simpa using B (j+1) p (by simpa using w)) ?_ h
     exact E.splice T I
    ·cases h
end
section
variable {P:Program}{S:Snap}{W0:World}{H:Hp}
theorem YO (b off n:Nat):(⟨b,off,L⟩:Addr).add n=⟨b,off+n,L⟩:=by
 unfold Addr.add;split <;> simp_all
theorem VRel.drop {cells:List AV}{b o:Nat}(h:VRel S (.vp cells) (.pointer (O ⟨b,o,L⟩)))(n:Nat):VRel S (.vp (cells.drop n)) (.pointer (O ⟨b,o+n,L⟩)):=by
 cases h with|vp _ _ _ f h0 h1 h2 =>
 refine .vp _ b (o+n) (λi=>f (n+i)) (by rw[zI]at h0 ⊢;exact λx j=>h0 x (zM j)) (λi hi=>?_) (λi c g=>?_)
 ·have:=h1 (n+i) (by simp at hi;omega)
  rwa [<-Nat.add_assoc]at this
 ·rw[zT]at g;exact h2 (n+i) c g
theorem Zah {x r:AV}{u:Value}{n:Nat}(g:VRel S x u)(h:Z8 n x=O r):∃ b o,u=.pointer (O ⟨b,o,L⟩)/\VRel S r (.pointer (O ⟨b,o+n,L⟩)):=by
 unfold Z8 at h;split at h
 ·cases g with|ptr _ _ b hb =>
  injection h with h;subst h;exact⟨b,_,rfl,.ptr _ _ b hb⟩
 ·cases g with|wp _ _ _ b hb =>
  injection h with h;subst h;exact⟨b,_,rfl,.wp _ _ _ b hb⟩
 ·split at h
  ·injection h with h;subst h;cases g with|vp _ b off f h0 h1 h2 =>
   exact⟨b,off,rfl,(VRel.vp _ b off f h0 h1 h2).drop n⟩
  ·cases h
 ·cases h
theorem ZpR {t:TypeId}{f:Nat}{j:Field}{sz b o:Nat}(g:cN P t f=O j)(y:Xr P j.type=O sz)(z:0<sz)(w:World) :
 (Instr.fieldAt t (.pointer (O ⟨b,o,L⟩)) f).run P w=.ok (.pointer (O ⟨b,o+j.offset,L⟩)) w:=by
 unfold cN at g
 cases h:P.underlying t with
 |none=>simp[h]at g
 |some d =>
  cases d with
  |struct fs =>
   simp only[h]at g;have u:sz≠0:=I
   simp[Instr.fieldAt,run_underlying h,g,Instr.sureAddr,fieldPlace,X4 y,u,YO]
  |_=>simp[h]at g
theorem Zvo {t:TypeId}{f:Nat}{j:Field}{u:Array Value}(g:cN P t f=O j)(w:World) :
 (Instr.field t (.agg u) f).run P w=(part j.type u j.offset).run P w:=by
 unfold cN at g
 cases h:P.underlying t with
 |none=>simp[h]at g
 |some d =>
  cases d with
  |struct fs =>
   simp only[h]at g;simp[Instr.field,run_underlying h,g,asAgg]
  |_=>simp[h]at g
theorem Zm1 {t e:TypeId}{size:Nat}{x i r:AV}{u v:Value}(C:P.underlying t=O (.slice e))(B:Xr P e=O size)(D:VRel S x u)(hi:VRel S i v)
 (h:Zj size x i=O r):∃ v',(Instr.indexAt t u v).run P S.w=.ok v' S.w/\VRel S r v':=by
 unfold Zj at h;split at h
 ·rename_i k tok l K n;split at h
  ·rename_i j;obtain⟨rfl,R⟩:=j;split at h
   ·rename_i el g;injection h with h;subst h;cases hi with|int _ _ =>
    cases D with|vs _ _ _ b off cap f hcap hk h1 h2 ht sp hsp =>
    have A:n.toNat<Z l:=by
     rcases zD n.toNat (Z l) with z|z
     ·exact z
     ·rw[zA z]at g;cases g
    obtain rfl:sp=L:=hsp.resolve_right I;obtain⟨F,y⟩:=hk el (yC g);refine⟨.pointer (O ⟨b,off+n.toNat*k,L⟩),?_,?_⟩
    ·have X:0<=n/\n<(Z l:Int):=⟨R,I⟩;simp[Instr.indexAt,asIntOf,run_underlying C,X,X4 B,YO]
    ·refine .vp _ b _ (λi=>f n.toNat i) y (λi hi=>?_) (λi c j=>h2 n.toNat el i c g j);exact h1 n.toNat i A I
   ·cases h
  ·cases h
 ·rename_i ag k o off len cap K n;split at h
  ·rename_i j;injection h with h;subst h;cases hi with|int _ _ =>
   cases D with|rs _ _ _ _ _ _ b hb hlen =>
   refine⟨.pointer (O ⟨b,off+n.toNat*size,L⟩),?_,.ptr _ _ _ hb⟩;simp[Instr.indexAt,asIntOf,run_underlying C,j,X4 B,YO]
  ·cases h
 ·rename_i ag k o e' len K n;split at h
  ·rename_i j;injection h with h;subst h;cases hi with|int _ _ =>
   cases D with|ws _ _ _ _ _ cap b hb hlen =>
   obtain⟨e0,N,hw0,E,Y,q2,q3⟩:=hb;refine⟨.pointer (O ⟨b,n.toNat*size,L⟩),?_,.wp _ _ _ _ ⟨e0,N,hw0,E,Y,q2,λT=>(q3 T).1⟩⟩;simp[Instr.indexAt,asIntOf,run_underlying C,j,X4 B,YO]
  ·cases h
 ·cases h
theorem Zm0 {t e:TypeId}{len size:Nat}{x i r:AV}{u v:Value}(z:P.underlying t=O (.array len e))(y:Xr P e=O size)(A:VRel S x u)(hi:VRel S i v)
 (h:N7 len size x i=O r):∃ v',(Instr.indexAt t u v).run P S.w=.ok v' S.w/\VRel S r v':=by
 unfold N7 at h;split at h
 ·rename_i B n;split at h
  ·rename_i g;cases hi with|int _ _ =>
   obtain⟨b,o,rfl,j⟩:=Zah A h;refine⟨_,?_,j⟩;simp[Instr.indexAt,asIntOf,run_underlying z,Instr.sureAddr,g,X4 y,YO]
  ·cases h
 ·cases h
theorem Zhx {t:TypeId}{x i r:AV}{u v:Value}(C:P.underlying t=O .string)(D:VRel S x u)(hi:VRel S i v)(h:Zz x i=O r) :
 ∃ v',(Instr.index t u v).run P S.w=.ok v' S.w/\VRel S r v':=by
 unfold Zz at h;split at h
 ·rename_i s E n;split at h
  ·rename_i z;split at h
   ·rename_i c g;injection h with h;subst h;cases hi with|int _ _ =>
    cases D with|str _ b hb =>
    subst hb
    have y:n.toNat<b.size:=by
     rw[<-XZ];rcases zD n.toNat (Z b.data.toList) with j|j
     ·exact j
     ·rw[zA j]at g;cases g
    have B:b[n.toNat]=c:=by
     have A:b.data.toList[n.toNat]?=O b[n.toNat]:=by
      rw[zR (by rw[XZ];exact y)];rfl
     rw[A]at g;injection g
    refine⟨.int .u8 c.toNat,?_,.int _ _⟩;rw[run_index_string S.w t b E n C,dif_pos ⟨z,I⟩,B]
   ·cases h
  ·cases h
 ·cases h
theorem Zhw {t e:TypeId}{g:Bool}{len size:Nat}{x i r:AV}{u v:Value}(B:P.underlying t=O (.array len e))(z:Xx P e=O g)(j:Xr P e=O size)
 (D:VRel S x u) (hi:VRel S i v) (h:Zai g len size x i=O r):∃ v',(Instr.index t u v).run P S.w=.ok v' S.w/\VRel S r v':=by
 unfold Zai at h;split at h
 ·rename_i E F n;split at h
  ·rename_i y;cases hi with|int _ _ =>
   cases D with|agg _ vs h0 h1 h2 =>
   obtain⟨v',A,C⟩:=GZ z j ⟨h1,h2,h0⟩ h;refine⟨v',?_,C⟩;simp[Instr.index,asIntOf,run_underlying B,y,X4 j,A]
  ·cases h
 ·cases h
def EJ (S:Snap):Option AV->Option Value->Prop
 |none,L=>True
 |some a,O v=>VRel S a v
 |_,_=>False
theorem Tr {x:AV}{v:Value}{y n:Nat}(u:VRel S x v)(h:Xj x y=O n)(g:BoundsCode)(w:World):(Instr.sliceBound v y g).run P w=.ok n w/\n<=y:=by
 unfold Xj at h;split at h
 ·rename_i z m;split at h
  ·rename_i j;injection h with h;subst h;cases u with|int _ _ =>
   refine⟨?_,I⟩;simp[Instr.sliceBound,asIntOf,j]
  ·cases h
 ·cases h
theorem UT {isS:Bool}{len cap:Nat}{lo hi mx:Option AV}{u A mx':Option Value}{l h m:Nat}(F:EJ S lo u)(z:EJ S hi A)(K:EJ S mx mx')
 (B:YQ len cap lo hi mx=O (l,h,m)) (w:World) :
 (Instr.sliceBounds isS len cap u A mx').run P w=.ok (l,h,m) w/\l<=h/\(hi≠L->h<=m)/\(hi=L->h=len/\mx=L)/\m<=cap/\(mx=L->m=cap):=by
 unfold YQ at B;split at B
 ·cases B
 rename_i m1 D;split at B
 ·cases B
 rename_i X j;split at B
 ·cases B
 rename_i T C;injection B with B;obtain⟨rfl,rfl,rfl⟩:T=l/\X=h/\m1=m:=by simpa using B
 have g:(lo=L/\u=L/\T=0)\/∃ v,u=O v/\∀ y,(Instr.sliceBound v X y).run P w=.ok T w/\T<=X:=by
  cases lo with
  |none=>cases u with
   |none=>injection C with C;exact .inl ⟨rfl,rfl,C.symm⟩
   |some _=>exact F.elim
  |some a=>cases u with
   |none=>exact F.elim
   |some v=>exact .inr ⟨v,rfl,λy=>Tr F C y w⟩
 have E:T<=X:=by
  rcases g with ⟨_,_,rfl⟩|⟨v,_,N⟩
  ·exact Nat.zero_le _
  ·exact (N .sliceB).2
 cases mx with
 |none =>
  cases mx' with
  |some _=>exact K.elim
  |none =>
   injection D with D;subst D
   cases hi with
   |none =>
    cases A with
    |some _=>exact z.elim
    |none =>
     injection j with j;subst j;refine⟨?_,E,(λh=>absurd rfl h),(λ_=>⟨rfl,rfl⟩),yA _,(λ_=>rfl)⟩;unfold Instr.sliceBounds;rcases g with ⟨_,rfl,rfl⟩|⟨v,rfl,N⟩
     ·simp
     ·simp[(N _).1]
   |some a =>
    cases A with
    |none=>exact z.elim
    |some v =>
     obtain⟨R,Y⟩:=Tr (P:=P) z j (if isS then .sliceAcap else .sliceAlen) w;refine⟨?_,E,(λ_=>Y),(λh=>by cases h),yA _,(λ_=>rfl)⟩;unfold Instr.sliceBounds;rcases g with ⟨_,rfl,rfl⟩|⟨v,rfl,N⟩
     ·simp[R]
     ·simp[R,(N _).1]
 |some a =>
  cases mx' with
  |none=>exact K.elim
  |some v =>
   obtain⟨h6,h7⟩:=Tr (P:=P) K D (if isS then .slice3Acap else .slice3Alen) w
   cases hi with
   |none=>cases j
   |some a =>
    cases A with
    |none=>exact z.elim
    |some v' =>
     obtain⟨R,Y⟩:=Tr (P:=P) z j .slice3B w;refine⟨?_,E,(λ_=>Y),(λh=>by cases h),h7,(λh=>by cases h)⟩;unfold Instr.sliceBounds;rcases g with ⟨_,rfl,rfl⟩|⟨v,rfl,N⟩
     ·simp[R,h6]
     ·simp[R,h6,(N _).1]
theorem Zkq (b:ByteArray)(l h:Nat):(b.extract l h).data.toList=(b.data.toList.take h).drop l:=by
 rw[ByteArray.data_extract,Array.toList_extract,List.extract_eq_take_drop,List.drop_take]
theorem ZhD {t:TypeId}{s:cz}{b:ByteArray}{lo hi:Option AV}{u j:Option Value}{r:AV}(D:P.underlying t=O .string)(C:b.data.toList=s)
 (z:EJ S lo u) (y:EJ S hi j) (h:Gd s lo hi=O r):∃ v',(Instr.slice t (.string b) u j L).run P S.w=.ok v' S.w/\VRel S r v':=by
 subst C;unfold Gd at h;split at h
 ·rename_i l A m g;injection h with h;subst h;rw[XZ]at g;obtain⟨B,_⟩:=UT (P:=P) (isS:=J) (mx:=L) (mx':=L) z y trivial g S.w;refine⟨.string (b.extract l A),?_,.str _ _ (Zkq b l A)⟩;simp[Instr.slice,run_underlying D,B]
 ·cases h
theorem ZnI {α:Type}(l:List α)(a h j:Nat)(x:α)(g:((l.take h).drop a)[j]?=O x):l[a+j]?=O x/\a+j<h:=by
 rw[zT]at g;rcases zD (a+j) h with u|u
 ·rw[zQ u]at g;exact⟨g,u⟩
 ·rw[zA (by simp;omega)]at g;cases g
theorem Zm4 {t e:TypeId}{size:Nat}{x r:AV}{u:Value}{lo hi mx:Option AV}{ah ad mx':Option Value}(hu:P.underlying t=O (.slice e))(hs:Xr P e=O size)
 (hx:VRel S x u) (N:EJ S lo ah) (F:EJ S hi ad) (R:EJ S mx mx') (h:YC size x lo hi mx=O r) :
 ∃ v',(Instr.slice t u ah ad mx').run P S.w=.ok v' S.w/\VRel S r v':=by
 unfold YC at h;split at h
 ·split at h
  ·rename_i q g;injection h with h;subst h;obtain⟨a,D,m⟩:=q;cases hx with|nils =>
   obtain⟨h1,h2,h3,h4,h5,h6⟩:=UT (P:=P) (isS:=Q) N F R g S.w;have hm:m=0:=I
   have ai:D=0:=by
    cases hi with
    |none=>exact (h4 rfl).1
    |some _=>have:=h3 cn;omega
   have ha:a=0:=I
   subst hm ai ha;exact⟨.slice L 0 0,by simp[Instr.slice,run_underlying hu,h1,X4 hs],.nils⟩
  ·cases h
 ·rename_i k tok l;split at h
  ·rename_i hk;subst hk;split at h
   ·rename_i a D m g;injection h with h;subst h;cases hx with|vs _ _ _ b off cap f hcap hke h1 h2 ht sp hsp =>
    -- the same bounds against the Q capacity
    have al:∃ E,YQ (Z l) cap lo hi mx=O (a,D,E)/\(mx≠L->E=m)/\(mx=L->E=cap/\m=Z l):=by
     unfold YQ at g ⊢
     cases mx with
     |none =>
      simp only at g ⊢
      cases hi with
      |none =>
       simp only at g ⊢;split at g
       ·cases g
       ·rename_i l1 K;injection g with g;simp only[yL]at g;obtain⟨rfl,rfl,rfl⟩:=g;try rw[K]
        exact⟨cap,rfl,λh=>absurd rfl h,λ_=>⟨rfl,rfl⟩⟩
      |some v =>
       simp only at g ⊢;split at g
       ·cases g
       ·rename_i aa B
        have ab:Xj v cap=O aa:=by
         unfold Xj at B ⊢;split at B
         ·split at B
          ·rename_i A;injection B with B;subst B;rw[if_pos ⟨A.1,I⟩]
          ·cases B
         ·cases B
        rw[ab];try simp only
        split at g
        ·cases g
        ·rename_i l1 K;injection g with g;simp only[yL]at g;obtain⟨rfl,rfl,rfl⟩:=g;try rw[K]
         exact⟨cap,rfl,λh=>absurd rfl h,λ_=>⟨rfl,rfl⟩⟩
     |some v =>
      simp only at g ⊢;split at g
      ·cases g
      ·rename_i m1 C
       have ae:Xj v cap=O m1:=by
        unfold Xj at C ⊢;split at C
        ·split at C
         ·rename_i A;injection C with C;subst C;rw[if_pos ⟨A.1,I⟩]
         ·cases C
        ·cases C
       rw[ae];try simp only
       split at g
       ·cases g
       ·rename_i aa B;try rw[B]
        try simp only
        split at g
        ·cases g
        ·rename_i l1 K;injection g with g;simp only[yL]at g;obtain⟨rfl,rfl,rfl⟩:=g;try rw[K]
         exact⟨m1,rfl,λ_=>rfl,λh=>by cases h⟩
    obtain⟨E,an,C,af⟩:=al;obtain⟨_,g2,g3,g4,g5,g6⟩:=UT (P:=P) (isS:=Q) N F R g S.w;obtain⟨e1,e2,e3,e4,e5,e6⟩:=UT (P:=P) (isS:=Q) N F R an S.w
    have ac:D<=Z l:=by
     cases hi with
     |none=>exact Nat.le_of_eq (g4 rfl).1
     |some _=>have:=g3 cn;omega
    have z:((l.take D).drop a).length=D-a:=by simp;omega
    have ao:D<=E:=by
     cases hi with
     |none=>obtain⟨p,q⟩:=e4 rfl;have:=(af q).1;omega
     |some _=>exact e3 cn
    have T:¬ E=a->sp=L:=λar=>hsp.resolve_right I;refine⟨.slice (O ⟨b,if E=a then off else off+a*k,sp⟩) (D-a) (E-a),?_,?_⟩
    ·simp[Instr.slice,run_underlying hu,e1,X4 hs];by_cases A:E=a
     ·simp[A]
     ·obtain rfl:=T A;simp[A,YO]
    ·rw[<-z];refine .vs k _ _ b _ (E-a) (λj i=>f (a+j) i) (by rw[z];omega) (λe X=>hke e (yD (zM X))) (λj i hj hi=>?_) (λj e i c X A=>?_) ?_ sp (if A:E=a then .inr I else .inl (T A))
     ·rw[z]at hj;have A:¬ E=a:=I
      rw[if_neg A];have:=h1 (a+j) i I hi
      rwa [show off+(a+j)*k+i=off+a*k+j*k+i by rw[zP];omega]at this
     ·exact h2 (a+j) e i c (ZnI l a D j e X).1 A
     ·cases mx with
      |some v =>
       have aq:E=m:=C cn;try simp only
       split
       ·simp only[TokOk,z];omega
       ·trivial
      |none =>
       obtain⟨rfl,ap⟩:=af rfl;try simp only
       split
       ·rename_i aj
        cases tok with
        |no=>trivial
        |clip=>simp only[TokOk]at ht ⊢;rw[z];omega
        |own tt ee =>
         obtain⟨e0,b0,hw0,Y,q1,q2,q3⟩:=ht;refine⟨e0,b0,hw0,Y,q1,q2,λX ak=>?_⟩;rw[z]at ak;obtain⟨p1,p2,p3⟩:=q3 X I;rw[if_neg I,z];have:D*k=a*k+(D-a)*k:=by rw[<-zP];congr 1;omega
         have:E*k=a*k+(E-a)*k:=by rw[<-zP];congr 1;omega
         subst aj;refine⟨p1,I,I⟩
       ·trivial
   ·cases h
  ·cases h
 ·rename_i ag k o off len cap;split at h
  ·rename_i a D m g;injection h with h;subst h;cases hx with|rs _ _ _ _ _ _ b hb z =>
   obtain⟨e1,e2,e3,e4,e5,e6⟩:=UT (P:=P) (isS:=Q) N F R g S.w;refine⟨.slice (O ⟨b,if m=a then off else off+a*size,L⟩) (D-a) (m-a),?_,.rs _ _ _ _ _ _ b hb ?_⟩
   ·simp[Instr.slice,run_underlying hu,e1,X4 hs];by_cases A:m=a
    ·simp[A]
    ·simp[A,YO]
   ·cases hi with
    |none=>obtain⟨p,q⟩:=e4 rfl;have:=e6 q;omega
    |some _=>have:=e3 cn;omega
  ·cases h
 ·rename_i ag k o e' len;split at h
  ·rename_i v;split at h
   ·rename_i D y;split at h
    ·rename_i hk;subst hk;injection h with h;subst h;cases hx with|ws _ _ _ _ _ cap b hb z =>
     have ac:D<=len:=by
      unfold Xj at y;split at y
      ·split at y
       ·injection y with y;omega
       ·cases y
      ·cases y
     have am:Xj v cap=O D:=by
      unfold Xj at y ⊢;split at y
      ·split at y
       ·rename_i A;injection y with y;subst y;rw[if_pos ⟨A.1,I⟩]
       ·cases y
      ·cases y
     have g:YQ len cap L (O v) L=O (0,D,cap):=by
      unfold YQ;simp[am]
     obtain⟨e1,e2,e3,e4,e5,e6⟩:=UT (P:=P) (isS:=Q) N F R g S.w;obtain⟨e0,b0,hw0,Y,q1,q2,q3⟩:=hb;refine⟨.slice (O ⟨b,0,L⟩) D cap,?_,.ws _ _ _ _ _ _ _ ⟨e0,b0,hw0,Y,q1,q2,λX=>?_⟩ I⟩
     ·simp[Instr.slice,run_underlying hu,e1,X4 hs];by_cases A:cap=0
      ·simp[A]
      ·simp[A,YO]
     ·obtain⟨p1,p2,p3⟩:=q3 X;exact⟨p1,yT (zE k ac) p2,p3⟩
    ·cases h
   ·cases h
  ·cases h
 ·cases h
end
section
variable {P:Program}{S:Snap}{W0:World}{H:Hp}
theorem LE:∀ (n:Nat) (v:Value),VRel S (UV n v) v:=by
 intro n
 induction n with
 |zero =>
  intro v;unfold UV
  split <;> first
   |exact .undef _
   |exact .bool _
   |exact .int _ _
   |exact .str _ _ rfl
   |exact .nilp
   |exact .nils
   |exact .nilm
   |exact .nilf
   |exact .nili
   |(rename_i h;cases h)
 |succ n w =>
  have j:∀ (g:Array Value) (i:Nat) (c:AV) (v:Value),(g.toList.map (UV n))[i]?=O c->g[i]?=O v->VRel S c v:=by
   intro g i c v hi y;rw[zK,yB,y]at hi;simp at hi;subst hi;exact w v
  intro v;unfold UV
  split <;> first
   |exact .undef _
   |exact .bool _
   |exact .int _ _
   |exact .str _ _ rfl
   |exact .nilp
   |exact .nils
   |exact .nilm
   |exact .nilf
   |exact .nili
   |(rename_i u g h;injection h with h;subst h;split <;> first|exact .agg _ _ ‹_› cn (j g)|exact .undef _)
   |(rename_i u g h;injection h with h;subst h;exact .tuple _ _ cn (j g))
   |(rename_i u t v h;injection h with h;subst h;exact .iface t _ _ (w v))
   |(rename_i u fn f c h;injection h with h;subst h;exact .fn fn _ _ _ _ cn cn (j f) (j c))
theorem U5 {t:TypeId}{z:AV}(h:JY P t=O z):∃ g,(∀ w:World,(zeroValue t).run P w=.ok g w)/\∀ S:Snap,VRel S z g:=by
 unfold JY at h
 cases hi:P.info? t with
 |none=>simp[hi]at h
 |some i =>
  simp only[hi]at h
  cases j:i.zero with
  |none=>simp[j]at h
  |some g =>
   simp[j]at h;subst h;exact⟨g,λw=>by simp[zeroValue,typeInfo,hi,j],λS=>LE 3 g⟩
theorem Zmk {α β:Type}{f:α->Option β}{g:α->Sem β}{w:World}(u:∀ a b,f a=O b->(g a).run P w=.ok b w):∀ {l:List α} {r:List β},l.mapM f=O r->(l.mapM g).run P w=.ok r w:=by
 intro l
 induction l with
 |nil=>intro r h;simp at h;subst h;rfl
 |cons x l z =>
  intro r h;rw[yK]at h
  cases j:f x with
  |none=>simp[j]at h
  |some b =>
   cases y:l.mapM f with
   |none=>simp[j,y]at h
   |some A =>
    simp[j,y]at h;subst h;rw[yK];simp[u x b j,z y]
theorem ZkK {α β:Type}{f:α->Option β}{g:α->Sem β}{w:World}(j:∀ a b,f a=O b->(g a).run P w=.ok b w){l:Array α}{r:List β}(h:l.toList.mapM f=O r) :
 (l.mapM g).run P w=.ok r.toArray w:=by
 rw[Array.mapM_eq_mapM_toList,Sem.run_map,Zmk j h];rfl
theorem Zbz {y:Array (Nat×Operand)}{ev:Operand->AV}{ρ:Operand->Value}(h:∀ x,VRel S (ev x) (ρ x))(j:Nat)(p:Nat×AV)(q:Nat×Value)
 (u:(y.toList.map λp=>(p.1,ev p.2))[j]?=O p) (w:((y.map λ(i,x)=>(i,ρ x)).toList)[j]?=O q):p.1=q.1/\VRel S p.2 q.2:=by
 simp only[Array.toList_map,zK,zZ]at u w;obtain⟨a,z,rfl⟩:=u;obtain⟨b,g,rfl⟩:=w;rw[z]at g;injection g with g;subst g;exact⟨rfl,h _⟩
theorem ZmS {t:TypeId}{X:Array (Nat×Operand)}{ev:Operand->AV}{ρ:Operand->Value}(F:∀ x,VRel S (ev x) (ρ x)){r:AV}
 (h:ZmR P t (X.toList.map λp=>(p.1,ev p.2))=O r):∃ v',(Instr.build t (X.map λ(i,x)=>(i,ρ x))).run P S.w=.ok v' S.w/\VRel S r v':=by
 unfold ZmR at h;split at h
 ·rename_i zero fs hz hu;obtain⟨zc,C,D⟩:=U5 hz;have B:=D S;cases B with|agg _ zarr Is DR hz2 =>
  split at h
  ·rename_i y ab;split at h
   ·rename_i T K
    cases A:Yq T zero with
    |none=>simp[A]at h
    |some cells =>
     simp[A]at h;subst h
     have N:=ZkK (P:=P) (w:=S.w) (g:=λf:Field=>do pure (f.offset,<-sizeOf f.type)) (λf b Y=>by
      cases R:Xr P f.type with
      |none=>simp[R]at Y
      |some n=>simp[R]at Y;subst Y;simp[X4 R]) ab
     obtain⟨q1,q2⟩:=Jn K
     obtain⟨d,z,u⟩:=Ze2 (S:=S) (place:=λi=>y.toArray[i]?) _ _ T zero cells zarr cn q1 (Zbz F) (λj p hp=>by
      obtain⟨b,E,aa⟩:=q2 j p hp;simp only[zZ]at E;obtain⟨o,ho,rfl⟩:=E;exact⟨o,by simpa using ho,aa⟩) ⟨DR,hz2,Is⟩ A
     exact⟨.agg d,by unfold Instr.build;simp only[Sem.run_bind,C,Result.andThen_ok,run_underlying hu,N,Value.cells,z,Sem.run_pure],.agg _ _ u.cell u.size u.rel⟩
   ·cases h
  ·cases h
 ·rename_i zero n e hz hu;obtain⟨zc,C,D⟩:=U5 hz;have B:=D S;cases B with|agg _ zarr Is DR hz2 =>
  split at h
  ·rename_i size R
   cases A:Yq (List.map (λp=>(p.1*size,size,p.2)) (X.toList.map λp=>(p.1,ev p.2))) zero with
   |none=>simp only[A]at h;cases h
   |some cells =>
    simp only[A,yI,zV]at h;subst h
    obtain⟨d,z,u⟩:=Ze2 (S:=S) (place:=λi=>O (i*size,size)) _ (X.map λ(i,x)=>(i,ρ x)).toList _ zero cells zarr cn cn (Zbz F) (λj p hp=>by
     refine⟨_,rfl,?_⟩;rw[zK,hp];rfl) ⟨DR,hz2,Is⟩ A
    exact⟨.agg d,by unfold Instr.build;simp only[Sem.run_bind,C,Result.andThen_ok,run_underlying hu,X4 R,Value.cells,z,Sem.run_pure],.agg _ _ u.cell u.size u.rel⟩
  ·cases h
 ·cases h
def flat (l:List AV):List AV:=(l.map AV.cells).flatten
theorem Yc {k:Nat}:∀ {l:List AV},(∀ e∈l,Z e.cells=k)->(flat l).length=Z l*k:=by
 intro l
 induction l with
 |nil=>intro _;simp[flat]
 |cons e l w =>
  intro h;have j:=h e cn;have g:=w (λe u=>h e (by simp[u]));simp only[flat,List.map_cons,List.flatten_cons,List.length_append,yP]at g ⊢;rw[j,g,zP];omega
theorem JE {k:Nat}:∀ {l:List AV},(∀ e∈l,Z e.cells=k)->∀ (j i:Nat) (e:AV),l[j]?=O e->i<k->(flat l)[j*k+i]?=e.cells[i]?:=by
 intro l
 induction l with
 |nil=>intro _ j i e h;simp at h
 |cons a l z =>
  intro h j i e g hi;have u:=h a cn;have y:flat (a::l)=a.cells++flat l:=by simp[flat]
  rw[y]
  cases j with
  |zero =>
   simp at g;subst g;rw[zL I];simp
  |succ j =>
   rw[zN (by rw[u,zP];omega)];rw[show (j+1)*k+i-Z a.cells=j*k+i by rw[u,zP];omega];exact z (λe w=>h e (by simp[w])) j i e (by simpa using g) hi
theorem ZwZ {k:Nat}{l:List AV}(h:∀ e∈l,Z e.cells=k){j:Nat}{v:AV}(N:j<Z l)(y:Z v.cells=k):flat (l.set j v)=splice (flat l) (j*k) v.cells:=by
 have z:∀ e∈l.set j v,Z e.cells=k:=λe K=>by
  rcases yF K with g|rfl
  ·exact h e g
  ·exact y
 have A:j*k+k<=Z l*k:=by
  have:(j+1)*k<=Z l*k:=zE k N;rw[zP]at this;omega
 apply List.ext_getElem?;intro i;rw[ZiS _ _ _ (by rw[Yc h,y];exact A)];rcases Nat.eq_zero_or_pos k with rfl|R
 ·have F:(flat (l.set j v))=[]:=zF (by rw[Yc z];simp);have w:(flat l)=[]:=zF (by rw[Yc h];simp);rw[F,w,y];simp
 ·by_cases B:i<Z l*k
  ·obtain⟨q,r,E,rfl⟩:∃ q r,r<k/\i=q*k+r:=⟨i / k,i % k,Nat.mod_lt _ R,by rw[yO];exact (yR i k).symm⟩
   have D:q<Z l:=by
    rcases zD q (Z l) with g|g
    ·exact g
    ·have:=zE k g;omega
   by_cases u:q=j
   ·subst u;rw[JE z q r v (by simp[D]) E,if_pos I];congr 1;omega
   ·have C:¬ (j*k<=q*k+r/\q*k+r<j*k+Z v.cells):=by
     rintro⟨F,w⟩
     rw[y]at w;rcases Nat.lt_or_gt_of_ne u with g|g
     ·have:=zE k (zW g);rw[yG]at this;omega
     ·have:=zE k (zW g);rw[yG]at this;omega
    rw[if_neg C,JE z q r l[q] (by rw[List.getElem?_set_ne (Ne.symm u)];simp[D]) E,JE h q r l[q] (by simp[D]) E]
  ·have w:¬ (j*k<=i/\i<j*k+Z v.cells):=by rw[y];omega
   rw[if_neg w,zA (by rw[Yc z];simpa using B),zA (by rw[Yc h];omega)]
theorem Ik {l:List AV}(h:(flat l).all AV.isCell=Q){e:AV}(g:e∈l):e.cells.all AV.isCell=Q:=by
 rw[zI]at h ⊢;exact λx j=>h x (yQ.2 ⟨e.cells,yV.2 ⟨e,g,rfl⟩,j⟩)
theorem AS {l:List AV}(h:∀ e∈l,e.cells.all AV.isCell=Q):(flat l).all AV.isCell=Q:=by
 rw[zI];intro x w;obtain⟨c,j,g⟩:=yQ.1 w;obtain⟨e,u,rfl⟩:=yV.1 j;exact zI.1 (h e u) x g
theorem Mn {k:Nat}{tok:Tok}{l:List AV}{b off cap:Nat}{c:Array Value}{el:TypeId}{fz:Nat×Nat}(K:S.w.heap[b]?=O (.cells c el fz))(A:Z l<=cap)(E:∀ e∈l,Z e.cells=k)(h:(flat l).all AV.isCell=Q)
 (N:∀ i,i<Z l*k->S.pub b (off+i)) (T:off+Z l*k<=c.size) (R:∀ (i:Nat) (x:AV) (v:Value),(flat l)[i]?=O x->c[off+i]?=O v->VRel S x v)
 (X:TokOk S k tok (Z l) b off cap):VRel S (.vs k tok l) (.slice (O ⟨b,off,L⟩) (Z l) cap):=by
 have y:∀ j i,j<Z l->i<k->j*k+i<Z l*k:=λj i C hi=>by
  have:=zE k (zW C);rw[yG]at this;omega
 refine .vs k tok l b off cap (λj i=>c.getD (off+(j*k+i)) undef) A (λe u=>⟨E e u,Ik h u⟩) (λj i C hi=>⟨?_,?_⟩) (λj e i x u F=>?_) X L (.inl rfl)
 ·have:=y j i C hi;rw[show off+j*k+i=off+(j*k+i) by omega];have z:off+(j*k+i)<c.size:=I
  simp[World.cell?,K,z]
 ·rw[show off+j*k+i=off+(j*k+i) by omega];exact N _ (y j i C hi)
 ·have D:j<Z l:=by
   rcases zD j (Z l) with g|g
   ·exact g
   ·rw[zA g]at u;cases u
  have B:i<k:=by
   rw[<-E e (yC u)];rcases zD i (Z e.cells) with g|g
   ·exact g
   ·rw[zA g]at F;cases F
  have:=y j i D B;have z:off+(j*k+i)<c.size:=I
  refine R (j*k+i) x _ (by rw[JE E j i e u B];exact F) ?_;simp[z]
theorem Zlc (S:Snap)(o:Obj):(S.grow o).w.heap[S.w.heap.size]?=O o:=heap_alloc_new S.w o
theorem ZkL {size:Nat}:∀ (parts:List (Nat×AV)) (g:List (Nat×Value)) (l r:List AV) (c:Array Value),Z parts=Z g ->
 (∀ (j:Nat) (p:Nat×AV) (q:Nat×Value),parts[j]?=O p->g[j]?=O q->p.1=q.1/\VRel S p.2 q.2) ->
 (∀ e∈l,Z e.cells=size)->CellsRel S (flat l) c->Zt size parts l=O r ->
 ∃ d,Instr.fill (λi=>O (i*size,size)) c g=O d/\CellsRel S (flat r) d/\(∀ e∈r,Z e.cells=size)/\Z r=Z l:=by
 intro parts
 induction parts with
 |nil =>
  intro g l r c E _ z D h;have C:g=[]:=zF (by simpa using E.symm);subst C;simp[Zt]at h;subst h;exact⟨c,rfl,D,z,rfl⟩
 |cons p parts ih =>
  intro g l r c E u z D h
  cases g with
  |nil=>simp at E
  |cons q g =>
   obtain⟨C,h2⟩:=u 0 p q rfl rfl;obtain⟨i,v⟩:=q;obtain⟨Y,a⟩:=p;simp only at C h2;subst C;unfold Zt at h;split at h
   ·rename_i w;obtain⟨T,y,A⟩:=w;have hv:=h2.cells T;have ab:v.cells.size=size:=by rw[hv.size];exact y
    have X:=D.size
    have aa:Y*size+size<=Z l*size:=by
     have:=zE size (zW A);rw[yG]at this;exact this
    rw[Yc z]at X;unfold Instr.fill;simp only;rw[if_neg (by simp;omega)]
    have B:∀ e∈l.set Y a,Z e.cells=size:=λe he=>by
     rcases yF he with h'|rfl
     ·exact z e h'
     ·exact y
    obtain⟨d,F,K,N,R⟩:=ih g (l.set Y a) r _ (by simpa using E) (λj p q hp hq=>u (j+1) p q (by simpa using hp) (by simpa using hq)) B (by
     rw[ZwZ z A y];exact D.splice hv (by rw[Yc z];omega)) h
    exact⟨d,F,K,N,by simpa using R⟩
   ·cases h
theorem Zkr (z:AV):∀ n,flat (zG n z)=(zG n z.cells).flatten:=by
 intro n;simp[flat]
theorem Zen {z:AV}{j:Value}{k:Nat}(T:VRel S z j)(B:z.known=Q)(E:Z z.cells=k)(N:0<k)(n:Nat) :
 CellsRel S (flat (zG n z)) ((yJ (n*k)).map (j.cells[· % j.cells.size]!)):=by
 have y:=T.cells B;have g:∀ e∈zG n z,Z e.cells=k:=λe A=>by rw[zS A];exact E
 refine⟨by simp[Yc g],λi x v w K=>?_,AS λe A=>by rw[zS A];exact y.cell⟩
 have C:i<n*k:=by
  rcases zD i (n*k) with h|h
  ·exact h
  ·rw[zA (by rw[Yc g];simpa using h)]at w;cases w
 obtain⟨q,r,F,rfl⟩:∃ q r,r<k/\i=q*k+r:=⟨i / k,i % k,Nat.mod_lt _ N,by rw[yO];exact (yR i k).symm⟩
 have R:q<n:=by
  rcases zD q n with h|h
  ·exact h
  ·have:=zE k h;omega
 rw[JE g q r z (by simp[R]) F]at w;have D:j.cells.size=k:=by rw[y.size,E]
 have u:(q*k+r) % j.cells.size=r:=by rw[D,yO,Nat.mul_add_mod];exact Nat.mod_eq_of_lt F
 simp only[yM,Array.getElem?_range,C,yI,zV,if_true,u]at K;refine y.rel r x v w ?_;rw[<-K];have:r<j.cells.size:=I
 simp[this]
theorem TH {t e:TypeId}(h:ZbV P t=O e):P.underlying t=O (.slice e):=by
 unfold ZbV at h;split at h
 ·injection h with h;subst h;assumption
 ·cases h
theorem ZlZ {t:TypeId}{n:Nat}{ps:Array (Nat×Operand)}{ev:Operand->AV}{ρ:Operand->Value}(hev:∀ x,VRel S (ev x) (ρ x)){r:AV}
 (h:Zkd P t n (ps.toList.map fun p=>(p.1,ev p.2))=some r):Yields P W0 S H (Instr.buildSlice t n (ps.map fun (i,x)=>(i,ρ x))) r H:=by
 intro hI;unfold Zkd at h;split at h
 ·rename_i e he;have hu:=TH he;split at h
  ·rename_i size z hs hz;split at h
   ·rename_i hc;obtain⟨hc1,hc2,hc3,hc4⟩:=hc;obtain⟨zc,hzr,hzv⟩:=U5 hz
    cases hf:Zt size (ps.toList.map fun p=>(p.1,ev p.2)) (zG n z) with
    |none=>simp[hf]at h
    |some l =>
     simp[hf]at h;subst h
     obtain⟨d,hd1,hd2,hd3,hd4⟩:=ZkL (S:=S) _ _ (zG n z) l _ (by simp) (Zbz hev)
      (fun e he=>by rw[zS he];exact hc3) (Zen (hzv S) hc2 hc3 hc4 n) hf
     simp only[List.length_replicate]at hd4;refine⟨.slice (some ⟨S.w.heap.size,0,none⟩) n n,S.grow (.cells d e),?_,Ext.grow hI _,hI.grow _,?_⟩
     ·have h1:¬ (n*size > 2 ^ 24):=by omega
      have hgo:∀ zr:Array Value,Instr.fill (fun i=>some (i*size,size)) ((yJ (n*size)).map (zr[· % zr.size]!)) (ps.map fun ((i,x):Nat×Operand)=>(i,ρ x)).toList=some d ->
       (match Instr.fill (fun i=>some (i*size,size)) ((yJ (n*size)).map (zr[· % zr.size]!)) (ps.map fun ((i,x):Nat×Operand)=>(i,ρ x)).toList with
        |some cells=>(do pure (.slice (some (<-newRow e cells)) n n):Sem Value)
        | _ => stuck "buildSlice: a part of the wrong size").run P S.w = .ok (.slice (some ⟨S.w.heap.size, 0, none⟩) n n) (S.grow (.cells d e)).w := by
       intro zr hz;rw[hz];rfl
      unfold Instr.buildSlice;simp only[Sem.run_bind,run_underlying hu,Result.andThen_ok,X4 hs];rw[if_neg h1];by_cases h0:n*size=0
      ·simp only[h0,if_true,Sem.run_pure,Result.andThen_ok,Sem.run_bind];have e1:∀ f:Nat->Value,(yJ 0).map f=#[]:=fun f=>by simp
       have:=hgo #[] (by rw[h0,e1]at hd1 ⊢;exact hd1);rw[h0]at this;exact this
      ·simp only[h0,if_false,Sem.run_bind,hzr,Sem.run_pure,Result.andThen_ok];exact hgo _ hd1
     ·rw[<-hd4];have hx:=Ext.grow hI (.cells d e);refine Mn (S:=S.grow (.cells d e)) (c:=d) (el:=e) (fz:=(0,0)) (Zlc S _) (yA _) hd3 hd2.cell (fun i _=>.inr rfl) ?_ (fun i x v hi hv=>?_) ?_
      ·have:=hd2.size;rw[Yc hd3]at this;omega
      ·rw[yN]at hv;exact (hd2.rel i x v hi hv).mono hx
      ·simp[TokOk]
   ·cases h
  ·cases h
 ·cases h
theorem ZqR {t:TypeId}{x r:AV}{u:Value}(j:VRel S x u)(h:ZmV P t x=O r)(ty:TypeId):∃ v',(Builtin.len_ #[t] ty #[u]).run P S.w=.ok v' S.w/\VRel S r v':=by
 unfold ZmV at h
 cases y:P.underlying t with
 |none=>simp[y]at h
 |some d =>
  rw[y]at h;have g:=run_underlying y S.w;simp only at h;unfold Zk at h;split at h
  ·split at h
   ·injection h with h;subst h;cases j with|str _ b hb =>
    subst hb;refine⟨goInt b.size,by simp[Builtin.len_,g],?_⟩;rw[XZ];exact .int _ _
   ·cases h
  ·rename_i n e;injection h with h;subst h;exact⟨goInt n,by simp[Builtin.len_,g],.int _ _⟩
  ·split at h
   ·injection h with h;subst h;cases j;exact⟨goInt 0,by simp[Builtin.len_,g],.int _ _⟩
   ·rename_i k tok l;injection h with h;subst h;cases j;exact⟨goInt (Z l),by simp[Builtin.len_,g],.int _ _⟩
   ·rename_i ag k o off len cap;injection h with h;subst h;cases j;exact⟨goInt len,by simp[Builtin.len_,g],.int _ _⟩
   ·rename_i ag k o e len;injection h with h;subst h;cases j;exact⟨goInt len,by simp[Builtin.len_,g],.int _ _⟩
   ·cases h
  ·cases h
theorem ZoX {x y r:AV}{u v:Value}(j:VRel S x u)(z:VRel S y v)(h:Q3 x y=O r)(a:Array TypeId)(ty:TypeId):∃ v',(Builtin.min_ a ty #[u,v]).run P S.w=.ok v' S.w/\VRel S r v':=by
 unfold Q3 at h;split at h
 ·split at h
  ·rename_i g;subst g;injection h with h;subst h;cases j;cases z;exact⟨_,by simp[Builtin.min_,Builtin.min2],.int _ _⟩
  ·cases h
 ·cases h
theorem ZoW {x y r:AV}{u v:Value}(j:VRel S x u)(z:VRel S y v)(h:Q2 x y=O r)(a:Array TypeId)(ty:TypeId):∃ v',(Builtin.max_ a ty #[u,v]).run P S.w=.ok v' S.w/\VRel S r v':=by
 unfold Q2 at h;split at h
 ·split at h
  ·rename_i g;subst g;injection h with h;subst h;cases j;cases z;exact⟨_,by simp[Builtin.max_,Builtin.max2],.int _ _⟩
  ·cases h
 ·cases h
end
section
variable {P:Program}{S:Snap}{W0:World}{H:Hp}
theorem Zan:∀ {l:List AV} {s:cz},V6 l=O s->∃ g:List Int,l=g.map (AV.int .u8)/\s=g.map λn=>zO n.toNat:=by
 intro l
 induction l with
 |nil=>intro s h;simp[V6]at h;exact⟨[],rfl,by simp[h]⟩
 |cons a l z =>
  intro s h;unfold V6 at h;split at h
  ·rename_i j;cases j
  ·rename_i n r j;injection j with w y;subst w y;split at h
   ·rename_i s' u;injection h with h;subst h;obtain⟨g,rfl,rfl⟩:=z u;exact⟨n::g,rfl,rfl⟩
   ·cases h
  ·cases h
theorem Zi8 (g:List Int):∀ (r:ByteArray),(g.foldl (λr n=>r.push (zO n.toNat)) r).data.toList=r.data.toList++g.map λn=>zO n.toNat:=by
 induction g with
 |nil=>intro r;simp
 |cons n g h=>intro r;rw[yH,h];simp[ByteArray.push]
theorem Iv {d:Option TypeDesc}(h:Zbj d=Q):d=O (.int .u8):=by
 unfold Zbj at h;split at h
 ·rfl
 ·cases h
theorem ZoR {C B:TypeId}{x r:AV}{u:Value}(A:VRel S x u){wr:TypeId->Bool}(h:Zht P wr C B x=O r):Yields P W0 S H (convert C B u) r H:=by
 intro X;unfold Zht at h;split at h
 ·rename_i q k F D;unfold Yn at h;split at h
  ·rename_i q' n;injection h with h;subst h;cases A with|int _ _ =>
   exact⟨.int k (k.wrap n),S,by simp[convert,run_underlying F,run_underlying D,Conv.intToInt],Ext.refl S,X,.int _ _⟩
  ·cases h
 ·rename_i F D;unfold Zyh at h;split at h
  ·injection h with h;subst h;cases A with|str _ b hb =>
   exact⟨.string b,S,by simp[convert,run_underlying F,run_underlying D],Ext.refl S,X,.str _ _ hb⟩
  ·cases h
 ·rename_i e F D;split at h
  ·rename_i y;have y:=Iv y;unfold Jk at h;split at h
   ·injection h with h;subst h;cases A with|nils =>
    exact⟨.string .empty,S,by simp[convert,run_underlying F,run_underlying D,run_underlying y,Conv.bytesToString],Ext.refl S,X,.str _ _ rfl⟩
   ·rename_i k tok l;split at h
    ·rename_i ae;subst ae;split at h
     ·rename_i s af;injection h with h;subst h;obtain⟨K,rfl,rfl⟩:=Zan af;cases A with|vs _ _ _ b off cap f g hk h1 h2 ht sp hsp =>
      have hl:(loadCells ⟨b,off,sp⟩ (K.map (AV.int .u8)).length).run P S.w=.ok (K.map (Value.int .u8)).toArray S.w:=by
       by_cases aa:K=[]
       ·subst aa;rfl
       obtain rfl:sp=L:=hsp.resolve_right (by have:=List.length_pos_iff.2 aa;simp at g;omega)
       have:=run_loadCells_list (P:=P) S.w ⟨b,off,L⟩ (K.map (Value.int .u8)) (λj v T=>by
        rw[zK,zZ]at T;obtain⟨n,hn,rfl⟩:=T
        have hj:j<Z K:=by
         rcases zD j (Z K) with N|N
         ·exact N
         ·rw[zA N]at hn;cases hn
        have hc:=(h1 j 0 (by simpa using hj) I).1;have hr:=h2 j (.int .u8 n) 0 (.int .u8 n) (by rw[zK,hn];rfl) rfl;rw[YO];simp only[Nat.mul_one,Nat.add_zero]at hc;rw[hc];generalize f j 0=fv at hr;cases hr;rfl)
       simpa using this
      refine⟨.string (K.foldl (λr n=>r.push (zO n.toNat)) ByteArray.empty),S,?_,Ext.refl S,X,.str _ _ ?_⟩
      ·rw[run_convert_bytes_string S.w C B e _ _ _ F y D];exact run_bytesToString S.w _ _ _ K hl
      ·rw[Zi8];simp
     ·cases h
    ·cases h
   ·cases h
  ·cases h
 ·rename_i e F D;split at h
  ·rename_i y;have y:=Iv y;split at h
   ·cases h
   unfold Zl6 at h;split at h
   ·injection h with h;subst h;cases A with|str _ b hb =>
    subst hb;have E:=run_bytes_of_string S.w C B e b F D y;have g:=grownCap_ge S.w b.size 0 e;generalize grownCap S.w b.size 0 e=cap at E g
    have R:∀ j,j<b.size->(bytesRow b cap)[j]?=O (.int .u8 ((b.data.toList.getD j 0).toNat:Int)):=by
     intro j hj;unfold bytesRow;rw[Array.getElem?_append_left (by simp;exact hj)];have hg:b.data[j]?=O b.data[j]:=zH hj;simp[hg]
    let S1:Snap:=S.drew
    have Y:Inv W0 S1 H:=X.drew;refine⟨_,S1.grow (.cells (bytesRow b cap) e ((bytesRow b cap).size,(bytesRow b cap).size+1)),E,(Ext.drew S).trans (Ext.grow Y _),Y.grow _,?_⟩;have z:(b.data.toList.map λb=>AV.int .u8 (b.toNat:Int)).length=b.size:=by rw[List.length_map];exact XZ b
    have ac:=Mn (S:=S1.grow (.cells (bytesRow b cap) e ((bytesRow b cap).size,(bytesRow b cap).size+1))) (k:=1) (tok:=.no) (l:=b.data.toList.map λb=>AV.int .u8 (b.toNat:Int))
     (b:=S.w.heap.size) (off:=0) (cap:=cap) (Zlc S1 _) (by rw[z];exact g) (λe y=>by simp at y;obtain⟨a,_,rfl⟩:=y;rfl) (AS λe y=>by simp at y;obtain⟨a,_,rfl⟩:=y;rfl) (λi _=>.inr rfl)
     (by rw[z];simp[bytesRow]) (λi x v A T=>?_) trivial
    ·rw[z]at ac;exact ac
    ·have ad:flat (b.data.toList.map λb=>AV.int .u8 (b.toNat:Int))=b.data.toList.map λb=>AV.int .u8 (b.toNat:Int):=by
      unfold flat;rw[List.map_map];show (b.data.toList.map λb=>[AV.int .u8 (b.toNat:Int)]).flatten=_
      induction b.data.toList with
      |nil=>rfl
      |cons a l ih=>simp[ih]
     rw[ad]at A
     have hi:i<b.size:=by
      rw[<-z];rcases zD i (b.data.toList.map λb=>AV.int .u8 (b.toNat:Int)).length with N|N
      ·exact N
      ·rw[zA N]at A;cases A
     rw[yN,R i hi]at T;have ab:i<Z b.data.toList:=by rw[XZ];exact hi
     rw[zK,zR ab]at A;simp only[yI,zV]at A T;subst A T;rw[List.getD_eq_getElem?_getD,zR ab];exact .int _ _
   ·cases h
  ·cases h
 ·cases h
def Held (S:Snap)(g:Nat)(h:List AV):Prop:=∃ vs:Array Value,vs.size=Z h/\∀ i,S.pub g i/\S.w.cell? ⟨g,i,L⟩=vs[i]?
theorem Held.mono {S u:Snap}(y:Ext S u){g:Nat}{w:List AV}(h:Held S g w):Held u g w:=by
 obtain⟨vs,z,j⟩:=h;exact⟨vs,z,λi=>⟨(y.pub g i (j i).1).1,(y.pub g i (j i).1).2.trans (j i).2⟩⟩
def ZqB (C:Cfg)(S:Snap):Prop:=∀ g h,C.glob g=O h->VRel S (.vp h) (.pointer (O ⟨g,0,L⟩))/\Held S g h
def Zhr (C:Cfg)(id:FuncId)(g:List AV->Option AV):Prop :=
 ∀ {W0:World} (S:Snap) (H:Hp) (args:List AV) (args':Array Value) (v:AV),Inv W0 S H->ZqB C S->args'.size=Z args ->
  (∀ (i:Nat) (a:AV) (u:Value),args[i]?=O a->args'[i]?=O u->VRel S a u)->g args=O v ->
  Calls C.P id args' S.w λe w'=>∃ v' h,e=.returned v'/\h.w=w'/\Ext S h/\Inv W0 h H/\VRel h v v'
def RL (C:Cfg)(id:FuncId)(g:EffFn):Prop :=
 ∀ {W0:World} (S:Snap) (H H':Hp) (args:List AV) (args':Array Value) (v:AV),Inv W0 S H->ZqB C S->args'.size=Z args ->
  (∀ (i:Nat) (a:AV) (u:Value),args[i]?=O a->args'[i]?=O u->VRel S a u)->g.run args H=O (v,H') ->
  Calls C.P id args' S.w λe w'=>∃ v' h,e=.returned v'/\h.w=w'/\Ext S h/\Inv W0 h H'/\VRel h v v'
def VX (C:Cfg):Prop :=
 (∀ t,C.eqok t=Q->C.P.stoodInHeld t=J/\C.P.eqGuardType C.P.depth t=J) /\
 (∀ f,C.user f=Q->∀ (args:Array Value) (w:World),(callFunc f args).run C.P w=.ok (.enter f args) w) /\
 C.P.follows .mixedOrders=Q /\
 (∀ f e,C.ext f=O e->∀ (args:Array Value) (w:World),(callFunc f args).run C.P w=(do pure (.value (<-D9 e args)):Sem Next).run C.P w) /\
 (∀ f g,C.sum f=O g->C.user f=Q/\Zhr C f g) /\
 (∀ f g,C.eff f=O g->C.user f=Q/\RL C f g)
def Gives (P:Program)(W0:World)(S:Snap)(H:Hp)(s:Sem Next)(v:AV)(H':Hp):Prop :=
 Inv W0 S H->∃ v' g,s.run P S.w=.ok (.value v') g.w/\Ext S g/\Inv W0 g H'/\VRel g v v'
theorem Yields.gives {s:Sem Value}{v:AV}{H':Hp}(h:Yields P W0 S H s v H'):Gives P W0 S H (do pure (.value (<-s))) v H':=by
 intro w;obtain⟨v',g,j,u⟩:=h w;exact⟨v',g,by simp[j],u⟩
theorem Gives.same {s:Sem Value}{v:AV}(h:∃ v',s.run P S.w=.ok v' S.w/\VRel S v v'):Gives P W0 S H (do pure (.value (<-s))) v H:=by
 obtain⟨v',g,j⟩:=h;exact (Yields.same v' g j).gives
theorem Hk {S:Snap}{ev:Operand->AV}{ρ:Operand->Value}(g:∀ x,VRel S (ev x) (ρ x))(x:Option Operand):EJ S (x.map ev) (x.map ρ):=by
 cases x with
 |none=>trivial
 |some x=>exact g x
theorem gG {S:Snap}{ev:Operand->AV}{ρ:Operand->Value}(h:∀ x,VRel S (ev x) (ρ x))(xs:Array Operand)(i:Nat)(c:AV)(v:Value)(g:(xs.toList.map ev)[i]?=O c)(j:(xs.map ρ)[i]?=O v):VRel S c v:=by
 rw[zK,yB]at g;rw[yM]at j
 cases u:xs[i]? with
 |none=>simp[u]at g
 |some x=>simp[u]at g j;subst g j;exact h x
theorem UW {α:Type}{xs:Array α}{x:α}(h:xs.toList=[x]):xs=#[x]:=by cases xs;simp_all
theorem XA {α:Type}{xs:Array α}{x y:α}(h:xs.toList=[x,y]):xs=#[x,y]:=by cases xs;simp_all
theorem Zp0 {C:Cfg}(hC:VX C){ev:Operand->AV}{ρ:Operand->Value}(j:∀ x,VRel S (ev x) (ρ x)){o:Oper}{v:AV}(h:Y9 C ev o.op=O v) :
 Gives C.P W0 S H (execOp ρ o) v H:=by
 obtain⟨al,op,aa,am,after,af⟩:=o;simp only at h;unfold execOp;simp only
 cases op with
 |move x =>
  simp[Y9]at h;subst h;exact λN=>⟨ρ x,S,rfl,Ext.refl S,N,j x⟩
 |assign x =>
  simp[Y9]at h;subst h;exact λN=>⟨ρ x,S,rfl,Ext.refl S,N,j x⟩
 |pick c a b =>
  simp only[Y9]at h;unfold Zm at h;split at h
  ·rename_i t ht;injection h with h;subst h;have hc:=j c;rw[ht]at hc;generalize ah:ρ c=cv at hc;cases hc with|bool _ =>
   intro N;refine⟨if t then ρ a else ρ b,S,by simp[ah,asBool],Ext.refl S,N,?_⟩;cases t
   ·exact j b
   ·exact j a
  ·cases h
 |build t parts=>simp only[Y9]at h;exact Gives.same (ZmS j h)
 |buildSlice t len parts=>simp only[Y9]at h;exact (ZlZ j h).gives
 |load t a =>
  simp only[Y9]at h;split at h
  ·rename_i g sz hg hs;unfold Xk at h;split at h
   ·rename_i cells hc;have D:=j a;rw[hc]at D;generalize ag:ρ a=av at D;cases D with|vp _ b off f h0 X Y =>
    refine Gives.same ?_;obtain⟨v',R,hv⟩:=Lx (P:=C.P) (S:=S) (t:=t) (off:=off) (b:=b) (f:=f) hg hs (λi hi=>by rw[yU];exact (X i hi).1) Y h0 h;exact⟨v',by simpa[ag,Instr.loadAt,Instr.sureAddr]using R,hv⟩
   ·cases h
  ·cases h
 |nilCheck x =>
  simp only[Y9]at h;unfold ZD at h;have B:=j x;split at h
  ·rename_i o off T;injection h with h;subst h;rw[T]at B;generalize A:ρ x=xv at B;cases B with|ptr _ _ b F =>
   exact λN=>⟨_,S,by simp only[A];rfl,Ext.refl S,N,.ptr _ _ b F⟩
  ·rename_i cs T;injection h with h;subst h;rw[T]at B;generalize A:ρ x=xv at B;cases B with|vp _ b off f h0 X Y =>
   exact λN=>⟨_,S,by simp only[A];rfl,Ext.refl S,N,.vp _ b off f h0 X Y⟩
  ·rename_i o e off T;injection h with h;subst h;rw[T]at B;generalize A:ρ x=xv at B;cases B with|wp _ _ _ b F =>
   exact λN=>⟨_,S,by simp only[A];rfl,Ext.refl S,N,.wp _ _ _ b F⟩
  ·cases h
 |binOp op t x y ty =>
  simp only[Y9]at h;split at h
  ·rename_i ai;split at h
   ·rename_i hc;exact Gives.same (Zpf ai hc (j x) (j y) h)
   ·cases h
  ·exact Gives.same (ZqG hC.1 (j x) (j y) h)
 |unOp op t x=>simp only[Y9]at h;exact Gives.same (Ztv (j x) h)
 |convert s d x=>simp only[Y9]at h;exact (ZoR (j x) h).gives
 |makeFunc fn first E =>
  cases fn <;> simp only[Y9]at h
  case func f =>
   injection h with h;subst h;exact λN=>⟨.func (.func f) (first.map ρ) (E.map ρ),S,by simp[Instr.makeFunc],Ext.refl S,N,.fn _ _ _ _ _ cn cn (gG j first) (gG j E)⟩
  all_goals cases h
 |slice t x lo hi mx =>
  simp only[Y9]at h;have B:=j x;split at h
  ·rename_i K;unfold Y4 at h;split at h
   ·rename_i s T ak
    have aj:mx=L:=by
     cases mx with
     |none=>rfl
     |some _=>simp at ak
    subst aj;rw[T]at B;generalize A:ρ x=xv at B;cases B with|str _ b F =>
    refine Gives.same ?_;obtain⟨v',R,hv⟩:=ZhD (P:=C.P) K F (Hk j lo) (Hk j hi) h;exact⟨v',by simpa[A,Instr.sliceAt,run_underlying K]using R,hv⟩
   ·cases h
  ·rename_i e K;split at h
   ·rename_i size hs;refine Gives.same ?_;obtain⟨v',R,hv⟩:=Zm4 (P:=C.P) K hs B (Hk j lo) (Hk j hi) (Hk j mx) h;exact⟨v',by simpa[Instr.sliceAt,run_underlying K]using R,hv⟩
   ·cases h
  ·cases h
 |fieldAddr t x f =>
  simp only[Y9]at h;split at h
  ·rename_i fd hf;split at h
   ·rename_i sz hs;split at h
    ·rename_i h0;obtain⟨b,o,A,R⟩:=Zah (j x) h;exact Gives.same ⟨_,by rw[A];exact ZpR hf hs h0 S.w,R⟩
    ·cases h
   ·cases h
  ·cases h
 |field t x f =>
  simp only[Y9]at h;split at h
  ·rename_i fd hf;split at h
   ·rename_i g sz hg hs;unfold Su at h;split at h
    ·rename_i cs T;have B:=j x;rw[T]at B;generalize A:ρ x=xv at B;cases B with|agg _ vs h0 X Y =>
     obtain⟨v',R,hv⟩:=GZ hg hs ⟨X,Y,h0⟩ h;exact Gives.same ⟨v',by rw[A,Zvo hf];exact R,hv⟩
    ·cases h
   ·cases h
  ·cases h
 |indexAddr t x i =>
  simp only[Y9]at h;split at h
  ·rename_i e K;split at h
   ·rename_i size hs;exact Gives.same (Zm1 K hs (j x) (j i) h)
   ·cases h
  ·rename_i len e K;split at h
   ·rename_i size hs;exact Gives.same (Zm0 K hs (j x) (j i) h)
   ·cases h
  ·cases h
 |index t x i =>
  simp only[Y9]at h;split at h
  ·rename_i K;exact Gives.same (Zhx K (j x) (j i) h)
  ·rename_i len e K;split at h
   ·rename_i g size hg hs;exact Gives.same (Zhw K hg hs (j x) (j i) h)
   ·cases h
  ·cases h
 |extract t i =>
  simp only[Y9]at h;unfold ZQ at h;split at h
  ·rename_i l T;have B:=j t;rw[T]at B;generalize A:ρ t=xv at B;cases B with|tuple _ vs X Y =>
   obtain⟨u,K,R⟩:∃ u,vs[i]?=O u/\VRel S v u:=by
    have ae:i<vs.size:=by
     rw[X];rcases zD i (Z l) with h'|h'
     ·exact h'
     ·rw[zA h']at h;cases h
    exact⟨vs[i],zH ae,Y i v _ h (zH ae)⟩
   exact Gives.same ⟨u,by simp[A,Instr.extract,K],R⟩
  ·cases h
 |call c =>
  obtain⟨callee,args,argTypes⟩:=c
  cases callee with
  |value f=>simp[Y9]at h
  |invoke r m=>simp[Y9]at h
  |builtin b =>
   cases b <;> first
    |(simp[Y9]at h;done)
    |skip
   case len =>
    simp only[Y9]at h;split at h
    ·rename_i x t D ht;obtain rfl:=UW D;obtain rfl:=UW ht;intro N;obtain⟨v',X,Y⟩:=ZqR (P:=C.P) (j x) h aa;exact⟨v',S,by simp[resolve,invoke,builtin,X],Ext.refl S,N,Y⟩
    ·cases h
   case min =>
    simp only[Y9]at h;split at h
    ·rename_i x y D;obtain rfl:=XA D;intro N;obtain⟨v',X,Y⟩:=ZoX (P:=C.P) (j x) (j y) h argTypes aa;exact⟨v',S,by simp[resolve,invoke,builtin,X],Ext.refl S,N,Y⟩
    ·cases h
   case max =>
    simp only[Y9]at h;split at h
    ·rename_i x y D;obtain rfl:=XA D;intro N;obtain⟨v',X,Y⟩:=ZoW (P:=C.P) (j x) (j y) h argTypes aa;exact⟨v',S,by simp[resolve,invoke,builtin,X],Ext.refl S,N,Y⟩
    ·cases h
 |makeInterface t x =>
  simp only[Y9,ZzJ]at h;split at h
  ·cases h
  ·rename_i d hd K;injection h with h;subst h;refine Gives.same ⟨.iface t (ρ x),?_,.iface t _ _ (j x)⟩;have R:=λw=>run_underlying (w:=w) K;simp only[Instr.makeInterface,Sem.run_bind,R,Result.andThen_ok];cases d <;> first|rfl|exact absurd K (hd _)
  ·cases h
 |typeAssert x xt t ok =>
  simp only[Y9]at h;split at h
  ·rename_i z hz;obtain⟨zc,z1,z2⟩:=U5 hz;unfold ZzO at h;split at h
   ·cases h
   ·rename_i d hd K;have R:=λw=>run_underlying (w:=w) K;have B:=j x;have ab:∀ ms,d≠.interface ms:=λms e=>hd ms e;split at h
    ·rename_i t' v' T;rw[T]at B;generalize A:ρ x=xv at B;cases B with|iface _ _ u hvu =>
     split at h
     ·rename_i ad;injection h with h;subst h;refine Gives.same ⟨if ok then .tuple #[u,.bool Q] else u,?_,?_⟩
      ·simp only[A,Instr.typeAssert,Sem.run_bind,R,Result.andThen_ok];cases d <;> first|(simp[ad];done)|exact absurd rfl (ab _)
      ·cases ok with
       |true=>exact .tuple _ _ rfl (λi a b D F=>by
        match i with
        |0=>simp at D F;subst D;subst F;exact hvu
        |1=>simp at D F;subst D;subst F;exact .bool _
        |i+2=>simp at D)
       |false=>exact hvu
     ·rename_i ad;split at h
      ·rename_i ac;injection h with h;subst h;refine Gives.same ⟨.tuple #[zc,.bool J],?_,?_⟩
       ·simp only[A,Instr.typeAssert,Sem.run_bind,R,Result.andThen_ok];cases d <;> first|(simp[ad,ac,z1];done)|exact absurd rfl (ab _)
       ·exact .tuple _ _ rfl (λi a b D F=>by
         match i with
         |0=>simp at D F;subst D;subst F;exact z2 S
         |1=>simp at D F;subst D;subst F;exact .bool _
         |i+2=>simp at D)
      ·cases h
    ·rename_i T;rw[T]at B;generalize A:ρ x=xv at B;cases B;split at h
     ·rename_i ac;injection h with h;subst h;refine Gives.same ⟨.tuple #[zc,.bool J],?_,?_⟩
      ·simp only[A,Instr.typeAssert,Sem.run_bind,R,Result.andThen_ok];cases d <;> first|(simp[ac,z1];done)|exact absurd rfl (ab _)
      ·exact .tuple _ _ rfl (λi a b D F=>by
        match i with
        |0=>simp at D F;subst D;subst F;exact z2 S
        |1=>simp at D F;subst D;subst F;exact .bool _
        |i+2=>simp at D)
     ·cases h
    ·cases h
   ·cases h
  ·cases h
 |_=>simp[Y9]at h
end
end Go.Am
