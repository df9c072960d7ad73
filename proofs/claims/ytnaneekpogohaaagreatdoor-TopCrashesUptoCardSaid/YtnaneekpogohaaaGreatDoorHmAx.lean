/- THE ABSTRACT MACHINE -/
import Derived.WalkKit
import Derived.Lib.FrozenHead
import Derived.ChangeKeysEq
import Derived.Laws.IdiomStrings
open List renaming getElem?_eq_none->zA,eq_nil_of_length_eq_zero->zF,replicate->zG,all_eq_true->zI,getElem?_map->zK,getElem?_append_left->zL,mem_of_mem_drop->zM,getElem?_append_right->zN,getElem?_take_of_lt->zQ,getElem?_eq_getElem->zR,eq_of_mem_replicate->zS,getElem?_drop->zT,range->zX,mem_of_getElem?->yC,mem_of_mem_take->yD,mem_or_eq_of_mem_set->yF,foldl_cons->yH,mapM_cons->yK,length_cons->yP,mem_flatten->yQ,mem_map->yV
open Nat renaming beq->zC,lt_or_ge->zD,mul_le_mul_right->zE,beq_eq->zJ,add_mul->zP,succ_le_of_lt->zW,le_refl->yA,lt_succ_of_lt->yE,succ_mul->yG,zero_add->yN,mul_comm->yO,div_add_mod->yR,le_trans->yT,add_comm->yU
open Bool renaming and_eq_true->zB,false_eq_true->zU,not_true->yS
open Option renaming map_eq_some_iff->zZ,map_some->yI
open Array renaming getElem?_eq_getElem->zH,getElem?_eq_none->zY,getElem?_toList->yB,range->yJ,getElem?_map->yM
open UInt8 renaming ofNat->zO
open Option.some renaming injEq->zV
open Prod.mk renaming injEq->yL
namespace Go.Am
inductive Tok where
 |no
 |own (t e:Nat)
 |clip
 deriving DecidableEq
inductive AV where
 |undef
 |bool (b:Bool)
 |int (k:IntKind) (n:Int)
 |str (s:List UInt8)
 |nilp
 |ptr (o off:Nat)
 |vp (cells:List AV)
 |nils
 |vs (k:Nat) (tok:Tok) (l:List AV)
 |rs (ag:Bool) (k o off len cap:Nat)
 |ws (ag:Bool) (k o e len:Nat)
 |wp (o e off:Nat)
 |nilm
 |map (o:Nat)
 |nilf
 |fn (fn:Fn) (first captured:List AV)
 |nili
 |iface (t:TypeId) (v:AV)
 |agg (cells:List AV)
 |tuple (l:List AV)
def AV.cells:AV->List AV
 |.agg cs=>cs
 |v=>[v]
def AV.isCell:AV->Bool
 |.undef|.agg _|.tuple _=>false
 |_=>true
inductive AObj where
 |cells (l:List AV)
 |bld (T u:TypeId) (l:List UInt8)
 |tok (e:Nat)
 |row (e:Nat) (l:List AV)
 |map (es:List (AV×AV×Nat)) (clock:Nat)
 |siter (s:List UInt8) (pos:Nat)
 |dead
 |free
structure Snap where
 w:World
 phi:Nat->Option Nat
 pub:Nat->Nat->Prop
 tk:Nat->Option (Nat×Nat×Nat×Nat)
 lim:Nat
def TokOk (S:Snap)(k:Nat)(tok:Tok)(len b off cap:Nat):Prop :=
 match tok with
 |.no=>True
 |.clip=>cap=len
 |.own t e=>∃ e0 h hw0 g,S.tk t=some (e0,h,hw0,g)/\e<=e0/\(e=e0->len<cap->b=h/\off+len*k=hw0/\off+cap*k<=g)
def RowOk (S:Snap)(o e b hw h:Nat):Prop:=∃ e0 j hw0 g,S.tk o=some (e0,j,hw0,g)/\e<=e0/\(e=e0->b=j/\hw<=hw0/\h<=g)
def RowIn (S:Snap)(o e b:Nat):Prop:=∃ e0 h hw0 g,S.tk o=some (e0,h,hw0,g)/\e<=e0/\(e=e0->b=h)
inductive VRel (S:Snap):AV->Value->Prop
 |undef (v:Value):VRel S .undef v
 |bool (b:Bool):VRel S (.bool b) (.bool b)
 |int (k:IntKind) (n:Int):VRel S (.int k n) (.int k n)
 |str (s:List UInt8) (b:ByteArray) (h:b.data.toList=s):VRel S (.str s) (.string b)
 |nilp:VRel S .nilp (.pointer none)
 |ptr (o off b:Nat) (h:S.phi o=some b):VRel S (.ptr o off) (.pointer (some ⟨b,off,none⟩))
 |vp (cells:List AV) (b off:Nat) (f:Nat->Value) (hc:cells.all AV.isCell=true)
  (h1:∀ i,i<cells.length->S.w.cell? ⟨b,off+i,none⟩=some (f i)/\S.pub b (off+i))
  (h2:∀ (i:Nat) (c:AV),cells[i]?=some c->VRel S c (f i)):VRel S (.vp cells) (.pointer (some ⟨b,off,none⟩))
 |nils:VRel S .nils (.slice none 0 0)
 |vs (k:Nat) (tok:Tok) (l:List AV) (b off cap:Nat) (f:Nat->Nat->Value)
  (hcap:l.length<=cap)
  (hk:∀ e,e∈l->e.cells.length=k/\e.cells.all AV.isCell=true)
  (h1:∀ j i,j<l.length->i<k->S.w.cell? ⟨b,off+j*k+i,none⟩=some (f j i)/\S.pub b (off+j*k+i))
  (h2:∀ (j:Nat) (e:AV) (i:Nat) (c:AV),l[j]?=some e->e.cells[i]?=some c->VRel S c (f j i))
  (ht:TokOk S k tok l.length b off cap) (sp:Option Nat) (hsp:sp=none\/cap=0):VRel S (.vs k tok l) (.slice (some ⟨b,off,sp⟩) l.length cap)
 |rs (ag:Bool) (k o off len cap b:Nat) (h:S.phi o=some b) (hlen:len<=cap):VRel S (.rs ag k o off len cap) (.slice (some ⟨b,off,none⟩) len cap)
 |ws (ag:Bool) (k o e len cap b:Nat) (h:RowOk S o e b (len*k) (cap*k)) (hlen:len<=cap):VRel S (.ws ag k o e len) (.slice (some ⟨b,0,none⟩) len cap)
 |wp (o e off b:Nat) (h:RowIn S o e b):VRel S (.wp o e off) (.pointer (some ⟨b,off,none⟩))
 |nilm:VRel S .nilm (.map none)
 |map (o b:Nat) (h:S.phi o=some b):VRel S (.map o) (.map (some b))
 |nilf:VRel S .nilf .nilFunc
 |fn (fn:Fn) (first captured:List AV) (F C:Array Value) (hF:F.size=first.length) (hC:C.size=captured.length)
  (h1:∀ (i:Nat) (c:AV) (v:Value),first[i]?=some c->F[i]?=some v->VRel S c v)
  (h2:∀ (i:Nat) (c:AV) (v:Value),captured[i]?=some c->C[i]?=some v->VRel S c v):VRel S (.fn fn first captured) (.func fn F C)
 |nili:VRel S .nili .nilIface
 |iface (t:TypeId) (v:AV) (u:Value) (h:VRel S v u):VRel S (.iface t v) (.iface t u)
 |agg (cells:List AV) (vs:Array Value) (hc:cells.all AV.isCell=true) (hs:vs.size=cells.length) (h:∀ (i:Nat) (c:AV) (v:Value),cells[i]?=some c->vs[i]?=some v->VRel S c v):VRel S (.agg cells) (.agg vs)
 |tuple (l:List AV) (vs:Array Value) (hs:vs.size=l.length) (h:∀ (i:Nat) (c:AV) (v:Value),l[i]?=some c->vs[i]?=some v->VRel S c v):VRel S (.tuple l) (.tuple vs)
structure Ext0 (S S':Snap):Prop where
 phi:∀ o b,S.phi o=some b->S'.phi o=some b
 pub:∀ b i,S.pub b i->S'.pub b i/\S'.w.cell? ⟨b,i,none⟩=S.w.cell? ⟨b,i,none⟩
 tk:∀ t e b hw sz,S.tk t=some (e,b,hw,sz)->∃ e' b' hw' sz',S'.tk t=some (e',b',hw',sz')/\e<=e'/\(e'=e->b'=b/\hw'=hw/\sz'=sz)
structure Ext (S S':Snap):Prop extends Ext0 S S' where
 lim:S'.lim=S.lim
 old:∀ b i,S'.pub b i->b<S.lim->S.pub b i
theorem Ext.refl (S:Snap):Ext S S :=
 ⟨⟨fun _ _ h=>h,fun _ _ h=>⟨h,rfl⟩,fun _ e b hw sz h=>⟨e,b,hw,sz,h,yA _,fun _=>⟨rfl,rfl,rfl⟩⟩⟩,rfl,fun _ _ h _=>h⟩
theorem Ext.trans {A B C:Snap}(h:Ext A B)(k:Ext B C):Ext A C:=by
 refine⟨⟨fun o b e=>k.phi o b (h.phi o b e),fun b i e=>?_,fun t e b hw sz M=>?_⟩,k.lim.trans h.lim,fun b i Q J=>h.old b i (k.old b i Q (by rw[h.lim];exact J)) J⟩
 ·obtain⟨p,q⟩:=h.pub b i e;obtain⟨R,T⟩:=k.pub b i p;exact⟨R,T.trans q⟩
 ·obtain⟨u,K,z,E,N,y,w⟩:=h.tk t e b hw sz M;obtain⟨I,L,D,F,O,j,g⟩:=k.tk t u K z E N;refine⟨I,L,D,F,O,yT y j,fun U=>?_⟩;have:u=e:=by omega
  obtain⟨rfl,rfl,rfl⟩:=w this;have:I=u:=by omega
  exact g this
theorem TokOk.mono0 {S A:Snap}(L:Ext0 S A){k:Nat}{tok:Tok}{len b off cap:Nat}(h:TokOk S k tok len b off cap):TokOk A k tok len b off cap:=by
 cases tok with
 |no=>trivial
 |clip=>exact h
 |own t e =>
  obtain⟨e0,D,hw0,y,F,J,K⟩:=h;obtain⟨B,E,w,z,I,C,u⟩:=L.tk t e0 D hw0 y F;refine⟨B,E,w,z,I,by omega,fun M j=>?_⟩;have g:B=e0:=by omega
  obtain⟨rfl,rfl,rfl⟩:=u g;exact K (by omega) j
theorem RowOk.mono0 {S A:Snap}(L:Ext0 S A){o e b hw g:Nat}(h:RowOk S o e b hw g):RowOk A o e b hw g:=by
 obtain⟨e0,D,hw0,y,F,J,K⟩:=h;obtain⟨B,E,w,z,I,C,u⟩:=L.tk o e0 D hw0 y F;refine⟨B,E,w,z,I,by omega,fun M=>?_⟩;have j:B=e0:=by omega
 obtain⟨rfl,rfl,rfl⟩:=u j;exact K (by omega)
theorem RowIn.mono0 {S z:Snap}(K:Ext0 S z){o e b:Nat}(h:RowIn S o e b):RowIn z o e b:=by
 obtain⟨e0,C,hw0,w,E,I,J⟩:=h;obtain⟨A,D,u,y,F,B,j⟩:=K.tk o e0 C hw0 w E;refine⟨A,D,u,y,F,by omega,fun L=>?_⟩;have g:A=e0:=by omega
 obtain⟨rfl,rfl,rfl⟩:=j g;exact J (by omega)
theorem VRel.mono0 {S N:Snap}(z:Ext0 S N){a:AV}{v:Value}(h:VRel S a v):VRel N a v:=by
 induction h with
 |undef v=>exact .undef v
 |bool b=>exact .bool b
 |int k n=>exact .int k n
 |str s b h=>exact .str s b h
 |nilp=>exact .nilp
 |ptr o off b h=>exact .ptr o off b (z.phi _ _ h)
 |vp cells b off f D B O y =>
  refine .vp cells b off f D (fun i hi=>?_) y;obtain⟨p,q⟩:=B i hi;obtain⟨L,M⟩:=z.pub _ _ q;exact⟨M.trans p,L⟩
 |nils=>exact .nils
 |vs k tok l b off cap f A hk B O U V I y =>
  refine .vs k tok l b off cap f A hk (fun j i T hi=>?_) y (U.mono0 z) V I;obtain⟨p,q⟩:=B j i T hi;obtain⟨L,M⟩:=z.pub _ _ q;exact⟨M.trans p,L⟩
 |rs ag k o off len cap b h w=>exact .rs ag k o off len cap b (z.phi _ _ h) w
 |ws ag k o e len cap b h w=>exact .ws ag k o e len cap b (h.mono0 z) w
 |wp o e off b h=>exact .wp o e off b (h.mono0 z)
 |nilm=>exact .nilm
 |map o b h=>exact .map o b (z.phi _ _ h)
 |nilf=>exact .nilf
 |fn fn first g F C R Q B O J K=>exact .fn fn first g F C R Q J K
 |nili=>exact .nili
 |iface t v u h y=>exact .iface t v u y
 |agg cells vs D E h y=>exact .agg cells vs D E y
 |tuple l vs E h y=>exact .tuple l vs E y
theorem VRel.mono {S g:Snap}(j:Ext S g){a:AV}{v:Value}(h:VRel S a v):VRel g a v:=h.mono0 j.toExt0
def Zpt (n:Nat)(fz:Nat×Nat):Prop:=∀ i,i<n->¬ (fz.1<=i/\i<fz.2)
def ORel (S:Snap)(j:Nat)(o:Nat):AObj->Prop
 |.cells l=>∃ b c el,S.phi o=some b/\j<=b/\S.w.heap[b]?=some (.cells c el (0,0))/\c.size=l.length /\
  (∀ (i:Nat) (x:AV) (v:Value),l[i]?=some x->c[i]?=some v->VRel S x v)/\(∀ i,¬ S.pub b i)/\l.all AV.isCell=true
 |.bld T u l=>∃ b,S.phi o=some b/\Lib.IsBuilderF T u j b (Lib.byteCells l) S.w/\T≠u/\(∀ i,¬ S.pub b i) /\
  ∀ v g,S.w.cell? ⟨b,1,none⟩=some v->v.ownBlock=some g->(∃ n hw sz,S.tk o=some (n,g,hw,sz))/\∀ i,¬ S.pub g i
 |.row e l=>∃ b sz c el fz,S.tk o=some (e,b,l.length,sz)/\j<=b/\S.w.heap[b]?=some (.cells c el fz)/\c.size=sz/\l.length<=sz /\
  (∀ (i:Nat) (x:AV) (v:Value),l[i]?=some x->c[i]?=some v->VRel S x v)/\(∀ i,¬ S.pub b i)/\l.all AV.isCell=true/\Zpt c.size fz
 |.tok e=>∃ b hw sz c el fz,S.tk o=some (e,b,hw,sz)/\j<=b/\S.w.heap[b]?=some (.cells c el fz)/\c.size=sz/\hw<=sz /\
  (∀ i,hw<=i->¬ S.pub b i)/\Zpt c.size fz
 |.map es clock=>∃ b h,S.phi o=some b/\j<=b/\S.w.heap[b]?=some (.map h clock)/\h.size=es.length/\(∀ i,¬ S.pub b i) /\
  (∀ (i:Nat) (k v:AV) (n:Nat) (e:MapEntry),es[i]?=some (k,v,n)->h[i]?=some e->VRel S k e.key/\VRel S v e.val/\e.born=n)
 |.siter s pos=>∃ b s',S.phi o=some b/\j<=b/\S.w.heap[b]?=some (.stringIter s' pos)/\s'.data.toList=s/\(∀ i,¬ S.pub b i)
 |.dead=>True
 |.free=>S.phi o=none/\S.tk o=none
structure Inv (W0:World)(S:Snap)(H:List AObj):Prop where
 below:RowKit.Below W0.heap.size W0 S.w
 objs:∀ o x,H[o]?=some x->ORel S W0.heap.size o x
 past:∀ o,H.length<=o->S.phi o=none/\S.tk o=none
 inj:∀ o o' b,S.phi o=some b->S.phi o'=some b->H[o]?≠some .dead->H[o']?≠some .dead->o=o'
 tinj:∀ t t' e b hw sz e' hw' sz',S.tk t=some (e,b,hw,sz)->S.tk t'=some (e',b,hw',sz')->t=t'
 apart:∀ t e b hw sz o,S.tk t=some (e,b,hw,sz)->S.phi o≠some b
 puball:∀ b i,S.pub b i->b<S.w.heap.size
 dom:∀ o b,S.phi o=some b->b<S.w.heap.size
 tdom:∀ t e b hw sz,S.tk t=some (e,b,hw,sz)->b<S.w.heap.size
 lim:S.lim<=W0.heap.size
end Go.Am
namespace Go.Am
abbrev Hp:=List AObj
inductive ExtK where
 |same
 |indexByte
 |cmp
 |count
 deriving DecidableEq
def KR (c:UInt8):List UInt8->Nat->Int
 |[],_=>-1
 |b::l,i=>if b=c then i else KR c l (i+1)
def K3:List UInt8->List UInt8->Int
 |[],[]=>0
 |[],_::_=>-1
 |_::_,[]=>1
 |a::l,b::m=>if a=b then K3 l m else if a<b then -1 else 1
def Tr (c:UInt8):List UInt8->Nat
 |[]=>0
 |b::l=>if b=c then Tr c l+1 else Tr c l
def Zmt:ExtK->List AV->Option AV
 |.same,[x]=>some x
 |.indexByte,[.str s,.int .u8 n]=>some (.int .i64 (KR (zO n.toNat) s 0))
 |.cmp,[.str a,.str b]=>some (.int .i64 (K3 a b))
 |.count,[.str s,.int .u8 n]=>some (.int .i64 (Tr (zO n.toNat) s))
 |_,_=>none
def DG:ExtK->Array Value->Sem Value
 |.same=>Extern.AbiNoEscape.same
 |.indexByte=>Extern.BytealgIndexByte.indexByte
 |.cmp=>Extern.BytealgCompare.compare
 |.count=>Extern.BytealgCount.count
def Zay (e:ExtK)(args:List AV)(H:List AObj):Option (AV×List AObj) :=
 match Zmt e args with
 |some v=>some (v,H)
 |none=>none
def Xh {α:Type}(g:Hp->Option (α×Hp)):Prop :=
 ∀ H v H',g H=some (v,H')->H.length<=H'.length/\∀ o,o<H.length->H'[o]?=some .free->H[o]?=some .free/\∀ x,g (H.set o x)=some (v,H'.set o x)
structure EffFn where
 run:List AV->Hp->Option (AV×Hp)
 frm:∀ args,Xh (run args)
structure Cfg where
 P:Program
 glob:Nat->Option (List AV)
 user:FuncId->Bool
 eqok:TypeId->Bool
 pure:FuncId->Bool
 flat:FuncId->Bool
 ext:FuncId->Option ExtK
 sum:FuncId->Option (List AV->Option AV)
 keep:FuncId->Nat->Option (List Nat)
 eff:FuncId->Option EffFn:=fun _=>none
 bld:TypeId->Option TypeId:=fun _=>none
 lin:TypeId->Bool:=fun _=>false
 qk:Nat->List Nat->Bool:=fun _ _=>false
 wrb:TypeId->Bool:=fun _=>false
 ro:FuncId->Bool:=fun _=>false
 rst:TypeId->Nat->Nat->Nat:=fun _ _ _=>0
 far:Option (TypeId->Nat->TypeId->Nat->Bool):=none
 dfr:FuncId->Bool:=fun _=>false
def Xr (P:Program)(t:TypeId):Option Bool :=
 match P.underlying t with
 |some (.struct _)=>some true
 |some (.array _ _)=>some true
 |some _=>some false
 |none=>none
def Xe (P:Program)(t:TypeId):Option Nat :=
 match P.info? t with
 |some i=>some i.size
 |none=>none
def GY (P:Program)(t:TypeId):Option Nat :=
 match P.info? t with
 |some i=>some i.bytes
 |none=>none
def ZeR (P:Program)(t:TypeId):Option TypeId :=
 match P.underlying t with
 |some (.slice e)=>some e
 |_=>none
def Ol (P:Program)(t:TypeId)(f:Nat):Option Field :=
 match P.underlying t with
 |some (.struct fs)=>fs[f]?
 |_=>none
def Qk:Nat->Value->AV
 |_,.bool b=>.bool b
 |_,.int k n=>.int k n
 |_,.string s=>.str s.data.toList
 |_,.pointer none=>.nilp
 |_,.slice none 0 0=>.nils
 |_,.map none=>.nilm
 |_,.nilFunc=>.nilf
 |_,.nilIface=>.nili
 |n+1,.agg cs=>if (cs.toList.map (Qk n)).all AV.isCell then .agg (cs.toList.map (Qk n)) else .undef
 |n+1,.tuple cs=>.tuple (cs.toList.map (Qk n))
 |n+1,.iface t v=>.iface t (Qk n v)
 |n+1,.func fn f c=>.fn fn (f.toList.map (Qk n)) (c.toList.map (Qk n))
 |_,_=>.undef
def Jr (P:Program)(t:TypeId):Option AV :=
 match P.info? t with
 |some i=>match i.zero with
  |some z=>some (Qk 3 z)
  |none=>none
 |none=>none
def eval (C:Cfg)(tm:List AV):Operand->AV
 |.tmp t=>tm.getD t (.tuple [])
 |.const v=>Qk 4 v
 |.global g=>match C.glob g with
  |some h=>.vp h
  |none=>.undef
 |.func f=>.fn (.func f) [] []
def apart (g:Bool)(sz:Nat)(cells:List AV)(off:Nat):Option AV :=
 if g then (if off+sz<=cells.length then some (.agg ((cells.drop off).take sz)) else none) else cells[off]?
def Z3 (g:Bool)(sz:Nat)(a:AV)(H:Hp):Option AV :=
 match a with
 |.ptr o off=>match H[o]? with
  |some (.cells l)=>apart g sz l off
  |_=>none
 |.vp cells=>apart g sz cells 0
 |.wp o e off=>match H[o]? with
  |some (.row e' l)=>if e'=e then apart g sz l off else none
  |_=>none
 |_=>none
def Jy (g:Bool)(sz:Nat)(a:AV):Option AV :=
 match a with
 |.vp cells=>apart g sz cells 0
 |_=>none
def AV.known:AV->Bool
 |.undef|.tuple _=>false
 |_=>true
def splice (l:List AV)(off:Nat)(g:List AV):List AV:=l.take off++g++l.drop (off+g.length)
def YX (sz:Nat)(a v:AV)(H:Hp):Option Hp :=
 match a with
 |.ptr o off=>match H[o]? with
  |some (.cells l)=>if v.known=true/\v.cells.length=sz/\off+sz<=l.length then some (H.set o (.cells (splice l off v.cells))) else none
  |_=>none
 |.wp o e off=>match H[o]? with
  |some (.row e' l)=>if e'=e/\v.known=true/\v.cells.length=sz/\off+sz<=l.length then some (H.set o (.row e (splice l off v.cells))) else none
  |_=>none
 |_=>none
def Z6 (off:Nat)(a:AV):Option AV :=
 match a with
 |.ptr o x=>some (.ptr o (x+off))
 |.wp o e x=>some (.wp o e (x+off))
 |.vp cells=>if off<=cells.length then some (.vp (cells.drop off)) else none
 |_=>none
def Zo (size:Nat)(x i:AV):Option AV :=
 match x,i with
 |.vs k _ l,.int _ n=>if k=size/\0<=n then match l[n.toNat]? with
  |some e=>some (.vp e.cells)
  |none=>none else none
 |.rs _ _ o off len _,.int _ n=>if 0<=n/\n<len then some (.ptr o (off+n.toNat*size)) else none
 |.ws _ _ o e len,.int _ n=>if 0<=n/\n<len then some (.wp o e (n.toNat*size)) else none
 |_,_=>none
def WO (len size:Nat)(x i:AV):Option AV :=
 match i with
 |.int _ n=>if 0<=n/\n<len then Z6 (n.toNat*size) x else none
 |_=>none
def Zx (x i:AV):Option AV :=
 match x,i with
 |.str s,.int _ n=>if 0<=n then match s[n.toNat]? with
  |some b=>some (.int .u8 b.toNat)
  |none=>none else none
 |_,_=>none
def Zdx (g:Bool)(len size:Nat)(x i:AV):Option AV :=
 match x,i with
 |.agg cs,.int _ n=>if 0<=n/\n<len then apart g size cs (n.toNat*size) else none
 |_,_=>none
def XF (op:BinOp)(k:IntKind)(a b:Int):Option AV :=
 match op with
 |.add=>some (.int k (k.wrap (a+b)))
 |.sub=>some (.int k (k.wrap (a-b)))
 |.mul=>some (.int k (k.wrap (a*b)))
 |.quo=>if b=0 then none else some (.int k (k.wrap (a.tdiv b)))
 |.rem=>if b=0 then none else some (.int k (a.tmod b))
 |.and=>some (.int k (k.wrap ((BitVec.ofInt k.bits a &&& BitVec.ofInt k.bits b).toNat:Int)))
 |.or=>some (.int k (k.wrap ((BitVec.ofInt k.bits a ||| BitVec.ofInt k.bits b).toNat:Int)))
 |.xor=>some (.int k (k.wrap ((BitVec.ofInt k.bits a ^^^ BitVec.ofInt k.bits b).toNat:Int)))
 |.andNot=>some (.int k (k.wrap ((BitVec.ofInt k.bits a &&& ~~~BitVec.ofInt k.bits b).toNat:Int)))
 |.eql=>some (.bool (a==b))
 |.neq=>some (.bool (a != b))
 |.lss=>some (.bool (decide (a<b)))
 |.leq=>some (.bool (decide (a<=b)))
 |.gtr=>some (.bool (decide (a > b)))
 |.geq=>some (.bool (decide (a ≥ b)))
 |_=>none
def KX (op:BinOp)(a b:List UInt8):Option AV :=
 match op with
 |.add=>if a.length+b.length<=9223372036854775807 then some (.str (a++b)) else none
 |.eql=>some (.bool (a==b))
 |.neq=>some (.bool (!(a==b)))
 |.lss=>some (.bool (Op.bytesLess a b))
 |.leq=>some (.bool (Op.bytesLess a b || a==b))
 |.gtr=>some (.bool (!(Op.bytesLess a b || a==b)))
 |.geq=>some (.bool (!Op.bytesLess a b))
 |_=>none
def Zdv (g:TypeDesc)(x y:AV):Option Bool :=
 match g,x,y with
 |.bool,.bool a,.bool b=>some (a==b)
 |.int _,.int k a,.int k' b=>if k=k' then some (a==b) else none
 |.string,.str a,.str b=>some (a==b)
 |.pointer _,.nilp,.nilp=>some true
 |.pointer _,.nilp,.ptr _ _=>some false
 |.pointer _,.nilp,.vp _=>some false
 |.pointer _,.ptr _ _,.nilp=>some false
 |.pointer _,.nilp,.wp _ _ _=>some false
 |.pointer _,.wp _ _ _,.nilp=>some false
 |.pointer _,.vp _,.nilp=>some false
 |.slice _,.nils,.nils=>some true
 |.slice _,.nils,.vs _ _ _=>some false
 |.slice _,.nils,.rs _ _ _ _ _ _=>some false
 |.slice _,.nils,.ws _ _ _ _ _=>some false
 |.slice _,.ws _ _ _ _ _,.nils=>some false
 |.slice _,.vs _ _ _,.nils=>some false
 |.slice _,.rs _ _ _ _ _ _,.nils=>some false
 |.map _ _,.nilm,.nilm=>some true
 |.map _ _,.nilm,.map _=>some false
 |.map _ _,.map _,.nilm=>some false
 |.func _ _ _,.nilf,.nilf=>some true
 |.func _ _ _,.nilf,.fn _ _ _=>some false
 |.func _ _ _,.fn _ _ _,.nilf=>some false
 |_,_,_=>none
def Ru (P:Program)(rec:TypeId->AV->AV->Option Bool)(xs ys:List AV):List Field->Option Bool
 |[]=>some true
 |f::fs =>
  if f.name ≠ "_" then
   match Xr P f.type,Xe P f.type with
   |some g,some sz=>match apart g sz xs f.offset,apart g sz ys f.offset with
    |some u,some v=>match rec f.type u v with
     |some true=>Ru P rec xs ys fs
     |r=>r
    |_,_=>none
   |_,_=>none
  else Ru P rec xs ys fs
def Sx (h:AV->AV->Option Bool)(g:Bool)(sz:Nat)(xs j:List AV):List Nat->Option Bool
 |[]=>some true
 |i::is=>match apart g sz xs (i*sz),apart g sz j (i*sz) with
  |some u,some v=>match h u v with
   |some true=>Sx h g sz xs j is
   |r=>r
  |_,_=>none
def HU (P:Program)(ok:TypeId->Bool):Nat->TypeId->AV->AV->Option Bool
 |0,_,_,_=>none
 |d+1,t,x,y =>
  match P.underlying t with
  |some (.struct fs)=>match x,y with
   |.agg xs,.agg ys=>if ok t then Ru P (HU P ok d) xs ys fs.toList else none
   |_,_=>none
  |some (.array n e)=>match x,y with
   |.agg xs,.agg ys=>if ok t then (match Xr P e,Xe P e with
    |some g,some sz=>Sx (HU P ok d e) g sz xs ys (zX n)
    |_,_=>none) else none
   |_,_=>none
  |some h=>Zdv h x y
  |none=>none
def NZ (P:Program)(ok:TypeId->Bool)(op:BinOp)(t:TypeId)(x y:AV):Option AV :=
 match op with
 |.eql=>match HU P ok 20 t x y with
  |some b=>some (.bool b)
  |none=>none
 |.neq=>match HU P ok 20 t x y with
  |some b=>some (.bool (!b))
  |none=>none
 |_=>none
def XB (op:BinOp)(k k':IntKind)(a b:Int):Option AV :=
 match op with
 |.shl=>if b<0 then none else some (.int k (k.wrap (a*2 ^ (min b.toNat k.bits))))
 |.shr=>if b<0 then none else some (.int k (a.fdiv (2 ^ (min b.toNat k.bits))))
 |op=>if k=k' then XF op k a b else none
def Z5 (op:BinOp)(x y:AV):Option AV :=
 match x,y with
 |.int k a,.int k' b=>XB op k k' a b
 |_,_=>none
def YR (op:BinOp)(x y:AV):Option AV :=
 match x,y with
 |.str a,.str b=>KX op a b
 |_,_=>none
def Yr (d:TypeDesc)(op:BinOp)(x y:AV):Option AV :=
 match op with
 |.eql=>match Zdv d x y with
  |some b=>some (.bool b)
  |none=>none
 |.neq=>match Zdv d x y with
  |some b=>some (.bool (!b))
  |none=>none
 |_=>none
def Zuu (P:Program)(ok:TypeId->Bool)(op:BinOp)(t:TypeId)(x y:AV):Option AV :=
 match P.underlying t with
 |some (.int _)=>Z5 op x y
 |some .string=>YR op x y
 |some (.struct _)=>NZ P ok op t x y
 |some (.array _ _)=>NZ P ok op t x y
 |some d=>Yr d op x y
 |none=>none
def ZgT (P:Program)(t:TypeId):Bool :=
 match P.underlying t with
 |some (.interface _)=>true
 |_=>false
def Zyr (P:Program)(t:TypeId)(x:AV):Option AV :=
 match P.underlying t with
 |some (.interface _)=>none
 |some _=>some (.iface t x)
 |none=>none
def Zyw (P:Program)(ok:Bool)(t:TypeId)(z:AV)(x:AV):Option AV :=
 match P.underlying t with
 |some (.interface _)=>none
 |some _=>match x with
  |.iface t' v=>if t'=t then some (if ok then .tuple [v,.bool true] else v) else if ok then some (.tuple [z,.bool false]) else none
  |.nili=>if ok then some (.tuple [z,.bool false]) else none
  |_=>none
 |none=>none
def ZqS (P:Program)(t:TypeId)(name:String):Option FuncId :=
 match P.info? t,P.underlying t with
 |some i,some (.pointer _)=>match i.methods.find? (·.name==name) with
  |some m=>match m.path.toList,m.func with
   |[],some (f,true)=>some f
   |_,_=>none
  |none=>none
 |_,_=>none
def ZeP (x y:Operand):Bool :=
 match x,y with
 |.const _,_=>true
 |_,.const _=>true
 |_,_=>false
def Zjo:AV->AV->Option Bool
 |.nili,.nili=>some true
 |.nili,.iface _ _=>some false
 |.iface _ _,.nili=>some false
 |_,_=>none
def Zi3 (op:BinOp)(x y:AV):Option AV :=
 match op with
 |.eql=>match Zjo x y with
  |some b=>some (.bool b)
  |none=>none
 |.neq=>match Zjo x y with
  |some b=>some (.bool (!b))
  |none=>none
 |_=>none
def XL (op:UnOp)(x:AV):Option AV :=
 match op,x with
 |.not,.bool b=>some (.bool (!b))
 |.neg,.int k n=>some (.int k (k.wrap (0-n)))
 |.xor,.int k n=>XF .xor k (if k.signed then -1 else k.max) n
 |_,_=>none
def YS:List (Nat×Nat×AV)->List AV->Option (List AV)
 |[],cells=>some cells
 |(off,size,v)::rest,cells=>if v.known=true/\v.cells.length=size/\off+size<=cells.length then YS rest (splice cells off v.cells) else none
def ZlJ (P:Program)(t:TypeId)(parts:List (Nat×AV)):Option AV :=
 match Jr P t,P.underlying t with
 |some (.agg zero),some (.struct fs) =>
  match fs.toList.mapM fun f=>(Xe P f.type).map (f.offset,·) with
  |some g=>match parts.mapM fun p=>(g[p.1]?).map fun (q:Nat×Nat)=>(q.1,q.2,p.2) with
   |some h=>(YS h zero).map .agg
   |none=>none
  |none=>none
 |some (.agg zero),some (.array _ e)=>match Xe P e with
  |some size=>(YS (parts.map fun p=>(p.1*size,size,p.2)) zero).map .agg
  |none=>none
 |_,_=>none
def ZB (size:Nat):List (Nat×AV)->List AV->Option (List AV)
 |[],l=>some l
 |(i,v)::rest,l=>if v.known=true/\v.cells.length=size/\i<l.length then ZB size rest (l.set i v) else none
def Zjn (P:Program)(t:TypeId)(len:Nat)(parts:List (Nat×AV)):Option AV :=
 match ZeR P t with
 |some e=>match Xe P e,Jr P e with
  |some size,some z=>if len*size<=16777216/\z.known=true/\z.cells.length=size/\0<size then (ZB size parts (zG len z)).map (.vs size .clip) else none
  |_,_=>none
 |none=>none
def X8 (x:AV)(y:Nat):Option Nat :=
 match x with
 |.int _ n=>if 0<=n/\n<=y then some n.toNat else none
 |_=>none
def Ys (len cap:Nat)(lo hi mx:Option AV):Option (Nat×Nat×Nat) :=
 match (match mx with|some v=>X8 v cap|none=>some cap) with
 |none=>none
 |some m=>match (match hi,mx with|some v,_=>X8 v m|none,none=>some len|none,some _=>none) with
  |none=>none
  |some h=>match (match lo with|some v=>X8 v h|none=>some 0) with
   |none=>none
   |some l=>some (l,h,m)
def GW (s:List UInt8)(lo hi:Option AV):Option AV :=
 match Ys s.length s.length lo hi none with
 |some (l,h,_)=>some (.str ((s.take h).drop l))
 |none=>none
def Yg (size:Nat)(x:AV)(lo hi mx:Option AV):Option AV :=
 match x with
 |.nils=>match Ys 0 0 lo hi mx with
  |some _=>some .nils
  |none=>none
 |.vs k tok l=>if k=size then match Ys l.length l.length lo hi mx with
  |some (a,h,m)=>some (.vs k (match mx with
   |some _=>if h=m then .clip else .no
   |none=>if h=l.length then tok else .no) ((l.take h).drop a))
  |none=>none else none
 |.rs ag k o off len cap=>match Ys len cap lo hi mx with
  |some (a,h,m)=>some (.rs ag k o (if m=a then off else off+a*size) (h-a) (m-a))
  |none=>none
 |.ws ag k o e len=>match lo,hi,mx with
  |none,some v,none=>match X8 v len with
   |some h=>if k=size then some (.ws ag k o e h) else none
   |none=>none
  |_,_,_=>none
 |_=>none
def UJ (ag:Bool)(k:Nat):Nat->List AV->List AV
 |0,_=>[]
 |n+1,l=>(if ag then .agg (l.take k) else l.headD .undef)::UJ ag k n (l.drop k)
def elems (k:Nat)(x:AV)(H:Hp):Option (List AV) :=
 match x with
 |.nils=>some []
 |.vs k' _ l=>if k'=k then some l else none
 |.str s=>if k=1 then some (s.map fun b=>.int .u8 b.toNat) else none
 |.rs ag k' o off len _=>if k'=k/\(ag=true\/k=1) then match H[o]? with
  |some (.cells cs)=>if off+len*k<=cs.length then some (UJ ag k len (cs.drop off)) else none
  |_=>none else none
 |.ws ag k' o e len=>if k'=k/\(ag=true\/k=1) then match H[o]? with
  |some (.row e' cs)=>if e'=e/\len*k<=cs.length then some (UJ ag k len cs) else none
  |_=>none else none
 |_=>none
def Wn:TypeDesc->AV->Bool
 |.bool,.bool _=>true
 |.int k,.int k' _=>decide (k'=k)
 |.string,.str _=>true
 |_,_=>false
def JC:AV->AV->Option Bool
 |.int k a,.int k' b=>if k=k' then some (a==b) else none
 |.str a,.str b=>some (a==b)
 |.bool a,.bool b=>some (a==b)
 |_,_=>none
def YT (k:AV):List (AV×AV×Nat)->Nat->Option (Option (Nat×AV))
 |[],_=>some none
 |e::es,i=>match JC k e.1 with
  |some true=>some (some (i,e.2.1))
  |some false=>YT k es (i+1)
  |none=>none
def DJ (P:Program)(t:TypeId):Option (TypeDesc×TypeId) :=
 match P.underlying t with
 |some (.map k e)=>match P.underlying k with
  |some d=>some (d,e)
  |none=>none
 |_=>none
def Xk (x:AV)(H:Hp):Option (List (AV×AV×Nat)) :=
 match x with
 |.nilm=>some []
 |.map o=>match H[o]? with
  |some (.map es _)=>some es
  |_=>none
 |_=>none
def Y7 (d:TypeDesc)(z:AV)(g:Bool)(x k:AV)(H:Hp):Option AV :=
 if Wn d k then match Xk x H with
  |some h=>match YT k h 0 with
   |some (some (_,v))=>some (if g then .tuple [v,.bool true] else v)
   |some none=>some (if g then .tuple [z,.bool false] else z)
   |none=>none
  |none=>none else none
def Xw (d:TypeDesc)(m k v:AV)(H:Hp):Option (AV×Hp) :=
 match m with
 |.map o=>match H[o]? with
  |some (.map es c)=>if Wn d k then match YT k es 0 with
   |some (some (i,_))=>some (.tuple [],H.set o (.map (es.set i (k,v,(es.getD i (.undef,.undef,0)).2.2)) c))
   |some none=>some (.tuple [],H.set o (.map (es++[(k,v,c)]) (c+1)))
   |none=>none else none
  |_=>none
 |_=>none
def K1 (x:AV)(H:Hp):Option AV :=
 match Xk x H with
 |some g=>some (.int .i64 g.length)
 |none=>none
def Jz (d:TypeDesc)(m k:AV)(H:Hp):Option (AV×Hp) :=
 match m with
 |.map o=>match H[o]? with
  |some (.map es c)=>if Wn d k then match YT k es 0 with
   |some (some (i,_))=>some (.tuple [],H.set o (.map (es.eraseIdx i) c))
   |some none=>some (.tuple [],H.set o (.map es c))
   |none=>none else none
  |_=>none
 |_=>none
def Xg (n bytes:Nat):Bool:=decide (n*(bytes+1)<=140737488355328)
def YN (k bytes:Nat)(s:AV)(xs:List AV)(H:Hp):Option (AV×Hp) :=
 match s with
 |.nils=>if xs=[] then some (.nils,H)
  else if Xg xs.length bytes then some (.vs k (.own H.length xs.length) xs,H++[.tok xs.length]) else none
 |.vs k' tok l =>
  if k'=k/\Xg (l.length+xs.length) bytes then
   if xs=[] then some (.vs k tok l,H) else
   match tok with
   |.clip=>some (.vs k (.own H.length (l.length+xs.length)) (l++xs),H++[.tok (l.length+xs.length)])
   |.own t e=>match H[t]? with
    |some (.tok e')=>if e'=e then some (.vs k (.own t (e+xs.length)) (l++xs),H.set t (.tok (e+xs.length))) else none
    |_=>none
   |.no=>none
  else none
 |_=>none
def Zq8 (n:Nat)(l:List AV):List AV:=if l.length<=n then l else l.take n
theorem Zju (n:Nat)(l:List AV):Zq8 n l=l.take n:=by
 unfold Zq8;split
 ·rw[List.take_of_length_le (by assumption)]
 ·rfl
def FM (ag:Bool)(k bytes:Nat)(s:AV)(xs:List AV)(H:Hp):Option (AV×Hp) :=
 match s with
 |.nils=>if xs=[] then some (.nils,H)
  else if Xg xs.length bytes then some (.ws ag k H.length 0 xs.length,H++[.row 0 (xs.map AV.cells).flatten]) else none
 |.vs k' .clip l =>
  if k'=k/\Xg (l.length+xs.length) bytes then
   if xs=[] then some (.vs k .clip l,H) else some (.ws ag k H.length 0 (l.length+xs.length),H++[.row 0 ((l++xs).map AV.cells).flatten])
  else none
 |.ws ag' k' o e len =>
  if ag'=ag/\k'=k/\Xg (len+xs.length) bytes then
   if xs=[] then some (.ws ag k o e len,H) else
   match H[o]? with
   |some (.row e' l)=>if e'=e/\len*k<=l.length then some (.ws ag k o (e+1) (len+xs.length),H.set o (.row (e+1) (Zq8 (len*k) l++(xs.map AV.cells).flatten))) else none
   |_=>none
  else none
 |_=>YN k bytes s xs H
def HT (k:Nat)(d x:AV)(H:Hp):Option (AV×Hp) :=
 match elems k x H with
 |some xs=>match d with
  |.nils=>if xs=[] then some (.int .i64 0,H) else none
  |.vs _ _ _=>if xs=[] then some (.int .i64 0,H) else none
  |.rs _ k' o off len _=>if xs=[] then some (.int .i64 0,H) else if k'=k/\xs.length<=len then match H[o]? with
   |some (.cells cs)=>if off+xs.length*k<=cs.length then some (.int .i64 xs.length,H.set o (.cells (splice cs off (xs.map AV.cells).flatten))) else none
   |_=>none else none
  |_=>none
 |none=>none
def K2 (k bytes:Nat)(ag:Bool)(z:AV)(len cap:AV)(H:Hp):Option (AV×Hp) :=
 match len,cap with
 |.int .i64 n,.int .i64 c =>
  if 0<=n/\n<=c/\z.known=true/\z.cells.length=k/\0<k/\Xg c.toNat bytes then
   if n=0 then some (.vs k (.own H.length 0) [],H++[.tok 0])
   else some (.rs ag k H.length 0 n.toNat c.toNat,H++[.cells ((zG c.toNat z.cells).flatten)])
  else none
 |_,_=>none
def Zk (d:TypeDesc)(x:AV):Option AV :=
 match d with
 |.string=>match x with
  |.str s=>some (.int .i64 s.length)
  |_=>none
 |.array n _=>some (.int .i64 n)
 |.slice _=>match x with
  |.nils=>some (.int .i64 0)
  |.vs _ _ l=>some (.int .i64 l.length)
  |.rs _ _ _ _ len _=>some (.int .i64 len)
  |.ws _ _ _ _ len=>some (.int .i64 len)
  |_=>none
 |_=>none
def ZlN (P:Program)(t:TypeId)(x:AV):Option AV :=
 match P.underlying t with
 |some d=>Zk d x
 |none=>none
def VN:AV->AV->Option AV
 |.int k x,.int k' y=>if k=k' then some (.int k (if y<x then y else x)) else none
 |_,_=>none
def Qr:AV->AV->Option AV
 |.int k x,.int k' y=>if k=k' then some (.int k (if y > x then y else x)) else none
 |_,_=>none
def Vd:List AV->Option (List UInt8)
 |[]=>some []
 |.int .u8 n::r=>match Vd r with
  |some l=>some (zO n.toNat::l)
  |none=>none
 |_=>none
def Yq (k:IntKind)(x:AV):Option AV :=
 match x with
 |.int _ n=>some (.int k (k.wrap n))
 |_=>none
def ZwV (x:AV):Option AV :=
 match x with
 |.str s=>some (.str s)
 |_=>none
def JK (x:AV):Option AV :=
 match x with
 |.nils=>some (.str [])
 |.vs k _ l=>if k=1 then match Vd l with
  |some s=>some (.str s)
  |none=>none else none
 |_=>none
def Zkc (x:AV):Option AV :=
 match x with
 |.str s=>some (.vs 1 .no (s.map fun b=>.int .u8 b.toNat))
 |_=>none
def Zed:Option TypeDesc->Bool
 |some (.int .u8)=>true
 |_=>false
def ZhJ (P:Program)(j:TypeId->Bool)(h g:TypeId)(x:AV):Option AV :=
 match P.underlying h,P.underlying g with
 |some (.int _),some (.int k)=>Yq k x
 |some .string,some .string=>ZwV x
 |some (.slice e),some .string=>if Zed (P.underlying e) then JK x else none
 |some .string,some (.slice e)=>if Zed (P.underlying e) then (if j g then none else Zkc x) else none
 |_,_=>none
def Zi (c a b:AV):Option AV :=
 match c with
 |.bool t=>some (if t then a else b)
 |_=>none
def Zu (x:AV):Option AV :=
 match x with
 |.ptr o off=>some (.ptr o off)
 |.vp cs=>some (.vp cs)
 |.wp o e off=>some (.wp o e off)
 |_=>none
def Y8 (x:AV)(lo hi mx:Option AV):Option AV :=
 match x,mx with
 |.str s,none=>GW s lo hi
 |_,_=>none
def EM (g:Bool)(sz off:Nat)(x:AV):Option AV :=
 match x with
 |.agg cs=>apart g sz cs off
 |_=>none
def ZL (x:AV)(i:Nat):Option AV :=
 match x with
 |.tuple l=>l[i]?
 |_=>none
def ZT (C:Cfg)(ev:Operand->AV):Op->Option AV
 |.move x|.assign x=>some (ev x)
 |.pick c a b=>Zi (ev c) (ev a) (ev b)
 |.build t parts=>ZlJ C.P t (parts.toList.map fun p=>(p.1,ev p.2))
 |.buildSlice t len parts=>Zjn C.P t len (parts.toList.map fun p=>(p.1,ev p.2))
 |.load t a=>match Xr C.P t,Xe C.P t with
  |some g,some sz=>Jy g sz (ev a)
  |_,_=>none
 |.nilCheck x=>Zu (ev x)
 |.binOp op t x y _=>if ZgT C.P t then (if ZeP x y then Zi3 op (ev x) (ev y) else none) else Zuu C.P C.eqok op t (ev x) (ev y)
 |.unOp op _ x=>XL op (ev x)
 |.convert s d x=>ZhJ C.P C.wrb s d (ev x)
 |.makeFunc (.func f) first captured=>some (.fn (.func f) (first.toList.map ev) (captured.toList.map ev))
 |.slice t x lo hi mx=>match C.P.underlying t with
  |some .string=>Y8 (ev x) (lo.map ev) (hi.map ev) (mx.map ev)
  |some (.slice e)=>match Xe C.P e with
   |some size=>Yg size (ev x) (lo.map ev) (hi.map ev) (mx.map ev)
   |none=>none
  |_=>none
 |.fieldAddr t x f=>match Ol C.P t f with
  |some h=>match Xe C.P h.type with
   |some sz=>if 0<sz then Z6 h.offset (ev x) else none
   |none=>none
  |none=>none
 |.field t x f=>match Ol C.P t f with
  |some h=>match Xr C.P h.type,Xe C.P h.type with
   |some g,some sz=>EM g sz h.offset (ev x)
   |_,_=>none
  |none=>none
 |.indexAddr t x i=>match C.P.underlying t with
  |some (.slice e)=>match Xe C.P e with
   |some size=>Zo size (ev x) (ev i)
   |none=>none
  |some (.array len e)=>match Xe C.P e with
   |some size=>WO len size (ev x) (ev i)
   |none=>none
  |_=>none
 |.index t x i=>match C.P.underlying t with
  |some .string=>Zx (ev x) (ev i)
  |some (.array len e)=>match Xr C.P e,Xe C.P e with
   |some g,some size=>Zdx g len size (ev x) (ev i)
   |_,_=>none
  |_=>none
 |.extract t i=>ZL (ev t) i
 |.makeInterface t x=>Zyr C.P t (ev x)
 |.typeAssert x _ t ok=>match Jr C.P t with
  |some z=>Zyw C.P ok t z (ev x)
  |none=>none
 |.call { callee:=.builtin .len,args,argTypes }=>match args.toList,argTypes.toList with
  |[x],[t]=>ZlN C.P t (ev x)
  |_,_=>none
 |.call { callee:=.builtin .min,args,.. }=>match args.toList with
  |[x,y]=>VN (ev x) (ev y)
  |_=>none
 |.call { callee:=.builtin .max,args,.. }=>match args.toList with
  |[x,y]=>Qr (ev x) (ev y)
  |_=>none
 |_=>none
abbrev ZF:=FuncId->List AV->Hp->Option (AV×Hp)
def Ze (H:Hp)(n:Nat):Nat->AV->Option AV
 |0,_=>none
 |f+1,a=>match a with
  |.ptr o off=>if o<n then some (.ptr o off) else none
  |.map o=>if o<n then some (.map o) else none
  |.vp cells=>match cells.mapM (Ze H n f) with
   |some l=>some (.vp l)
   |none=>none
  |.vs k tok l=>match l.mapM (Ze H n f) with
   |some l=>some (.vs k (match tok with|.own t e=>if t<n then .own t e else .no|tok=>tok) l)
   |none=>none
  |.rs ag k o off len cap=>if o<n then some (.rs ag k o off len cap) else
   match elems k (.rs ag k o off len cap) H with
   |some l=>match l.mapM (Ze H n f) with
    |some l=>some (.vs k .no l)
    |none=>none
   |none=>none
  |.ws ag k o e len=>if o<n then some (.ws ag k o e len) else
   match elems k (.ws ag k o e len) H with
   |some l=>match l.mapM (Ze H n f) with
    |some l=>some (.vs k .no l)
    |none=>none
   |none=>none
  |.wp o e off=>if o<n then some (.wp o e off) else none
  |.fn fn a b=>match a.mapM (Ze H n f),b.mapM (Ze H n f) with
   |some a,some b=>some (.fn fn a b)
   |_,_=>none
  |.iface t v=>match Ze H n f v with
   |some v=>some (.iface t v)
   |none=>none
  |.agg l=>match l.mapM (Ze H n f) with
   |some l=>some (.agg l)
   |none=>none
  |.tuple l=>match l.mapM (Ze H n f) with
   |some l=>some (.tuple l)
   |none=>none
  |a=>some a
def Zbk (g:List AV->Option AV)(args:List AV)(H:List AObj):Option (AV×List AObj) :=
 match g args with
 |some v=>some (v,H)
 |none=>none
def FQ:Nat->AV->Bool
 |_,.bool _=>true
 |_,.int _ _=>true
 |_,.str _=>true
 |_,.nilp=>true
 |_,.nils=>true
 |_,.nilm=>true
 |_,.nilf=>true
 |_,.nili=>true
 |n+1,.agg l=>l.all (FQ n)
 |n+1,.tuple l=>l.all (FQ n)
 |_,_=>false
def Zh (call:List AV->Hp->Option (AV×Hp))(args:List AV)(H:Hp):Option (AV×Hp) :=
 match args.mapM (Ze [] 0 9) with
 |some args'=>match call args' [] with
  |some (v,H1)=>match Ze H1 0 9 v with
   |some v'=>some (v',H)
   |none=>none
  |none=>none
 |none=>none
mutual
def AV.eqb:AV->AV->Bool
 |.undef,.undef=>true
 |.bool a,.bool b=>a==b
 |.int k a,.int k' b=>decide (k=k')&&decide (a=b)
 |.str a,.str b=>decide (a=b)
 |.nilp,.nilp=>true
 |.ptr o f,.ptr o' f'=>zC o o'&&zC f f'
 |.vp a,.vp b=>AV.eqbL a b
 |.nils,.nils=>true
 |.vs k t l,.vs k' t' l'=>zC k k'&&decide (t=t')&&AV.eqbL l l'
 |.rs g k o f n c,.rs g' k' o' f' n' c'=>g==g'&&zC k k'&&zC o o'&&zC f f'&&zC n n'&&zC c c'
 |.ws g k o e n,.ws g' k' o' e' n'=>g==g'&&zC k k'&&zC o o'&&zC e e'&&zC n n'
 |.wp o e f,.wp o' e' f'=>zC o o'&&zC e e'&&zC f f'
 |.nilm,.nilm=>true
 |.map o,.map o'=>zC o o'
 |.nilf,.nilf=>true
 |.fn f a b,.fn f' a' b'=>decide (f=f')&&AV.eqbL a a'&&AV.eqbL b b'
 |.nili,.nili=>true
 |.iface t v,.iface t' v'=>zC t t'&&AV.eqb v v'
 |.agg l,.agg l'=>AV.eqbL l l'
 |.tuple l,.tuple l'=>AV.eqbL l l'
 |_,_=>false
def AV.eqbL:List AV->List AV->Bool
 |[],[]=>true
 |a::l,b::m=>AV.eqb a b&&AV.eqbL l m
 |_,_=>false
end
def ZdI:List (AV×AV×Nat)->List (AV×AV×Nat)->Bool
 |[],[]=>true
 |(a,b,n)::l,(a',b',n')::m=>AV.eqb a a'&&AV.eqb b b'&&zC n n'&&ZdI l m
 |_,_=>false
def AObj.eqb:AObj->AObj->Bool
 |.cells a,.cells b=>AV.eqbL a b
 |.bld T u l,.bld T' u' l'=>zC T T'&&zC u u'&&decide (l=l')
 |.tok e,.tok e'=>zC e e'
 |.row e l,.row e' l'=>zC e e'&&AV.eqbL l l'
 |.map es c,.map es' c'=>ZdI es es'&&zC c c'
 |.siter s p,.siter s' p'=>decide (s=s')&&zC p p'
 |.dead,.dead=>true
 |.free,.free=>true
 |_,_=>false
def ZdJ:Hp->Hp->Bool
 |[],[]=>true
 |a::l,b::m=>AObj.eqb a b&&ZdJ l m
 |_,_=>false
mutual
theorem AV.eqb_eq:∀ (a b:AV),AV.eqb a b=true->a=b
 |a,b,h=>by
  unfold AV.eqb at h;split at h
  all_goals first
   |rfl
   |cases h;done
   |skip
  ·rw[beq_iff_eq]at h;rw[h]
  ·simp only[zB,decide_eq_true_eq]at h;rw[h.1,h.2]
  ·rw[decide_eq_true_eq]at h;rw[h]
  ·simp only[zB,zJ]at h;rw[h.1,h.2]
  ·rw[AV.eqbL_eq _ _ h]
  ·simp only[zB,zJ,decide_eq_true_eq]at h;rw[h.1.1,h.1.2,AV.eqbL_eq _ _ h.2]
  ·simp only[zB,zJ,beq_iff_eq]at h;obtain⟨⟨⟨⟨⟨rfl,rfl⟩,rfl⟩,rfl⟩,rfl⟩,rfl⟩:=h;rfl
  ·simp only[zB,zJ,beq_iff_eq]at h;obtain⟨⟨⟨⟨rfl,rfl⟩,rfl⟩,rfl⟩,rfl⟩:=h;rfl
  ·simp only[zB,zJ]at h;obtain⟨⟨rfl,rfl⟩,rfl⟩:=h;rfl
  ·rw[zJ]at h;rw[h]
  ·simp only[zB,decide_eq_true_eq]at h;rw[h.1.1,AV.eqbL_eq _ _ h.1.2,AV.eqbL_eq _ _ h.2]
  ·simp only[zB,zJ]at h;rw[h.1,AV.eqb_eq _ _ h.2]
  ·rw[AV.eqbL_eq _ _ h]
  ·rw[AV.eqbL_eq _ _ h]
theorem AV.eqbL_eq:∀ (a b:List AV),AV.eqbL a b=true->a=b
 |[],[],_=>rfl
 |a::l,b::m,h=>by
  simp only[AV.eqbL,zB]at h;rw[AV.eqb_eq _ _ h.1,AV.eqbL_eq _ _ h.2]
 |[],_::_,h=>by simp[AV.eqbL]at h
 |_::_,[],h=>by simp[AV.eqbL]at h
end
theorem Zp6:∀ a b,ZdI a b=true->a=b
 |[],[],_=>rfl
 |(a,b,n)::l,(a',b',n')::m,h=>by
  simp only[ZdI,zB,zJ]at h;rw[AV.eqb_eq _ _ h.1.1.1,AV.eqb_eq _ _ h.1.1.2,h.1.2,Zp6 _ _ h.2]
 |[],_::_,h=>by simp[ZdI]at h
 |_::_,[],h=>by simp[ZdI]at h
theorem AObj.eqb_eq (a b:AObj)(h:AObj.eqb a b=true):a=b:=by
 unfold AObj.eqb at h;split at h
 all_goals first
  |rfl
  |cases h;done
  |skip
 ·rw[AV.eqbL_eq _ _ h]
 ·simp only[zB,zJ,decide_eq_true_eq]at h;obtain⟨⟨rfl,rfl⟩,rfl⟩:=h;rfl
 ·rw[zJ]at h;rw[h]
 ·simp only[zB,zJ]at h;rw[h.1,AV.eqbL_eq _ _ h.2]
 ·simp only[zB,zJ]at h;rw[Zp6 _ _ h.1,h.2]
 ·simp only[zB,zJ,decide_eq_true_eq]at h;rw[h.1,h.2]
theorem Zjx:∀ a b,ZdJ a b=true->a=b
 |[],[],_=>rfl
 |a::l,b::m,h=>by
  simp only[ZdJ,zB]at h;rw[AObj.eqb_eq _ _ h.1,Zjx _ _ h.2]
 |[],_::_,h=>by simp[ZdJ]at h
 |_::_,[],h=>by simp[ZdJ]at h
mutual
theorem AV.eqb_refl:∀ (a:AV),AV.eqb a a=true
 |.undef|.nilp|.nils|.nilm|.nilf|.nili=>by simp[AV.eqb]
 |.bool _|.int _ _|.str _|.ptr _ _|.rs _ _ _ _ _ _|.ws _ _ _ _ _|.wp _ _ _|.map _=>by simp[AV.eqb]
 |.vp l|.agg l|.tuple l=>by simp[AV.eqb,AV.eqbL_refl l]
 |.vs _ _ l=>by simp[AV.eqb,AV.eqbL_refl l]
 |.fn _ a b=>by simp[AV.eqb,AV.eqbL_refl a,AV.eqbL_refl b]
 |.iface _ v=>by simp[AV.eqb,AV.eqb_refl v]
theorem AV.eqbL_refl:∀ (a:List AV),AV.eqbL a a=true
 |[]=>by simp[AV.eqbL]
 |a::l=>by simp[AV.eqbL,AV.eqb_refl a,AV.eqbL_refl l]
end
theorem Zke:∀ a,ZdI a a=true
 |[]=>rfl
 |(a,b,n)::l=>by simp[ZdI,AV.eqb_refl a,AV.eqb_refl b,Zke l]
theorem AObj.eqb_refl (a:AObj):AObj.eqb a a=true:=by
 cases a <;> simp[AObj.eqb,AV.eqbL_refl,Zke]
theorem ZdK:∀ a,ZdJ a a=true
 |[]=>rfl
 |a::l=>by simp[ZdJ,AObj.eqb_refl a,ZdK l]
def JQ (call:List AV->Hp->Option (AV×Hp))(args:List AV)(H:Hp):Option (AV×Hp) :=
 match call args H with
 |some (v,H1)=>if ZdJ (H1.take H.length) H then match Ze H1 H.length 9 v with
  |some v'=>some (v',H)
  |none=>none else none
 |none=>none
def Xz (C:Cfg)(call:ZF)(id:FuncId)(args:List AV)(H:Hp):Option (AV×Hp) :=
 match C.ext id with
 |some e=>Zay e args H
 |none=>match C.sum id with
  |some g=>Zbk g args H
  |none=>match C.eff id with
  |some g=>g.run args H
  |none=>if C.user id then (if C.flat id then Zh (call id) args H else if C.ro id then JQ (call id) args H else call id args H) else none
def Yf (C:Cfg)(call:ZF)(f:AV)(args:List AV)(H:Hp):Option (AV×Hp) :=
 match f with
 |.fn (.func id) first captured=>Xz C call id (first++args++captured) H
 |_=>none
def ZeX (C:Cfg)(f:FuncId):Bool:=(C.ext f).isSome || (C.sum f).isSome || (C.user f&&C.flat f&&(C.eff f).isNone)
def qC (C:Cfg)(g:AV->List AV->Hp->Option (AV×Hp))(f:AV)(args:List AV)(H:Hp):Option (AV×Hp) :=
 match f with
 |.fn (.func id) first captured=>if ZeX C id then g (.fn (.func id) first captured) args H else none
 |_=>none
def XA (C:Cfg)(call:ZF):AV->List AV->Hp->Option (AV×Hp):=qC C (Yf C call)
def Zzh:Operand->Nat
 |.tmp i=>i
 |_=>0
def Zb7 (C:Cfg)(f:Operand)(args:Array Operand):Bool :=
 match f with
 |.tmp t=>C.qk t (args.toList.map Zzh)
 |_=>false
def ZQ (x:AV)(H:Hp):Option (AV×Hp):=if x.known then some (.ptr H.length 0,H++[.cells x.cells]) else none
def stC (C:Cfg):Op->Nat
 |.store t (.tmp a) (.tmp x)=>C.rst t a x
 |_=>0
def stV (k:Nat)(a:AV):Bool :=
 match k with
 |0=>true
 |1=>match a with|.wp _ _ _=>true|_=>false
 |_=>match a with|.ptr _ _=>true|_=>false
def Za (sz:Nat)(a v:AV)(H:Hp):Option (AV×Hp) :=
 match YX sz a v H with
 |some H'=>some (.tuple [],H')
 |none=>none
def Y9 (k bytes:Nat)(s x:AV)(H:Hp):Option (AV×Hp) :=
 match elems k x H with
 |some xs=>YN k bytes s xs H
 |none=>none
def GV (ag:Bool)(k bytes:Nat)(s x:AV)(H:Hp):Option (AV×Hp) :=
 match elems k x H with
 |some xs=>FM ag k bytes s xs H
 |none=>none
def Zyy:AV->Bool
 |.agg [.nilp,.nils]=>true
 |_=>false
def ZzK (C:Cfg)(e:TypeId):Option Bool:=if C.lin e then Xr C.P e else none
def Zul (P:Program)(e:TypeId)(k:Nat):Bool :=
 match Jr P e with
 |some z=>z.known&&z.cells.length==k
 |none=>false
def Xi:TypeDesc->Bool
 |.slice _|.string=>true
 |_=>false
def JB (x:AV)(H:Hp):Option (List AV) :=
 match x with
 |.str _=>none
 |x=>elems 1 x H
def B1 (x:AV)(H:Hp):Option (AV×Hp) :=
 match JB x H with
 |some l=>match Vd l with
  |some s=>some (.str s,H)
  |none=>none
 |none=>none
def Zak (x:AV)(H:Hp):Option (AV×Hp) :=
 match x with
 |.str s=>some (.ws false 1 H.length 0 s.length,H++[.row 0 (s.map fun b=>.int .u8 b.toNat)])
 |_=>none
def ZlM (C:Cfg)(call:ZF)(x:AV)(name:String)(args:List AV)(H:Hp):Option (AV×Hp) :=
 match x with
 |.iface t v=>match ZqS C.P t name with
  |some f=>Yf C call (.fn (.func f) [v] []) args H
  |none=>none
 |_=>none
def ZE (C:Cfg)(call:ZF)(ev:Operand->AV)(H:Hp):Op->Option (AV×Hp)
 |.alloc e=>match Jr C.P e with
  |some z=>match C.bld e with
   |some u=>if Zyy z&&e != u then some (.ptr H.length 0,H++[.bld e u []]) else none
   |none=>if z.known then some (.ptr H.length 0,H++[.cells z.cells]) else none
  |none=>none
 |.box _ x=>ZQ (ev x) H
 |.load t a=>match Xr C.P t,Xe C.P t with
  |some g,some sz=>(Z3 g sz (ev a) H).map (·,H)
  |_,_=>none
 |.store t a x=>match Xe C.P t with
  |some sz=>if stV (stC C (.store t a x)) (ev a) then Za sz (ev a) (ev x) H else none
  |none=>none
 |.makeSlice t l c=>match ZeR C.P t with
  |some e=>match Xe C.P e,GY C.P e,Xr C.P e,Jr C.P e with
   |some k,some bytes,some ag,some z=>K2 k bytes ag z (ev l) (ev c) H
   |_,_,_,_=>none
  |none=>none
 |.convert s d x=>match C.P.underlying s,C.P.underlying d with
  |some (.slice e),some .string=>if Zed (C.P.underlying e) then B1 (ev x) H else none
  |some .string,some (.slice e)=>if C.wrb d&&Zed (C.P.underlying e) then Zak (ev x) H else none
  |_,_=>none
 |.makeMap _ none=>some (.map H.length,H++[.map [] 0])
 |.lookup t x k ck=>match DJ C.P t with
  |some (d,e)=>match Jr C.P e with
   |some z=>(Y7 d z ck (ev x) (ev k) H).map (·,H)
   |none=>none
  |none=>none
 |.mapUpdate t m k x=>match DJ C.P t with
  |some (d,_)=>Xw d (ev m) (ev k) (ev x) H
  |none=>none
 |.insert t m k x=>match DJ C.P t with
  |some (d,_)=>Xw d (ev m) (ev k) (ev x) H
  |none=>none
 |.call { callee:=.builtin .append,args,argTypes }=>match args.toList,argTypes.toList with
  |[s,x],[st,xt]=>match ZeR C.P st,C.P.underlying xt with
   |some e,some xd=>if !Xi xd then none else match Xe C.P e,GY C.P e with
    |some k,some bytes=>if 0<k&&Zul C.P e k then (match ZzK C e with|some ag=>GV ag k bytes (ev s) (ev x) H|none=>Y9 k bytes (ev s) (ev x) H) else none
    |_,_=>none
   |_,_=>none
  |_,_=>none
 |.call { callee:=.builtin .len,args,argTypes }=>match args.toList,argTypes.toList with
  |[x],[t]=>match DJ C.P t with
   |some _=>(K1 (ev x) H).map (·,H)
   |none=>none
  |_,_=>none
 |.call { callee:=.builtin .delete,args,argTypes }=>match args.toList,argTypes.toList with
  |[m,k],[t,_]=>match DJ C.P t with
   |some (d,_)=>Jz d (ev m) (ev k) H
   |none=>none
  |_,_=>none
 |.call { callee:=.builtin .copy,args,argTypes }=>match args.toList,argTypes.toList with
  |[d,x],[dt,_]=>match ZeR C.P dt with
   |some e=>match Xe C.P e with
    |some k=>if 0<k then HT k (ev d) (ev x) H else none
    |none=>none
   |none=>none
  |_,_=>none
 |.call { callee:=.value f,args,.. }=>if Zb7 C f args then XA C call (ev f) (args.toList.map ev) H else Yf C call (ev f) (args.toList.map ev) H
 |.call { callee:=.invoke r m,args,.. }=>ZlM C call (ev r) m (args.toList.map ev) H
 |_=>none
def Xd (C:Cfg)(call:ZF)(ev:Operand->AV)(H:Hp)(fl:Bool)(op:Op):Option (AV×Hp) :=
 match ZT C ev op with
 |some v=>some (v,H)
 |none=>if fl then none else ZE C call ev H op
abbrev St:=List AV×Hp
def Xf (tm:List AV)(g:Option Tmp)(v:AV):List AV :=
 match g with
 |some d=>tm.set d v
 |none=>tm
def WP (ops:Array Oper)(tm:List AV)(o:Oper):Option Bool :=
 match o.guard with
 |none=>some true
 |some (j,want)=>match (match ops[j]? with|some g=>g.dst|none=>none) with
  |none=>some false
  |some d=>match tm[d]? with
   |some (.bool b)=>some (b==want)
   |some .undef=>none
   |_=>some false
def Yx (C:Cfg)(call:ZF)(ops:Array Oper)(fl:Bool)(o:Oper)(tm:List AV)(H:Hp):Option (AV×Hp) :=
 match WP ops tm o with
 |none=>none
 |some false=>some (.tuple [],H)
 |some true=>Xd C call (eval C tm) H fl o.op
def Ul (C:Cfg)(call:ZF)(ops:Array Oper)(fl:Bool)(o:Oper)(s:St):Option St :=
 match Yx C call ops fl o s.1 s.2 with
 |some (v,H)=>some (Xf s.1 o.dst v,H)
 |none=>none
def Y1 (C:Cfg):Op->Nat
 |.move _|.assign _|.pick _ _ _|.build _ _|.buildSlice _ _ _|.nilCheck _|.binOp _ _ _ _ _|.unOp _ _ _|.makeInterface _ _|.makeFunc _ _ _
 |.slice _ _ _ _ _|.fieldAddr _ _ _|.field _ _ _|.indexAddr _ _ _|.index _ _ _|.extract _ _|.typeAssert _ _ _ _=>0
 |.call { callee:=.builtin .min,.. }|.call { callee:=.builtin .max,.. }=>0
 |.convert _ d _=>if C.wrb d then 2 else 1
 |.load _ _|.lookup _ _ _ _=>1
 |.call { callee:=.builtin .len,.. }=>1
 |.call { callee:=.value (.func f),.. }=>if ZeX C f then 0 else 2
 |.call { callee:=.value f,args,.. }=>if Zb7 C f args then 0 else 2
 |_=>2
def Znh (C:Cfg):Op->Bool
 |.call { callee:=.value (.func f),.. }=>C.ro f&&!C.flat f&&(C.ext f).isNone&&(C.sum f).isNone&&(C.eff f).isNone
 |_=>false
def AF (C:Cfg)(x:Op):Bool:=decide (Y1 C x<=1) || Znh C x
def AJ (C:Cfg)(x y:Op):Bool:=(decide (stC C x=1)&&decide (stC C y=2)) || (decide (stC C x=2)&&decide (stC C y=1))
def ZaD (C:Cfg)(x y:Op):Option (Nat×Nat) :=
 match C.far with
 |none=>none
 |some f=>match x,y with
  |.load t (.tmp a),.store u (.tmp b) _=>if f t a u b then some (a,b) else none
  |_,_=>none
def ZdX (C:Cfg)(x y:Op):Bool:=(ZaD C x y).isSome || (ZaD C y x).isSome
def ZaC (C:Cfg)(ops:Array Oper):List (Nat×Nat) :=
 match C.far with
 |none=>[]
 |some _=>ops.toList.flatMap fun x=>ops.toList.filterMap fun y=>ZaD C x.op y.op
def Kf (ops:Array Oper)(a:Nat):Bool:=ops.toList.all fun o=>match o.dst with|some d=>!zC d a|none=>true
def Lg (x y:AV):Bool :=
 match x,y with
 |.ptr o _,.ptr o' _=>!zC o o'
 |_,_=>false
def Ry (C:Cfg)(ops:Array Oper):Bool:=(ZaC C ops).all fun p=>Kf ops p.1&&Kf ops p.2
def Zqn (C:Cfg)(ops:Array Oper)(ev:Operand->AV):Bool:=(ZaC C ops).all fun p=>Lg (ev (.tmp p.1)) (ev (.tmp p.2))
def Fc (C:Cfg)(ops:Array Oper)(ev:Operand->AV):Bool:=Ry C ops&&Zqn C ops ev
def ZhV (C:Cfg)(x y:Op):Bool:=!(decide (Y1 C x=0) || decide (Y1 C y=0) || (AF C x&&AF C y) || AJ C x y || ZdX C x y)
def XC (ops:Array Oper):Nat->Nat->Nat->Bool
 |0,_,_=>false
 |n+1,j,i=>match ops[j]? with
  |none=>false
  |some o=>o.after.toList.any fun e=>Region.binds .any e&&(e.on==i || XC ops n e.on i)
def fresh:Op->Bool
 |.alloc _|.box _ _|.makeMap _ none=>true
 |_=>false
def VC (C:Cfg)(ops:Array Oper)(i:Nat):Bool :=
 match ops[i]? with
 |some o=>fresh o.op&&o.guard.isNone&&(zX ops.size).any fun j=>decide (j<i)&&(match ops[j]? with|some o'=>decide (2<=Y1 C o'.op)|none=>false)&&!XC ops ops.size i j&&!XC ops ops.size j i
 |none=>false
def VD (C:Cfg)(ops:Array Oper)(n:Nat):Nat:=(zX n).countP (VC C ops)
def MT (C:Cfg)(ev:Operand->AV):Op->Option AObj
 |.alloc e=>match Jr C.P e with
  |some z=>if z.known&&(C.bld e).isNone then some (.cells z.cells) else none
  |none=>none
 |.box _ x=>if (ev x).known then some (.cells (ev x).cells) else none
 |.makeMap _ none=>some (.map [] 0)
 |_=>none
def ZzJ (x:AObj):Bool :=
 match x with
 |.free=>false
 |_=>true
def ZzI (x:AObj)(p:Nat):AV :=
 match x with
 |.map _ _=>.map p
 |_=>.ptr p 0
def ME (p:Nat)(g:Option AObj)(H:Hp):Option (AV×Hp) :=
 match g with
 |some l=>match H[p]? with
  |some .free=>if ZzJ l then some (ZzI l p,H.set p l) else none
  |_=>none
 |none=>none
def QL:Nat->Hp->Hp
 |0,H=>H
 |n+1,H=>H++zG (n+1) .free
def Xp (C:Cfg)(ops:Array Oper)(i:Nat):Bool :=
 match ops[i]? with
 |none=>false
 |some o=>(zX ops.size).any fun j=>j != i&&(match ops[j]? with|some o'=>ZhV C o.op o'.op&&(decide (Y1 C o.op<=1) || decide (2<=Y1 C o'.op))|none=>false)&&!(match ops[j]? with|some o'=>decide (Y1 C o.op<=1)&&fresh o'.op&&decide (i<j)|none=>false)&&!(decide (i<j)&&VC C ops j)&&!(decide (j<i)&&VC C ops i)&&!XC ops ops.size i j&&!XC ops ops.size j i
def W7 (C:Cfg)(call:ZF)(ops:Array Oper)(draw:Bool)(b i:Nat)(o:Oper)(s:St):Option St :=
 if draw&&VC C ops i then (if Xp C ops i then none else match ME (b+VD C ops i) (MT C (eval C s.1) o.op) s.2 with
  |some (v,H)=>some (Xf s.1 o.dst v,H)
  |none=>none)
 else Ul C call ops (draw&&Xp C ops i) o s
def Yt (C:Cfg)(call:ZF)(ops:Array Oper)(draw:Bool)(b:Nat):Nat->List Oper->St->Option St
 |_,[],s=>some s
 |i,o::rest,s=>match W7 C call ops draw b i o s with
  |some s'=>Yt C call ops draw b (i+1) rest s'
  |none=>none
inductive AExit where
 |normal
 |exit (id:Nat)
 |goto (l:Nat)
 |ret
 deriving DecidableEq
def XK (keep:List Nat):Nat->List AV->List AV
 |_,[]=>[]
 |i,v::r=>(if keep.contains i then v else .undef)::XK keep (i+1) r
def YL:Code->Option Nat
 |.region id _ _=>some id
 |.seq a b=>match YL a with
  |some r=>some r
  |none=>YL b
 |.block _ c|.loop c|.scope c=>YL c
 |_=>none
def trim (kp:Nat->Option (List Nat))(c:Code)(s:St):St :=
 match YL c with
 |none=>s
 |some r=>match kp r with
  |none=>s
  |some keep=>(XK keep 0 s.1,s.2)
def Nc (a:AV)(H:Hp):AV×Hp :=
 match a with
 |.ptr o 0=>match H[o]? with
  |some (.cells l)=>(.vp l,H.set o .dead)
  |some .free=>(a,H.set o .dead)
  |_=>(a,H)
 |_=>(a,H)
def frz1 (s:St)(t:Nat):St:=(s.1.set t (Nc (s.1.getD t (.tuple [])) s.2).1,(Nc (s.1.getD t (.tuple [])) s.2).2)
def ZjC (g:List Nat)(s:St):St:=g.foldl frz1 s
def frzs (kp:Nat->Option (List Nat))(id:Nat)(s:St):St :=
 match kp (id+1000000) with
 |none=>s
 |some g=>ZjC g s
def W6 (f:St->Option (AExit×St)):Nat->St->Option (AExit×St)
 |0,_=>none
 |n+1,s=>match f s with
  |some (.normal,s')=>W6 f n s'
  |r=>r
def Vf (ops:Array Oper):Bool :=
 Region.noSelect ops&&(zX ops.size).all fun k =>
  match ops[k]? with
  |none=>false
  |some o=>(o.after.toList.all fun e=>!Region.binds .any e || decide (e.on<k)) &&
   (zX ops.size).all fun j=>decide (j<=k) || (match ops[j]? with
    |none=>false
    |some g=>XC ops ops.size j k || o.apart ops g)
def XJ:Code->Bool
 |.goto _=>false
 |.seq a b=>XJ a&&XJ b
 |.cond _ x y=>XJ x&&XJ y
 |.block _ c|.loop c|.scope c=>XJ c
 |_=>true
def Zs (C:Cfg)(call:ZF)(kp:Nat->Option (List Nat))(n:Nat):Code->St->Option (AExit×St)
 |.skip,s=>some (.normal,s)
 |.region id ops draw,s=>if draw&&!(Vf ops&&Fc C ops (eval C (frzs kp id s).1)) then none else match Yt C call ops draw (frzs kp id s).2.length 0 ops.toList ((frzs kp id s).1,QL (if draw then VD C ops ops.size else 0) (frzs kp id s).2) with
  |some s'=>some (.normal,s')
  |none=>none
 |.seq a b,s=>match Zs C call kp n a s with
  |some (.normal,s')=>Zs C call kp n b (trim kp b s')
  |r=>r
 |.cond c x y,s=>match eval C s.1 c with
  |.bool t=>if t then Zs C call kp n x s else Zs C call kp n y s
  |_=>none
 |.block id c,s=>match Zs C call kp n c s with
  |some (.exit i,s')=>if i=id then some (.normal,s') else some (.exit i,s')
  |r=>r
 |.loop c,s=>W6 (fun s=>Zs C call kp n c (trim kp c s)) n s
 |.scope c,s=>if XJ c then Zs C call kp n c s else none
 |.exit id,s=>some (.exit id,s)
 |.label _,s=>some (.normal,s)
 |.goto l,s=>some (.goto l,s)
 |.ret,s=>some (.ret,s)
 |_,_=>none
def WI (C:Cfg)(s:St):ResultVar->Option AV
 |.tmp t=>some (s.1.getD t (.tuple []))
 |.cell a t=>match Xr C.P t,Xe C.P t with
  |some g,some sz=>Z3 g sz (s.1.getD a (.tuple [])) s.2
  |_,_=>none
def Uc (C:Cfg)(fn:Func)(s:St):Option AV :=
 match fn.results.toList.mapM (WI C s) with
 |some [v]=>some v
 |some l=>some (.tuple l)
 |none=>none
open Classical in
noncomputable def ZmM (g:Hp)(v:AV)(H:Hp):Option (AV×Hp) :=
 if H.take g.length=g then match Ze H g.length 9 v with
  |some v'=>some (v',g)
  |none=>none else none
noncomputable def FR (C:Cfg)(f:FuncId)(H:Hp)(r:AV×Hp):Option (AV×Hp):=if C.pure f then ZmM H r.1 r.2 else some r
noncomputable def body (C:Cfg)(call:ZF)(n:Nat)(f:FuncId)(fn:Func)(c:Code)(args:List AV)(H:Hp):Option (AV×Hp) :=
 match Zs C call (C.keep f) n c (args++zG (fn.ntmps-args.length) .undef,H) with
 |some (.normal,s)|some (.ret,s)=>match Uc C fn s with
  |some v=>FR C f H (v,s.2)
  |none=>none
 |_=>none
def Xb (K:Nat):Code->Code
 |.ret=>.exit K
 |.seq a b=>.seq (Xb K a) (Xb K b)
 |.cond c x y=>.cond c (Xb K x) (Xb K y)
 |.block id c=>.block id (Xb K c)
 |.loop c=>.loop (Xb K c)
 |.scope c=>.scope (Xb K c)
 |c=>c
def GF (K:Nat):Code->Bool
 |.exit id=>!zC id K
 |.seq a b=>GF K a&&GF K b
 |.cond _ x y=>GF K x&&GF K y
 |.block id c=>!zC id K&&GF K c
 |.loop c=>GF K c
 |.scope c=>GF K c
 |_=>true
def FV (x:Nat):Code->Bool
 |.region _ ops _=>Kf ops x
 |.seq a b=>FV x a&&FV x b
 |.cond _ a b=>FV x a&&FV x b
 |.block _ c=>FV x c
 |.loop c=>FV x c
 |.scope c=>FV x c
 |_=>true
def OE (C:Cfg)(g:FuncId):Bool:=C.user g&&(!C.flat g&&(!C.ro g&&((C.ext g).isNone&&((C.sum g).isNone&&((C.eff g).isNone&&!C.dfr g)))))
def Zi1 (C:Cfg)(N:Nat)(ops:Array Oper):Option (Oper×Oper×Nat) :=
 match ops.toList with
 |[o1,o2]=>match o1.op,o1.dst,o1.guard with
  |.makeFunc (.func g) _ _,some x,none=>match o2.op,o2.dst,o2.guard with
   |.defer c,none,none=>match c.callee with
    |.value (.tmp y)=>if zC x y&&(Nat.blt x N&&(c.args.isEmpty&&OE C g)) then some (o1,{ o2 with op:=.call c },x) else none
    |_=>none
   |_,_,_=>none
  |_,_,_=>none
 |_=>none
def BI (C:Cfg)(N:Nat):Code->Code
 |.seq a b=>match a with
  |.region id ops false=>match Zi1 C N ops with
   |some (o1,o2,x)=>if FV x b&&GF 900001 b then .seq (.region id #[o1] false) (.seq (.block 900001 (Xb 900001 b)) (.seq (.region 900002 #[o2] false) .ret)) else .seq (.region id ops false) b
   |none=>.seq a (BI C N b)
  |_=>.seq a (BI C N b)
 |c=>c
def Tq (C:Cfg)(f:FuncId)(fn:Func):Option Code :=
 match C.dfr f with
 |false=>fn.body
 |true=>match fn.body with
  |some c=>some (BI C fn.ntmps c)
  |none=>none
noncomputable def call (C:Cfg):Nat->ZF
 |0,_,_,_=>none
 |n+1,f,args,H=>match C.P.funcs[f]? with
  |none=>none
  |some fn=>match Tq C f fn with
   |none=>none
   |some c=>body C (call C n) n f fn c args H
end Go.Am
namespace Go.Am
open RowKit
section
variable {P:Program}{S:Snap}{W0:World}{H:Hp}
theorem Zpz {C:Cfg}{call:ZF}{f:AV}{args:List AV}{r:AV×Hp}(h:XA C call f args H=some r):Yf C call f args H=some r:=by
 unfold XA qC at h;split at h
 ·split at h
  ·exact h
  ·cases h
 ·cases h
theorem Zpy {C:Cfg}{call:ZF}{b:Bool}{f:AV}{args:List AV}{r:AV×Hp}(h:(if b then XA C call f args H else Yf C call f args H)=some r):Yf C call f args H=some r:=by
 cases b with
 |true=>exact Zpz h
 |false=>exact h
def Yields (P:Program)(W0:World)(S:Snap)(H:Hp)(s:Sem Value)(v:AV)(H':Hp):Prop :=
 Inv W0 S H->∃ v' g,s.run P S.w=.ok v' g.w/\Ext S g/\Inv W0 g H'/\VRel g v v'
theorem Yields.same {s:Sem Value}{v:AV}(v':Value)(h:s.run P S.w=.ok v' S.w)(j:VRel S v v'):Yields P W0 S H s v H :=
 fun g=>⟨v',S,h,Ext.refl S,g,j⟩
theorem Inv.size (g:Inv W0 S H):W0.heap.size<=S.w.heap.size:=g.below.size
theorem Nd {w:World}{b:Nat}{o:Obj}(h:w.heap[b]?=some o):b<w.heap.size:=by
 rcases zD b w.heap.size with g|g
 ·exact g
 ·rw[zY g]at h;cases h
theorem _root_.Go.Lib.BuilderAtF.frame {T e:TypeId}{B b:Nat}{p:Value}{C:List Value}{w w':World}(h:Lib.BuilderAtF T e B b p C w)(F:w'.heap[b]?=w.heap[b]?)
 (J:∀ v g,w.cell? ⟨b,1,none⟩=some v->v.ownBlock=some g->w'.heap[g]?=w.heap[g]?):Lib.BuilderAtF T e B b p C w':=by
 obtain⟨E,v,u,j,A⟩:=h;have I:w.cell? ⟨b,1,none⟩=some v:=by rw[Lib.cell_of_heap u];rfl
 refine⟨E,v,F.trans u,⟨j.1,?_⟩,A⟩;rcases j.2 with h|⟨g,cap,cur,fz,D,y,z,rest⟩
 ·exact .inl h
 ·exact .inr ⟨g,cap,cur,fz,D,y,(J v g I (by rw[D];rfl)).trans z,rest⟩
theorem _root_.Go.Lib.IsBuilderF.frame {T e:TypeId}{B b:Nat}{j:List Value}{w w':World}(h:Lib.IsBuilderF T e B b j w)(u:w'.heap[b]?=w.heap[b]?)
 (y:∀ v g,w.cell? ⟨b,1,none⟩=some v->v.ownBlock=some g->w'.heap[g]?=w.heap[g]?):Lib.IsBuilderF T e B b j w' :=
 h.elim (fun h=>.inl (h.frame u y)) fun h=>.inr (h.frame u y)
theorem _root_.Go.Lib.BuilderAtF.own_lt {T e:TypeId}{B b:Nat}{p:Value}{z:List Value}{w:World}(h:Lib.BuilderAtF T e B b p z w){v:Value}{g:Nat}(u:w.cell? ⟨b,1,none⟩=some v)(A:v.ownBlock=some g):g<w.heap.size:=by
 obtain⟨D,v',y,j,C⟩:=h;rw[Lib.cell_of_heap y]at u;injection u with u;subst u;exact (j.lt g A).2
theorem _root_.Go.Lib.IsBuilderF.own_lt {T e:TypeId}{B b:Nat}{y:List Value}{w:World}(h:Lib.IsBuilderF T e B b y w){v:Value}{g:Nat}(u:w.cell? ⟨b,1,none⟩=some v)(j:v.ownBlock=some g):g<w.heap.size :=
 h.elim (fun h=>h.own_lt u j) fun h=>h.own_lt u j
theorem ORel.frame {S L:Snap}(K:Ext S L){X o:Nat}{x:AObj}(h:ORel S X o x)
 (J:∀ b,(S.phi o=some b\/∃ e hw sz,S.tk o=some (e,b,hw,sz))->b<S.w.heap.size->L.w.heap[b]?=S.w.heap[b]?/\∀ i,L.pub b i->S.pub b i)
 (I:L.tk o=S.tk o) (W:L.phi o=S.phi o):ORel L X o x:=by
 cases x with
 |cells l =>
  obtain⟨b,c,el,j,z,y,E,C,M,O⟩:=h;obtain⟨B,D⟩:=J b (.inl j) (Nd y);exact⟨b,c,el,K.phi _ _ j,z,B.trans y,E,fun i x v hi F=>(C i x v hi F).mono K,fun i A=>M i (D i A),O⟩
 |bld T u l =>
  obtain⟨b,j,z,y,E,C⟩:=h;have V:b<S.w.heap.size:=z.elim (fun h=>h.lt) fun h=>h.lt;obtain⟨B,D⟩:=J b (.inl j) V;have N:∀ i,L.w.cell? ⟨b,i,none⟩=S.w.cell? ⟨b,i,none⟩:=fun i=>by unfold World.cell?;rw[B]
  refine⟨b,K.phi _ _ j,z.frame B fun v g F Q=>?_,y,fun i A=>E i (D i A),fun v g F Q=>?_⟩
  ·obtain⟨⟨n,hw,sz,q⟩,_⟩:=C v g F Q;exact (J g (.inr ⟨_,_,_,q⟩) (z.own_lt F Q)).1
  ·rw[N]at F;obtain⟨⟨n,hw,sz,q⟩,q2⟩:=C v g F Q;exact⟨⟨n,hw,sz,I.trans q⟩,fun i A=>q2 i ((J g (.inr ⟨_,_,_,q⟩) (z.own_lt F Q)).2 i A)⟩
 |row e l =>
  obtain⟨b,sz,c,el,fz,j,z,y,E,C,M,O,Y,Z⟩:=h;obtain⟨B,D⟩:=J b (.inr ⟨_,_,_,j⟩) (Nd y);exact⟨b,sz,c,el,fz,I.trans j,z,B.trans y,E,C,fun i x v hi F=>(M i x v hi F).mono K,fun i A=>O i (D i A),Y,Z⟩
 |tok e =>
  obtain⟨b,hw,sz,c,el,fz,j,z,y,E,C,M,O⟩:=h;obtain⟨B,D⟩:=J b (.inr ⟨_,_,_,j⟩) (Nd y);exact⟨b,hw,sz,c,el,fz,I.trans j,z,B.trans y,E,C,fun i hi A=>M i hi (D i A),O⟩
 |map es R =>
  obtain⟨b,U,j,z,y,E,C,M⟩:=h;obtain⟨B,D⟩:=J b (.inl j) (Nd y)
  exact⟨b,U,K.phi _ _ j,z,B.trans y,E,fun i A=>C i (D i A),fun i k v n e hi he =>
   let ⟨p,q,r⟩:=M i k v n e hi he;⟨p.mono K,q.mono K,r⟩⟩
 |siter s aa =>
  obtain⟨b,s',j,z,y,E,C⟩:=h;obtain⟨B,D⟩:=J b (.inl j) (Nd y);exact⟨b,s',K.phi _ _ j,z,B.trans y,E,fun i A=>C i (D i A)⟩
 |dead=>trivial
 |free=>exact⟨W.trans h.1,I.trans h.2⟩
def Snap.drew (S:Snap):Snap:={ S with w:=S.w.drew }
theorem Ext.drew (S:Snap):Ext S S.drew :=
 ⟨⟨fun _ _ h=>h,fun _ _ h=>⟨h,rfl⟩,fun _ e b hw sz h=>⟨e,b,hw,sz,h,yA _,fun _=>⟨rfl,rfl,rfl⟩⟩⟩,rfl,fun _ _ h _=>h⟩
theorem Inv.drew (g:Inv W0 S H):Inv W0 S.drew H :=
 ⟨g.below.drew,fun o x h=>(g.objs o x h).frame (Ext.drew S) (fun _ _ _=>⟨rfl,fun _ h=>h⟩) rfl rfl,g.past,g.inj,g.tinj,g.apart,g.puball,g.dom,g.tdom,g.lim⟩
def Snap.grow (S:Snap)(o:Obj):Snap:={ S with w:=S.w.alloc o,pub:=fun b i=>S.pub b i\/b=S.w.heap.size }
theorem Ext.grow (g:Inv W0 S H)(o:Obj):Ext S (S.grow o):=by
 refine⟨⟨fun _ _ h=>h,fun b i h=>⟨.inl h,?_⟩,fun _ e b hw sz h=>⟨e,b,hw,sz,h,yA _,fun _=>⟨rfl,rfl,rfl⟩⟩⟩,rfl,fun b i j u=>j.elim id fun e=>by have:=g.lim;have:=g.below.size;omega⟩;exact World.cell?_alloc_lt _ _ _ (g.puball b i h)
theorem Inv.grow (g:Inv W0 S H)(o:Obj):Inv W0 (S.grow o) H:=by
 refine⟨g.below.alloc g.size o,fun n x h=>(g.objs n x h).frame (Ext.grow g o) (fun b _ j=>⟨Below.heap_alloc S.w o b j,fun i u=>?_⟩) rfl rfl,
  g.past,g.inj,g.tinj,g.apart,fun b i h=>?_,fun o b h=>?_,fun t e b hw sz h=>?_,g.lim⟩
 ·rcases u with u|rfl
  ·exact u
  ·exact absurd j (Nat.lt_irrefl _)
 ·show b<(S.w.alloc o).heap.size;rw[World.size_alloc];rcases h with h|rfl
  ·exact yE (g.puball b i h)
  ·exact Nat.lt_succ_self _
 ·show b<(S.w.alloc _).heap.size;rw[World.size_alloc];exact yE (g.dom _ b h)
 ·show b<(S.w.alloc _).heap.size;rw[World.size_alloc];exact yE (g.tdom _ _ b _ _ h)
theorem X0 {t:TypeId}{n:Nat}(h:Xe P t=some n)(w:World):(sizeOf t).run P w=.ok n w:=by
 unfold Xe at h
 cases hi:P.info? t with
 |none=>simp[hi]at h
 |some i=>simp[hi]at h;subst h;simp[sizeOf,typeInfo,hi]
theorem Ez {t:TypeId}{g:Bool}(h:Xr P t=some g)(w:World):(isAgg t).run P w=.ok g w:=by
 unfold Xr at h;unfold isAgg
 cases j:P.underlying t with
 |none=>simp[j]at h
 |some d=>rw[Sem.run_bind,run_underlying j];cases d <;> simp_all
structure CellsRel (S:Snap)(l:List AV)(c:Array Value):Prop where
 size:c.size=l.length
 rel:∀ (i:Nat) (x:AV) (v:Value),l[i]?=some x->c[i]?=some v->VRel S x v
 cell:l.all AV.isCell=true
theorem CellsRel.get {l:List AV}{c:Array Value}(h:CellsRel S l c){i:Nat}{x:AV}(hi:l[i]?=some x):∃ v,c[i]?=some v/\VRel S x v:=by
 have g:i<c.size:=by
  rw[h.size];rcases zD i l.length with j|j
  ·exact j
  ·rw[zA j]at hi;cases hi
 exact⟨c[i],zH g,h.rel i x _ hi (zH g)⟩
theorem CellsRel.mono {S g:Snap}(u:Ext S g){l:List AV}{c:Array Value}(h:CellsRel S l c):CellsRel g l c :=
 ⟨h.size,fun i x v hi j=>(h.rel i x v hi j).mono u,h.cell⟩
theorem ZpI {l:List AV}(h:∀ (i:Nat) (x:AV),l[i]?=some x->x.isCell=true):l.all AV.isCell=true:=by
 rw[zI];intro x g;obtain⟨i,hi⟩:=List.getElem?_of_mem g;exact h i x hi
theorem Zim {l:List AV}(h:l.all AV.isCell=true){i:Nat}{x:AV}(hi:l[i]?=some x):x.isCell=true:=zI.1 h x (yC hi)
theorem ZeN {l:List AV}(h:l.all AV.isCell=true)(a n:Nat):((l.drop a).take n).all AV.isCell=true:=by
 rw[zI]at h ⊢;exact fun x g=>h x (zM (yD g))
theorem CellsRel.extract {l:List AV}{c:Array Value}(h:CellsRel S l c)(a n:Nat)(w:a+n<=l.length):CellsRel S ((l.drop a).take n) (c.extract a (a+n)):=by
 refine⟨by simp[h.size];omega,fun i x v hi g=>?_,ZeN h.cell a n⟩
 have j:i<n:=by
  rcases zD i n with u|u
  ·exact u
  ·rw[zA (by simp;omega)]at hi;cases hi
 rw[zQ j,zT]at hi;refine h.rel (a+i) x v hi ?_;rw[Array.getElem?_extract]at g;split at g
 ·exact g
 ·cases g
theorem VRel.cells {a:AV}{v:Value}(h:VRel S a v)(g:a.known=true):CellsRel S a.cells v.cells:=by
 cases h with
 |undef v=>cases g
 |tuple _ _ _ _=>cases g
 |agg cells vs u w h=>exact⟨w,h,u⟩
 |_ =>
  refine⟨rfl,fun i x v hi j=>?_,rfl⟩
  cases i with
  |zero =>
   simp[AV.cells]at hi;simp[Value.cells]at j;subst hi j
   first
    |exact .bool _
    |exact .int _ _
    |exact .str _ _ ‹_›
    |exact .nilp
    |exact .ptr _ _ _ ‹_›
    |exact .vp _ _ _ _ ‹_› ‹_› ‹_›
    |exact .nils
    |exact .vs _ _ _ _ _ _ _ ‹_› ‹_› ‹_› ‹_› ‹_› _ ‹_›
    |exact .rs _ _ _ _ _ _ _ ‹_› ‹_›
    |exact .ws _ _ _ _ _ _ _ ‹_› ‹_›
    |exact .wp _ _ _ _ ‹_›
    |exact .nilm
    |exact .map _ _ ‹_›
    |exact .nilf
    |exact .fn _ _ _ _ _ ‹_› ‹_› ‹_› ‹_›
    |exact .nili
    |exact .iface _ _ _ ‹_›
  |succ n=>simp[AV.cells]at hi
theorem BA {t:TypeId}{g:Bool}{sz off:Nat}{l:List AV}{c:Array Value}{v:AV}(A:Xr P t=some g)(C:Xe P t=some sz)(z:CellsRel S l c)
 (h:apart g sz l off=some v):∃ v',(part t c off).run P S.w=.ok v' S.w/\VRel S v v':=by
 unfold apart at h
 cases g with
 |true =>
  simp only[if_true]at h;split at h
  ·rename_i j;injection h with h;subst h;have y:=z.extract off sz j;exact⟨.agg (c.extract off (off+sz)),by simp[part,Ez A,X0 C],.agg _ _ y.cell y.size y.rel⟩
  ·cases h
 |false =>
  simp only[zU,if_false]at h;obtain⟨u,D,B⟩:=z.get h;exact⟨u,by simp[part,Ez A,D],B⟩
theorem MU {t:TypeId}{g:Bool}{sz off b:Nat}{l:List AV}{f:Nat->Value}{v:AV}(E:Xr P t=some g)(L:Xe P t=some sz)
 (C:∀ i,i<l.length->S.w.cell? ⟨b,i+off,none⟩=some (f i)) (D:∀ (i:Nat) (x:AV),l[i]?=some x->VRel S x (f i)) (I:l.all AV.isCell=true) (h:apart g sz l 0=some v) :
 ∃ v',(loadVar t ⟨b,off,none⟩).run P S.w=.ok v' S.w/\VRel S v v':=by
 unfold apart at h;have u:∀ j,(⟨b,off,none⟩:Addr).add j=⟨b,j+off,none⟩:=fun j=>by unfold Addr.add;split <;> simp_all [yU]
 cases g with
 |true =>
  simp only[if_true]at h;split at h
  ·rename_i K;injection h with h;subst h;have J:=run_loadCells (P:=P) S.w ⟨b,off,none⟩ sz f (fun j M=>by rw[u];exact C j (by omega));refine⟨.agg ((zX sz).map f).toArray,by simp[loadVar,Ez E,X0 L,J],.agg _ _ (ZeN I 0 sz) (by simp;omega) (fun i x v hi F=>?_)⟩
   have y:i<sz:=by
    rcases zD i sz with A|A
    ·exact A
    ·rw[zA (by simp;omega)]at hi;cases hi
   simp[y]at hi F;subst F;exact D i x hi
  ·cases h
 |false =>
  simp only[zU,if_false]at h
  have z:0<l.length:=by
   cases l with
   |nil=>simp at h
   |cons=>simp
  have B:=C 0 z;simp only[yN]at B;exact⟨f 0,by simp[loadVar,Ez E,B],D 0 v h⟩
end
section
variable {P:Program}{S:Snap}{W0:World}{H:Hp}
theorem Zea {op:BinOp}{k:IntKind}{a b:Int}{v:AV}(h:XF op k a b=some v)(t:TypeId) :
 ∃ v',(binOp op t (.int k a) (.int k b)).run P S.w=.ok v' S.w/\VRel S v v':=by
 cases op <;> simp only[XF]at h
 case quo =>
  split at h
  ·cases h
  ·injection h with h;subst h;exact⟨_,by simp[binOp,Op.intDiv, *],.int _ _⟩
 case rem =>
  split at h
  ·cases h
  ·injection h with h;subst h;exact⟨_,by simp[binOp,Op.intDiv, *],.int _ _⟩
 case shl=>cases h
 case shr=>cases h
 case add|sub|mul =>
  injection h with h;subst h;exact⟨_,by simp[binOp,Op.intArith],.int _ _⟩
 case and|or|xor|andNot =>
  injection h with h;subst h;exact⟨_,by simp[binOp,Op.intBits],.int _ _⟩
 all_goals
  injection h with h;subst h;exact⟨_,by simp[binOp,Op.intCmp],.bool _⟩
theorem W3 (a:ByteArray):a.data.toList.length=a.size:=by cases a;rfl
theorem Zns {op:BinOp}{x y:List UInt8}{v:AV}{a b:ByteArray}(u:a.data.toList=x)(z:b.data.toList=y)(h:KX op x y=some v) :
 ∃ v',(Op.stringOp op a b).run P S.w=.ok v' S.w/\VRel S v v':=by
 subst u z;cases op <;> simp only[KX]at h
 case add =>
  split at h
  ·rename_i g;injection h with h;subst h
   have j:¬ (((a.size+b.size:Nat):Int) > IntKind.i64.max):=by
    rw[W3,W3]at g;rw[IntKind.max_i64];omega
   refine⟨.string (a++b),by simp only[Op.stringOp,if_neg j,Sem.run_pure],.str _ _ ?_⟩;simp
  ·cases h
 case sub|mul|quo|rem|and|or|xor|shl|shr|andNot=>cases h
 all_goals (injection h with h;subst h;exact⟨_,by simp only[Op.stringOp,ByteArray.toList_eq,Sem.run_pure],.bool _⟩)
theorem Zjw {d:Nat}{z:TypeId->AV->AV->Option Bool}{xs M:List AV}{C D:Array Value}(Q:CellsRel S xs C)(R:CellsRel S M D)
 (J:∀ (t:TypeId) (x y:AV) (u v:Value) (r:Bool),VRel S x u->VRel S y v->z t x y=some r->(Op.equalIn d t u v).run P S.w=.ok r S.w) :
 ∀ (fs:List Field) (r:Bool),Ru P z xs M fs=some r->(Op.eqFields d C D fs).run P S.w=.ok r S.w:=by
 intro fs
 induction fs with
 |nil=>intro r h;simp[Ru]at h;subst h;rfl
 |cons f fs L =>
  intro r h;unfold Ru at h;unfold Op.eqFields;split at h
  ·rename_i A;rw[if_pos A];split at h
   ·rename_i g sz I K;split at h
    ·rename_i u v N O;obtain⟨V,T,E⟩:=BA I K Q N;obtain⟨v',U,F⟩:=BA I K R O;simp only[Sem.run_bind,T,U,Result.andThen_ok];split at h
     ·rename_i j;simp only[J _ _ _ _ _ _ E F j,Result.andThen_ok,yS,zU,if_false];exact L r h
     ·rename_i B
      cases r with
      |true=>exact absurd h B
      |false=>simp[J _ _ _ _ _ _ E F h]
    ·cases h
   ·cases h
  ·rename_i A;rw[if_neg A];exact L r h
theorem Zla {d:Nat}{z:AV->AV->Option Bool}{e:TypeId}{g:Bool}{sz:Nat}{xs K:List AV}{B C:Array Value}(F:Xr P e=some g)(J:Xe P e=some sz)(N:CellsRel S xs B)(O:CellsRel S K C)
 (I:∀ (x y:AV) (u v:Value) (r:Bool),VRel S x u->VRel S y v->z x y=some r->(Op.equalIn d e u v).run P S.w=.ok r S.w) :
 ∀ (is:List Nat) (r:Bool),Sx z g sz xs K is=some r->(Op.eqItems d e sz B C is).run P S.w=.ok r S.w:=by
 intro is
 induction is with
 |nil=>intro r h;simp[Sx]at h;subst h;rfl
 |cons i is Q =>
  intro r h;unfold Sx at h;unfold Op.eqItems;split at h
  ·rename_i u v L M;obtain⟨U,R,D⟩:=BA F J N L;obtain⟨v',T,E⟩:=BA F J O M;simp only[Sem.run_bind,R,T,Result.andThen_ok];split at h
   ·rename_i j;simp only[I _ _ _ _ _ D E j,Result.andThen_ok,yS,zU,if_false];exact Q r h
   ·rename_i A
    cases r with
    |true=>exact absurd h A
    |false=>simp[I _ _ _ _ _ D E h]
  ·cases h
set_option maxHeartbeats 4000000 in
theorem ZpA {B:TypeDesc}{t:TypeId}{x y:AV}{u v:Value}{r:Bool}(d:Nat)(g:P.underlying t=some B)(j:VRel S x u)(z:VRel S y v)(h:Zdv B x y=some r) :
 (Op.equalIn (d+1) t u v).run P S.w=.ok r S.w:=by
 have A:=run_underlying g S.w;unfold Zdv at h;split at h
 case h_1=>cases j;cases z;injection h with h;subst h;exact run_equalIn_bool' S.w d t _ _ g
 case h_2 =>
  cases j;cases z;split at h
  ·injection h with h;rename_i hk;subst h hk;exact run_equalIn_int S.w d t _ _ _ _ g
  ·cases h
 case h_3 =>
  cases j with|str _ a' ha =>
  cases z with|str _ b' hb =>
  injection h with h;subst h ha hb;rw[run_equalIn_string S.w d t _ _ g,ByteArray.toList_eq,ByteArray.toList_eq]
 all_goals first
  |(cases h;done)
  |(cases j;cases z;injection h with h;subst h;unfold Op.equalIn;simp only[Sem.run_bind,A,Result.andThen_ok];rfl)
theorem Zk3 {ok:TypeId->Bool}(E:∀ t,ok t=true->P.stoodInHeld t=false):∀ (n d:Nat) (t:TypeId) (x y:AV) (u v:Value) (r:Bool),n<=d->VRel S x u->VRel S y v->HU P ok n t x y=some r ->
 (Op.equalIn d t u v).run P S.w=.ok r S.w:=by
 intro n
 induction n with
 |zero=>intro d t x y u v r _ _ _ h;simp[HU]at h
 |succ n J =>
  intro d t x y u v r Q F I h;obtain⟨d,rfl⟩:∃ d',d=d'+1:=⟨d-1,by omega⟩;unfold HU at h;split at h
  ·rename_i fs j;split at h
   ·split at h
    ·rename_i hk;cases F with|agg _ cx hxc hxs hxr =>
     cases I with|agg _ cy hyc hys hyr =>
     have K:P.underlying t=some (.struct (P.fieldsOf t)):=by simp[Program.fieldsOf,j]
     have D:P.fieldsOf t=fs:=by simp[Program.fieldsOf,j]
     rw[run_equalIn_struct S.w d t cx cy K (E t hk),D];exact Zjw ⟨hxs,hxr,hxc⟩ ⟨hys,hyr,hyc⟩ (fun t x y u v r A B C=>J d t x y u v r (by omega) A B C) _ r h
    ·cases h
   ·cases h
  ·rename_i R e j;split at h
   ·split at h
    ·split at h
     ·rename_i g sz L z;cases F with|agg _ cx hxc hxs hxr =>
      cases I with|agg _ cy hyc hys hyr =>
      obtain⟨i,hi,rfl⟩:∃ i,P.info? e=some i/\P.cellsOf e=sz:=by
       unfold Xe at z
       cases hi:P.info? e with
       |none=>simp[hi]at z
       |some i=>exact⟨i,rfl,by simp[hi]at z;simp[Program.cellsOf,hi,z]⟩
      rw[run_equalIn_array S.w d cx cy j hi];exact Zla L z ⟨hxs,hxr,hxc⟩ ⟨hys,hyr,hyc⟩ (fun x y u v r A B C=>J d e x y u v r (by omega) A B C) _ r h
     ·cases h
    ·cases h
   ·cases h
  ·rename_i O N M j;exact ZpA d j F I h
  ·cases h
end
section
variable {P:Program}{S:Snap}{W0:World}{H:Hp}
def Ca:Value->Bool
 |.int _ _|.float _ _|.complex _ _ _|.string _=>false
 |_=>true
def Zt0:Value->Bool
 |.nilIface|.agg _=>false
 |_=>true
theorem ZbF {t:TypeId}{u v:Value}(g:Ca u=true):binOp .eql t u v=(do pure (.bool (<-Op.equal t u v))):=by
 cases u <;> first|(simp[Ca]at g;done)|rfl
theorem ZbG {t:TypeId}{u v:Value}(g:Ca u=true):binOp .neq t u v=(do pure (.bool (!(<-Op.equal t u v)))):=by
 cases u <;> first|(simp[Ca]at g;done)|rfl
theorem Ij {op:BinOp}{t:TypeId}{X Y:Operand}{u v:Value}(g:Zt0 u=true)(w:World):(eqGuard op t X Y u v).run P w=.ok () w:=by
 cases u <;> first|(simp[Zt0]at g;done)|(cases op <;> rfl)
set_option maxHeartbeats 1000000 in
theorem ZfY {ok:TypeId->Bool}(g:∀ t,ok t=true->P.eqGuardType P.depth t=false){n:Nat}{op:BinOp}{t:TypeId}{X Y:Operand}{x y:AV}{u v:Value}{r:Bool}
 (j:VRel S x u) (z:VRel S y v) (h:HU P ok n t x y=some r):(eqGuard op t X Y u v).run P S.w=.ok () S.w:=by
 cases n with
 |zero=>simp[HU]at h
 |succ n =>
  unfold HU at h;split at h
  ·split at h
   ·split at h
    ·cases j with|agg _ cx _ _ _ =>
     cases z with|agg _ cy _ _ _ =>
     exact run_eqGuard_agg S.w op t X Y cx cy (g t ‹_›)
    ·cases h
   ·cases h
  ·split at h
   ·split at h
    ·cases j with|agg _ cx _ _ _ =>
     cases z with|agg _ cy _ _ _ =>
     exact run_eqGuard_agg S.w op t X Y cx cy (g t ‹_›)
    ·cases h
   ·cases h
  ·unfold Zdv at h
   split at h <;> first
    |(cases h;done)
    |(cases j;exact Ij rfl S.w)
  ·cases h
theorem Zi5 {t:TypeId}{B:Array (String×TypeId)}(A:P.underlying t=some (.interface B)){x y:AV}{u v:Value}{b:Bool}(j:VRel S x u)(z:VRel S y v)(h:Zjo x y=some b)(d:Nat)(w:World):(Op.equalIn (d+1) t u v).run P w=.ok b w:=by
 have g:=run_underlying A w;unfold Zjo at h;split at h
 ·cases j;cases z;injection h with h;subst h;unfold Op.equalIn;simp only[Sem.run_bind,g,Result.andThen_ok];rfl
 ·cases j;cases z;injection h with h;subst h;unfold Op.equalIn;simp only[Sem.run_bind,g,Result.andThen_ok];rfl
 ·cases j;cases z;injection h with h;subst h;unfold Op.equalIn;simp only[Sem.run_bind,g,Result.andThen_ok];rfl
 ·cases h
theorem Zio {op:BinOp}{t:TypeId}{X Y:Operand}(g:op=.eql\/op=.neq)(j:ZeP X Y=true){x y:AV}{u v:Value}{b:Bool}(z:VRel S x u)(A:VRel S y v)(h:Zjo x y=some b)(w:World):(eqGuard op t X Y u v).run P w=.ok () w/\Ca u=true:=by
 unfold Zjo at h;split at h
 ·cases z;cases A;refine⟨?_,rfl⟩;unfold ZeP at j;split at j
  ·rcases g with rfl|rfl <;> rfl
  ·rcases g with rfl|rfl <;> cases X <;> rfl
  ·cases j
 ·cases z;cases A;exact⟨by rcases g with rfl|rfl <;> rfl,rfl⟩
 ·cases z;cases A;exact⟨by rcases g with rfl|rfl <;> rfl,rfl⟩
 ·cases h
theorem Zod {op:BinOp}{t:TypeId}{X Y:Operand}{x y:AV}{u v:Value}{r:AV}(D:ZgT P t=true)(E:ZeP X Y=true)(j:VRel S x u)(z:VRel S y v)(h:Zi3 op x y=some r) :
 ∃ v',(do eqGuard op t X Y u v;binOp op t u v:Sem Value).run P S.w=.ok v' S.w/\VRel S r v':=by
 unfold ZgT at D;split at D
 ·rename_i I F;unfold Zi3 at h;split at h
  ·split at h
   ·rename_i b g;injection h with h;subst h;obtain⟨A,B⟩:=Zio (P:=P) (op:=.eql) (t:=t) (.inl rfl) E j z g S.w;have C:=Zi5 F j z g 9999 S.w;refine⟨.bool b,?_,.bool _⟩;rw[ZbF B];simp only[Sem.run_bind,A,Result.andThen_ok,Op.equal,Op.maxDepth,C,Sem.run_pure]
   ·cases h
  ·split at h
   ·rename_i b g;injection h with h;subst h;obtain⟨A,B⟩:=Zio (P:=P) (op:=.neq) (t:=t) (.inr rfl) E j z g S.w;have C:=Zi5 F j z g 9999 S.w;refine⟨.bool (!b),?_,.bool _⟩;rw[ZbG B];simp only[Sem.run_bind,A,Result.andThen_ok,Op.equal,Op.maxDepth,C,Sem.run_pure]
   ·cases h
  ·cases h
 ·cases D
theorem Zdu {ok:TypeId->Bool}(g:∀ t,ok t=true->P.stoodInHeld t=false/\P.eqGuardType P.depth t=false){op:BinOp}{t:TypeId}{X Y:Operand}{x y:AV}{u v:Value}{r:AV}
 (z:VRel S x u) (A:VRel S y v) (hk:Ca u=true) (h:NZ P ok op t x y=some r) :
 ∃ v',(do eqGuard op t X Y u v;binOp op t u v:Sem Value).run P S.w=.ok v' S.w/\VRel S r v':=by
 unfold NZ at h;split at h
 ·split at h
  ·rename_i b j;injection h with h;subst h;have C:=Zk3 (fun t h=>(g t h).1) 20 10000 t x y u v b (by omega) z A j;have B:=ZfY (fun t h=>(g t h).2) (op:=.eql) (X:=X) (Y:=Y) z A j;refine⟨.bool b,?_,.bool _⟩;rw[ZbF hk];simp only[Sem.run_bind,B,Result.andThen_ok,Op.equal,Op.maxDepth,C,Sem.run_pure]
  ·cases h
 ·split at h
  ·rename_i b j;injection h with h;subst h;have C:=Zk3 (fun t h=>(g t h).1) 20 10000 t x y u v b (by omega) z A j;have B:=ZfY (fun t h=>(g t h).2) (op:=.neq) (X:=X) (Y:=Y) z A j;refine⟨.bool (!b),?_,.bool _⟩;rw[ZbG hk];simp only[Sem.run_bind,B,Result.andThen_ok,Op.equal,Op.maxDepth,C,Sem.run_pure]
  ·cases h
 ·cases h
theorem ZlR {op:BinOp}{k k':IntKind}{a b:Int}{v:AV}(h:XB op k k' a b=some v)(t:TypeId) :
 ∃ v',(binOp op t (.int k a) (.int k' b)).run P S.w=.ok v' S.w/\VRel S v v':=by
 unfold XB at h;split at h
 ·split at h
  ·cases h
  ·injection h with h;subst h;exact⟨_,by simp[binOp,Op.shift, *],.int _ _⟩
 ·split at h
  ·cases h
  ·injection h with h;subst h;exact⟨_,by simp[binOp,Op.shift, *],.int _ _⟩
 ·split at h
  ·rename_i hk;subst hk;exact Zea h t
  ·cases h
theorem ZlU {ok:TypeId->Bool}(z:∀ t,ok t=true->P.stoodInHeld t=false/\P.eqGuardType P.depth t=false){op:BinOp}{t:TypeId}{X Y:Operand}{x y:AV}{u v:Value}{r:AV}
 (B:∀ d,P.underlying t=some d->d≠.string/\∀ k,d≠.int k) (A:VRel S x u) (D:VRel S y v) (h:NZ P ok op t x y=some r) :
 ∃ v',(do eqGuard op t X Y u v;binOp op t u v:Sem Value).run P S.w=.ok v' S.w/\VRel S r v':=by
 have VQ:∀ b,HU P ok 20 t x y=some b->Ca u=true:=by
  intro b g;unfold HU at g;split at g
  ·split at g
   ·cases A;rfl
   ·cases g
  ·split at g
   ·cases A;rfl
   ·cases g
  ·rename_i C _ _ F;obtain⟨E,j⟩:=B C F
   cases C with
   |int k=>exact absurd rfl (j k)
   |string=>exact absurd rfl E
   |_ =>
    unfold Zdv at g
    split at g <;> first
     |(cases g;done)
     |(cases A;rfl)
     |(rename_i I;cases I)
  ·cases g
 have j:=h;unfold NZ at j;split at j
 ·split at j
  ·exact Zdu z A D (VQ _ ‹_›) h
  ·cases j
 ·split at j
  ·exact Zdu z A D (VQ _ ‹_›) h
  ·cases j
 ·cases j
theorem Zoe {ok:TypeId->Bool}{op:BinOp}{t:TypeId}{d:TypeDesc}{x y:AV}(j:P.underlying t=some d)(h:∀ fs,d≠.struct fs)(g:∀ n e,d≠.array n e):Yr d op x y=NZ P ok op t x y:=by
 have:HU P ok 20 t x y=Zdv d x y:=by
  unfold HU;rw[j];cases d <;> first|rfl|exact absurd rfl (h _)|exact absurd rfl (g _ _)
 unfold Yr NZ;rw[this]
theorem Zpv {ok:TypeId->Bool}(j:∀ t,ok t=true->P.stoodInHeld t=false/\P.eqGuardType P.depth t=false){op:BinOp}{t:TypeId}{X Y:Operand}{x y:AV}{u v:Value}{r:AV}
 (A:VRel S x u) (B:VRel S y v) (h:Zuu P ok op t x y=some r) :
 ∃ v',(do eqGuard op t X Y u v;binOp op t u v:Sem Value).run P S.w=.ok v' S.w/\VRel S r v':=by
 unfold Zuu at h;split at h
 ·unfold Z5 at h;split at h
  ·cases A with|int _ _ =>
   cases B with|int _ _ =>
   rw[Sem.run_bind,Ij rfl,Result.andThen_ok];exact ZlR h t
  ·cases h
 ·unfold YR at h;split at h
  ·cases A with|str _ b hb =>
   cases B with|str _ b' hb' =>
   rw[Sem.run_bind,Ij rfl,Result.andThen_ok];have I:binOp op t (.string b) (.string b')=Op.stringOp op b b':=by cases op <;> rfl
   rw[I];exact Zns hb hb' h
  ·cases h
 ·rename_i fs z;exact ZlU j (fun d g=>by rw[z]at g;injection g with g;subst g;exact⟨by simp,by simp⟩) A B h
 ·rename_i K J z;exact ZlU j (fun d g=>by rw[z]at g;injection g with g;subst g;exact⟨by simp,by simp⟩) A B h
 ·rename_i d C D E F z;rw[Zoe (ok:=ok) z E F]at h;exact ZlU j (fun d' g=>by rw[z]at g;injection g with g;subst g;exact⟨D,C⟩) A B h
 ·cases h
theorem Zs1 {op:UnOp}{x r:AV}{u:Value}(g:VRel S x u)(h:XL op x=some r):∃ v',(Op.unary op u).run P S.w=.ok v' S.w/\VRel S r v':=by
 unfold XL at h;split at h
 ·cases g;injection h with h;subst h;exact⟨_,rfl,.bool _⟩
 ·cases g;injection h with h;subst h;exact⟨_,rfl,.int _ _⟩
 ·cases g with|int k n =>
  obtain⟨v',j,y⟩:=Zea (P:=P) (S:=S) h 0;refine⟨v',?_,y⟩;rw[<-j];simp[Op.unary,binOp]
 ·cases h
theorem ZmA (off:Nat):∀ (j:List Value) (n:Nat) (g:Array Value) (i:Nat),
 ((j.zipIdx n).foldl (fun (a:Array Value) (p:Value×Nat)=>a.setIfInBounds (off+p.2) p.1) g)[i]? =
  if off+n<=i/\i<off+n+j.length/\i<g.size then j[i-off-n]? else g[i]?:=by
 intro j
 induction j with
 |nil=>intro n g i;simp;omega
 |cons c j y =>
  intro n g i;rw[List.zipIdx_cons,yH,y];simp only[Array.size_setIfInBounds,yP];by_cases h:off+n=i
  ·subst h;rw[if_neg (by omega)];by_cases w:off+n<g.size
   ·rw[if_pos (by omega)];simp[w]
   ·rw[if_neg (by omega),zY (by simp;omega),zY (by omega)]
  ·rw[Array.getElem?_setIfInBounds_ne h];by_cases u:off+(n+1)<=i/\i<off+(n+1)+j.length/\i<g.size
   ·rw[if_pos u,if_pos (by omega)];rw[show i-off-n=(i-off-(n+1))+1 by omega,List.getElem?_cons_succ]
   ·rw[if_neg u,if_neg (by omega)]
theorem ZsR (off:Nat):∀ (h:List (Value×Nat)) (g:Array Value),
 (h.foldl (fun (a:Array Value) (p:Value×Nat)=>a.setIfInBounds (off+p.2) p.1) g).size=g.size:=by
 intro h
 induction h with
 |nil=>intro g;rfl
 |cons c h j=>intro g;rw[yH,j];simp
theorem Zlo (l:List AV)(off:Nat)(g:List AV)(h:off+g.length<=l.length):(splice l off g).length=l.length:=by
 simp[splice];omega
theorem ZiS (l:List AV)(off:Nat)(g:List AV)(h:off+g.length<=l.length)(i:Nat) :
 (splice l off g)[i]?=if off<=i/\i<off+g.length then g[i-off]? else l[i]?:=by
 unfold splice;by_cases j:i<off
 ·rw[if_neg (by omega),zL (by simp;omega),zL (by simp;omega),zQ j]
 ·by_cases u:i<off+g.length
  ·rw[if_pos (by omega),zL (by simp;omega),zN (by simp;omega)];congr 1;simp;omega
  ·rw[if_neg (by omega),zN (by simp;omega),zT];congr 1;simp;omega
theorem ZpJ {l j:List AV}{off:Nat}(h:l.all AV.isCell=true)(u:j.all AV.isCell=true):(splice l off j).all AV.isCell=true:=by
 rw[zI]at h u ⊢;intro x g;simp only[splice,List.mem_append]at g;rcases g with (g|g)|g
 ·exact h x (yD g)
 ·exact u x g
 ·exact h x (zM g)
theorem CellsRel.splice {l:List AV}{c:Array Value}(h:CellsRel S l c){g:List AV}{d:Array Value}(w:CellsRel S g d){off:Nat}(y:off+g.length<=l.length) :
 CellsRel S (splice l off g) (d.zipIdx.foldl (fun (a:Array Value) (p:Value×Nat)=>a.setIfInBounds (off+p.2) p.1) c):=by
 rw[<-Array.foldl_toList,Array.toList_zipIdx];refine⟨by rw[ZsR,Zlo l off g y];exact h.size,fun i x v u j=>?_,ZpJ h.cell w.cell⟩;rw[ZmA off d.toList 0 c i]at j;rw[ZiS l off g y]at u;have A:d.toList.length=g.length:=by rw[Array.length_toList];exact w.size
 have z:=h.size;by_cases hi:off<=i/\i<off+g.length
 ·rw[if_pos hi]at u;rw[if_pos (by omega)]at j;simp only[Nat.sub_zero,yB]at j;exact w.rel _ x v u j
 ·rw[if_neg hi]at u;rw[if_neg (by omega)]at j;exact h.rel i x v u j
theorem JO {α β:Type}{f:α->Option β}:∀ {l:List α} {r:List β},l.mapM f=some r->r.length=l.length/\∀ (i:Nat) (a:α),l[i]?=some a->∃ b,f a=some b/\r[i]?=some b:=by
 intro l
 induction l with
 |nil=>intro r h;simp at h;subst h;simp
 |cons x l y =>
  intro r h;rw[yK]at h
  cases g:f x with
  |none=>simp[g]at h
  |some b =>
   cases j:l.mapM f with
   |none=>simp[g,j]at h
   |some z =>
    simp[g,j]at h;subst h;obtain⟨u,w⟩:=y j;refine⟨by simp[u],fun i a hi=>?_⟩
    cases i with
    |zero=>simp at hi;subst hi;exact⟨b,g,rfl⟩
    |succ i=>simpa using w i a (by simpa using hi)
theorem ZfQ {place:Nat->Option (Nat×Nat)}:∀ (parts:List (Nat×AV)) (g:List (Nat×Value)) (u:List (Nat×Nat×AV)) (l r:List AV) (c:Array Value),
 parts.length=g.length->u.length=parts.length ->
 (∀ (j:Nat) (p:Nat×AV) (q:Nat×Value),parts[j]?=some p->g[j]?=some q->p.1=q.1/\VRel S p.2 q.2) ->
 (∀ (j:Nat) (p:Nat×AV),parts[j]?=some p->∃ o,place p.1=some o/\u[j]?=some (o.1,o.2,p.2)) ->
 CellsRel S l c->YS u l=some r->∃ d,Instr.fill place c g=some d/\CellsRel S r d:=by
 intro parts
 induction parts with
 |nil =>
  intro g u l r c F w _ _ E h;have C:g=[]:=zF (by simpa using F.symm);have D:u=[]:=zF (by simpa using w);subst C D;simp[YS]at h;subst h;exact⟨c,rfl,E⟩
 |cons p parts T =>
  intro g u l r c F w y B E h
  cases g with
  |nil=>simp at F
  |cons q g =>
   cases u with
   |nil=>simp at w
   |cons U u =>
    obtain⟨C,D⟩:=y 0 p q rfl rfl;obtain⟨i,v⟩:=q;obtain⟨R,a⟩:=p;simp only at C D;subst C;obtain⟨⟨off,size⟩,K,A⟩:=B 0 (R,a) rfl;simp only[List.getElem?_cons_zero,zV]at A;subst A;unfold YS at h;split at h
    ·rename_i z;obtain⟨I,J,M⟩:=z;have L:=D.cells I;unfold Instr.fill;simp only at K;simp only[K];have O:v.cells.size=size:=by rw[L.size];exact J
     have Q:=E.size;rw[if_neg (by simp;omega)]
     refine T g u _ r _ (by simpa using F) (by simpa using w) (fun j p q w N=>y (j+1) p q (by simpa using w) (by simpa using N))
      (fun j p w=>by simpa using B (j+1) p (by simpa using w)) ?_ h
     exact E.splice L (by omega)
    ·cases h
end
section
variable {P:Program}{S:Snap}{W0:World}{H:Hp}
theorem YJ (b off n:Nat):(⟨b,off,none⟩:Addr).add n=⟨b,off+n,none⟩:=by
 unfold Addr.add;split <;> simp_all
theorem VRel.drop {cells:List AV}{b o:Nat}(h:VRel S (.vp cells) (.pointer (some ⟨b,o,none⟩)))(n:Nat):VRel S (.vp (cells.drop n)) (.pointer (some ⟨b,o+n,none⟩)):=by
 cases h with|vp _ _ _ f h0 h1 h2 =>
 refine .vp _ b (o+n) (fun i=>f (n+i)) (by rw[zI]at h0 ⊢;exact fun x j=>h0 x (zM j)) (fun i hi=>?_) (fun i c g=>?_)
 ·have:=h1 (n+i) (by simp at hi;omega)
  rwa [<-Nat.add_assoc]at this
 ·rw[zT]at g;exact h2 (n+i) c g
theorem Zdw {x r:AV}{u:Value}{n:Nat}(g:VRel S x u)(h:Z6 n x=some r):∃ b o,u=.pointer (some ⟨b,o,none⟩)/\VRel S r (.pointer (some ⟨b,o+n,none⟩)):=by
 unfold Z6 at h;split at h
 ·cases g with|ptr _ _ b hb =>
  injection h with h;subst h;exact⟨b,_,rfl,.ptr _ _ b hb⟩
 ·cases g with|wp _ _ _ b hb =>
  injection h with h;subst h;exact⟨b,_,rfl,.wp _ _ _ b hb⟩
 ·split at h
  ·injection h with h;subst h;cases g with|vp _ b off f h0 h1 h2 =>
   exact⟨b,off,rfl,(VRel.vp _ b off f h0 h1 h2).drop n⟩
  ·cases h
 ·cases h
theorem ZoM {t:TypeId}{f:Nat}{j:Field}{sz b o:Nat}(g:Ol P t f=some j)(y:Xe P j.type=some sz)(z:0<sz)(w:World) :
 (Instr.fieldAt t (.pointer (some ⟨b,o,none⟩)) f).run P w=.ok (.pointer (some ⟨b,o+j.offset,none⟩)) w:=by
 unfold Ol at g
 cases h:P.underlying t with
 |none=>simp[h]at g
 |some d =>
  cases d with
  |struct fs =>
   simp only[h]at g;have u:sz≠0:=by omega
   simp[Instr.fieldAt,run_underlying h,g,Instr.sureAddr,fieldPlace,X0 y,u,YJ]
  |_=>simp[h]at g
theorem ZtZ {t:TypeId}{f:Nat}{j:Field}{u:Array Value}(g:Ol P t f=some j)(w:World) :
 (Instr.field t (.agg u) f).run P w=(part j.type u j.offset).run P w:=by
 unfold Ol at g
 cases h:P.underlying t with
 |none=>simp[h]at g
 |some d =>
  cases d with
  |struct fs =>
   simp only[h]at g;simp[Instr.field,run_underlying h,g,asAgg]
  |_=>simp[h]at g
theorem ZkZ {t e:TypeId}{size:Nat}{x i r:AV}{u v:Value}(C:P.underlying t=some (.slice e))(B:Xe P e=some size)(D:VRel S x u)(hi:VRel S i v)
 (h:Zo size x i=some r):∃ v',(Instr.indexAt t u v).run P S.w=.ok v' S.w/\VRel S r v':=by
 unfold Zo at h;split at h
 ·rename_i k tok l I n;split at h
  ·rename_i j;obtain⟨rfl,K⟩:=j;split at h
   ·rename_i el g;injection h with h;subst h;cases hi with|int _ _ =>
    cases D with|vs _ _ _ b off cap f hcap hk h1 h2 ht sp hsp =>
    have A:n.toNat<l.length:=by
     rcases zD n.toNat l.length with z|z
     ·exact z
     ·rw[zA z]at g;cases g
    obtain rfl:sp=none:=hsp.resolve_right (by omega);obtain⟨F,y⟩:=hk el (yC g);refine⟨.pointer (some ⟨b,off+n.toNat*k,none⟩),?_,?_⟩
    ·have M:0<=n/\n<(l.length:Int):=⟨K,by omega⟩;simp[Instr.indexAt,asIntOf,run_underlying C,M,X0 B,YJ]
    ·refine .vp _ b _ (fun i=>f n.toNat i) y (fun i hi=>?_) (fun i c j=>h2 n.toNat el i c g j);exact h1 n.toNat i A (by omega)
   ·cases h
  ·cases h
 ·rename_i ag k o off len cap I n;split at h
  ·rename_i j;injection h with h;subst h;cases hi with|int _ _ =>
   cases D with|rs _ _ _ _ _ _ b hb hlen =>
   refine⟨.pointer (some ⟨b,off+n.toNat*size,none⟩),?_,.ptr _ _ _ hb⟩;simp[Instr.indexAt,asIntOf,run_underlying C,j,X0 B,YJ]
  ·cases h
 ·rename_i ag k o R len I n;split at h
  ·rename_i j;injection h with h;subst h;cases hi with|int _ _ =>
   cases D with|ws _ _ _ _ _ cap b hb hlen =>
   obtain⟨e0,J,hw0,E,N,O,Q⟩:=hb;refine⟨.pointer (some ⟨b,n.toNat*size,none⟩),?_,.wp _ _ _ _ ⟨e0,J,hw0,E,N,O,fun L=>(Q L).1⟩⟩;simp[Instr.indexAt,asIntOf,run_underlying C,j,X0 B,YJ]
  ·cases h
 ·cases h
theorem ZkY {t e:TypeId}{len size:Nat}{x i r:AV}{u v:Value}(z:P.underlying t=some (.array len e))(y:Xe P e=some size)(A:VRel S x u)(hi:VRel S i v)
 (h:WO len size x i=some r):∃ v',(Instr.indexAt t u v).run P S.w=.ok v' S.w/\VRel S r v':=by
 unfold WO at h;split at h
 ·rename_i B n;split at h
  ·rename_i g;cases hi with|int _ _ =>
   obtain⟨b,o,rfl,j⟩:=Zdw A h;refine⟨_,?_,j⟩;simp[Instr.indexAt,asIntOf,run_underlying z,Instr.sureAddr,g,X0 y,YJ]
  ·cases h
 ·cases h
theorem ZhL {t:TypeId}{x i r:AV}{u v:Value}(C:P.underlying t=some .string)(D:VRel S x u)(hi:VRel S i v)(h:Zx x i=some r) :
 ∃ v',(Instr.index t u v).run P S.w=.ok v' S.w/\VRel S r v':=by
 unfold Zx at h;split at h
 ·rename_i s E n;split at h
  ·rename_i z;split at h
   ·rename_i c g;injection h with h;subst h;cases hi with|int _ _ =>
    cases D with|str _ b hb =>
    subst hb
    have y:n.toNat<b.size:=by
     rw[<-W3];rcases zD n.toNat b.data.toList.length with j|j
     ·exact j
     ·rw[zA j]at g;cases g
    have B:b[n.toNat]=c:=by
     have A:b.data.toList[n.toNat]?=some b[n.toNat]:=by
      rw[zR (by rw[W3];exact y)];rfl
     rw[A]at g;injection g
    refine⟨.int .u8 c.toNat,?_,.int _ _⟩;rw[run_index_string S.w t b E n C,dif_pos ⟨z,by omega⟩,B]
   ·cases h
  ·cases h
 ·cases h
theorem ZhK {t e:TypeId}{g:Bool}{len size:Nat}{x i r:AV}{u v:Value}(B:P.underlying t=some (.array len e))(z:Xr P e=some g)(j:Xe P e=some size)
 (D:VRel S x u) (hi:VRel S i v) (h:Zdx g len size x i=some r):∃ v',(Instr.index t u v).run P S.w=.ok v' S.w/\VRel S r v':=by
 unfold Zdx at h;split at h
 ·rename_i E F n;split at h
  ·rename_i y;cases hi with|int _ _ =>
   cases D with|agg _ vs h0 h1 h2 =>
   obtain⟨v',A,C⟩:=BA z j ⟨h1,h2,h0⟩ h;refine⟨v',?_,C⟩;simp[Instr.index,asIntOf,run_underlying B,y,X0 j,A]
  ·cases h
 ·cases h
def LZ (S:Snap):Option AV->Option Value->Prop
 |none,none=>True
 |some a,some v=>VRel S a v
 |_,_=>False
theorem Tl {x:AV}{v:Value}{y n:Nat}(u:VRel S x v)(h:X8 x y=some n)(g:BoundsCode)(w:World):(Instr.sliceBound v y g).run P w=.ok n w/\n<=y:=by
 unfold X8 at h;split at h
 ·rename_i z m;split at h
  ·rename_i j;injection h with h;subst h;cases u with|int _ _ =>
   refine⟨?_,by omega⟩;simp[Instr.sliceBound,asIntOf,j]
  ·cases h
 ·cases h
theorem Qi {isS:Bool}{len cap:Nat}{lo hi mx:Option AV}{u A mx':Option Value}{l h m:Nat}(F:LZ S lo u)(z:LZ S hi A)(I:LZ S mx mx')
 (B:Ys len cap lo hi mx=some (l,h,m)) (w:World) :
 (Instr.sliceBounds isS len cap u A mx').run P w=.ok (l,h,m) w/\l<=h/\(hi≠none->h<=m)/\(hi=none->h=len/\mx=none)/\m<=cap/\(mx=none->m=cap):=by
 unfold Ys at B;split at B
 ·cases B
 rename_i R D;split at B
 ·cases B
 rename_i M j;split at B
 ·cases B
 rename_i L C;injection B with B;obtain⟨rfl,rfl,rfl⟩:L=l/\M=h/\R=m:=by simpa using B
 have g:(lo=none/\u=none/\L=0)\/∃ v,u=some v/\∀ y,(Instr.sliceBound v M y).run P w=.ok L w/\L<=M:=by
  cases lo with
  |none=>cases u with
   |none=>injection C with C;exact .inl ⟨rfl,rfl,C.symm⟩
   |some _=>exact F.elim
  |some a=>cases u with
   |none=>exact F.elim
   |some v=>exact .inr ⟨v,rfl,fun y=>Tl F C y w⟩
 have E:L<=M:=by
  rcases g with ⟨_,_,rfl⟩|⟨v,_,J⟩
  ·exact Nat.zero_le _
  ·exact (J .sliceB).2
 cases mx with
 |none =>
  cases mx' with
  |some _=>exact I.elim
  |none =>
   injection D with D;subst D
   cases hi with
   |none =>
    cases A with
    |some _=>exact z.elim
    |none =>
     injection j with j;subst j;refine⟨?_,E,(fun h=>absurd rfl h),(fun _=>⟨rfl,rfl⟩),yA _,(fun _=>rfl)⟩;unfold Instr.sliceBounds;rcases g with ⟨_,rfl,rfl⟩|⟨v,rfl,J⟩
     ·simp
     ·simp[(J _).1]
   |some a =>
    cases A with
    |none=>exact z.elim
    |some v =>
     obtain⟨K,N⟩:=Tl (P:=P) z j (if isS then .sliceAcap else .sliceAlen) w;refine⟨?_,E,(fun _=>N),(fun h=>by cases h),yA _,(fun _=>rfl)⟩;unfold Instr.sliceBounds;rcases g with ⟨_,rfl,rfl⟩|⟨v,rfl,J⟩
     ·simp[K]
     ·simp[K,(J _).1]
 |some a =>
  cases mx' with
  |none=>exact I.elim
  |some v =>
   obtain⟨O,Q⟩:=Tl (P:=P) I D (if isS then .slice3Acap else .slice3Alen) w
   cases hi with
   |none=>cases j
   |some a =>
    cases A with
    |none=>exact z.elim
    |some v' =>
     obtain⟨K,N⟩:=Tl (P:=P) z j .slice3B w;refine⟨?_,E,(fun _=>N),(fun h=>by cases h),Q,(fun h=>by cases h)⟩;unfold Instr.sliceBounds;rcases g with ⟨_,rfl,rfl⟩|⟨v,rfl,J⟩
     ·simp[K,O]
     ·simp[K,O,(J _).1]
theorem Zjz (b:ByteArray)(l h:Nat):(b.extract l h).data.toList=(b.data.toList.take h).drop l:=by
 rw[ByteArray.data_extract,Array.toList_extract,List.extract_eq_take_drop,List.drop_take]
theorem ZhP {t:TypeId}{s:List UInt8}{b:ByteArray}{lo hi:Option AV}{u j:Option Value}{r:AV}(D:P.underlying t=some .string)(C:b.data.toList=s)
 (z:LZ S lo u) (y:LZ S hi j) (h:GW s lo hi=some r):∃ v',(Instr.slice t (.string b) u j none).run P S.w=.ok v' S.w/\VRel S r v':=by
 subst C;unfold GW at h;split at h
 ·rename_i l A m g;injection h with h;subst h;rw[W3]at g;obtain⟨B,_⟩:=Qi (P:=P) (isS:=false) (mx:=none) (mx':=none) z y trivial g S.w;refine⟨.string (b.extract l A),?_,.str _ _ (Zjz b l A)⟩;simp[Instr.slice,run_underlying D,B]
 ·cases h
theorem ZmE {α:Type}(l:List α)(a h j:Nat)(x:α)(g:((l.take h).drop a)[j]?=some x):l[a+j]?=some x/\a+j<h:=by
 rw[zT]at g;rcases zD (a+j) h with u|u
 ·rw[zQ u]at g;exact⟨g,u⟩
 ·rw[zA (by simp;omega)]at g;cases g
theorem Zl2 {t e:TypeId}{size:Nat}{x r:AV}{u:Value}{lo hi mx:Option AV}{X U mx':Option Value}(hu:P.underlying t=some (.slice e))(hs:Xe P e=some size)
 (hx:VRel S x u) (J:LZ S lo X) (F:LZ S hi U) (K:LZ S mx mx') (h:Yg size x lo hi mx=some r) :
 ∃ v',(Instr.slice t u X U mx').run P S.w=.ok v' S.w/\VRel S r v':=by
 unfold Yg at h;split at h
 ·split at h
  ·rename_i q g;injection h with h;subst h;obtain⟨a,D,m⟩:=q;cases hx with|nils =>
   obtain⟨h1,h2,h3,h4,h5,h6⟩:=Qi (P:=P) (isS:=true) J F K g S.w;have hm:m=0:=by omega
   have aa:D=0:=by
    cases hi with
    |none=>exact (h4 rfl).1
    |some _=>have:=h3 (by simp);omega
   have ha:a=0:=by omega
   subst hm aa ha;exact⟨.slice none 0 0,by simp[Instr.slice,run_underlying hu,h1,X0 hs],.nils⟩
  ·cases h
 ·rename_i k tok l;split at h
  ·rename_i hk;subst hk;split at h
   ·rename_i a D m g;injection h with h;subst h;cases hx with|vs _ _ _ b off cap f hcap hke h1 h2 ht sp hsp =>
    -- the same bounds against the true capacity
    have ad:∃ E,Ys l.length cap lo hi mx=some (a,D,E)/\(mx≠none->E=m)/\(mx=none->E=cap/\m=l.length):=by
     unfold Ys at g ⊢
     cases mx with
     |none =>
      simp only at g ⊢
      cases hi with
      |none =>
       simp only at g ⊢;split at g
       ·cases g
       ·rename_i l1 I;injection g with g;simp only[yL]at g;obtain⟨rfl,rfl,rfl⟩:=g;try rw[I]
        exact⟨cap,rfl,fun h=>absurd rfl h,fun _=>⟨rfl,rfl⟩⟩
      |some v =>
       simp only at g ⊢;split at g
       ·cases g
       ·rename_i Q B
        have R:X8 v cap=some Q:=by
         unfold X8 at B ⊢;split at B
         ·split at B
          ·rename_i A;injection B with B;subst B;rw[if_pos ⟨A.1,by omega⟩]
          ·cases B
         ·cases B
        rw[R];try simp only
        split at g
        ·cases g
        ·rename_i l1 I;injection g with g;simp only[yL]at g;obtain⟨rfl,rfl,rfl⟩:=g;try rw[I]
         exact⟨cap,rfl,fun h=>absurd rfl h,fun _=>⟨rfl,rfl⟩⟩
     |some v =>
      simp only at g ⊢;split at g
      ·cases g
      ·rename_i m1 C
       have V:X8 v cap=some m1:=by
        unfold X8 at C ⊢;split at C
        ·split at C
         ·rename_i A;injection C with C;subst C;rw[if_pos ⟨A.1,by omega⟩]
         ·cases C
        ·cases C
       rw[V];try simp only
       split at g
       ·cases g
       ·rename_i Q B;try rw[B]
        try simp only
        split at g
        ·cases g
        ·rename_i l1 I;injection g with g;simp only[yL]at g;obtain⟨rfl,rfl,rfl⟩:=g;try rw[I]
         exact⟨m1,rfl,fun _=>rfl,fun h=>by cases h⟩
    obtain⟨E,af,C,W⟩:=ad;obtain⟨_,g2,g3,g4,g5,g6⟩:=Qi (P:=P) (isS:=true) J F K g S.w;obtain⟨O,e2,Y,Z,e5,e6⟩:=Qi (P:=P) (isS:=true) J F K af S.w
    have T:D<=l.length:=by
     cases hi with
     |none=>exact Nat.le_of_eq (g4 rfl).1
     |some _=>have:=g3 (by simp);omega
    have z:((l.take D).drop a).length=D-a:=by simp;omega
    have ah:D<=E:=by
     cases hi with
     |none=>obtain⟨p,q⟩:=Z rfl;have:=(W q).1;omega
     |some _=>exact Y (by simp)
    have L:¬ E=a->sp=none:=fun ak=>hsp.resolve_right (by omega);refine⟨.slice (some ⟨b,if E=a then off else off+a*k,sp⟩) (D-a) (E-a),?_,?_⟩
    ·simp[Instr.slice,run_underlying hu,O,X0 hs];by_cases A:E=a
     ·simp[A]
     ·obtain rfl:=L A;simp[A,YJ]
    ·rw[<-z];refine .vs k _ _ b _ (E-a) (fun j i=>f (a+j) i) (by rw[z];omega) (fun e M=>hke e (yD (zM M))) (fun j i hj hi=>?_) (fun j e i c M A=>?_) ?_ sp (if A:E=a then .inr (by omega) else .inl (L A))
     ·rw[z]at hj;have A:¬ E=a:=by omega
      rw[if_neg A];have:=h1 (a+j) i (by omega) hi
      rwa [show off+(a+j)*k+i=off+a*k+j*k+i by rw[zP];omega]at this
     ·exact h2 (a+j) e i c (ZmE l a D j e M).1 A
     ·cases mx with
      |some v =>
       have aj:E=m:=C (by simp);try simp only
       split
       ·simp only[TokOk,z];omega
       ·trivial
      |none =>
       obtain⟨rfl,ai⟩:=W rfl;try simp only
       split
       ·rename_i ab
        cases tok with
        |no=>trivial
        |clip=>simp only[TokOk]at ht ⊢;rw[z];omega
        |own tt ee =>
         obtain⟨e0,b0,hw0,N,q1,q2,q3⟩:=ht;refine⟨e0,b0,hw0,N,q1,q2,fun M ac=>?_⟩;rw[z]at ac;obtain⟨p1,p2,p3⟩:=q3 M (by omega);rw[if_neg (by omega),z];have:D*k=a*k+(D-a)*k:=by rw[<-zP];congr 1;omega
         have:E*k=a*k+(E-a)*k:=by rw[<-zP];congr 1;omega
         subst ab;refine⟨p1,by omega,by omega⟩
       ·trivial
   ·cases h
  ·cases h
 ·rename_i ag k o off len cap;split at h
  ·rename_i a D m g;injection h with h;subst h;cases hx with|rs _ _ _ _ _ _ b hb z =>
   obtain⟨O,e2,Y,Z,e5,e6⟩:=Qi (P:=P) (isS:=true) J F K g S.w;refine⟨.slice (some ⟨b,if m=a then off else off+a*size,none⟩) (D-a) (m-a),?_,.rs _ _ _ _ _ _ b hb ?_⟩
   ·simp[Instr.slice,run_underlying hu,O,X0 hs];by_cases A:m=a
    ·simp[A]
    ·simp[A,YJ]
   ·cases hi with
    |none=>obtain⟨p,q⟩:=Z rfl;have:=e6 q;omega
    |some _=>have:=Y (by simp);omega
  ·cases h
 ·rename_i ag k o e' len;split at h
  ·rename_i v;split at h
   ·rename_i D y;split at h
    ·rename_i hk;subst hk;injection h with h;subst h;cases hx with|ws _ _ _ _ _ cap b hb z =>
     have T:D<=len:=by
      unfold X8 at y;split at y
      ·split at y
       ·injection y with y;omega
       ·cases y
      ·cases y
     have ae:X8 v cap=some D:=by
      unfold X8 at y ⊢;split at y
      ·split at y
       ·rename_i A;injection y with y;subst y;rw[if_pos ⟨A.1,by omega⟩]
       ·cases y
      ·cases y
     have g:Ys len cap none (some v) none=some (0,D,cap):=by
      unfold Ys;simp[ae]
     obtain⟨O,e2,Y,Z,e5,e6⟩:=Qi (P:=P) (isS:=true) J F K g S.w;obtain⟨e0,b0,hw0,N,q1,q2,q3⟩:=hb;refine⟨.slice (some ⟨b,0,none⟩) D cap,?_,.ws _ _ _ _ _ _ _ ⟨e0,b0,hw0,N,q1,q2,fun M=>?_⟩ (by omega)⟩
     ·simp[Instr.slice,run_underlying hu,O,X0 hs];by_cases A:cap=0
      ·simp[A]
      ·simp[A,YJ]
     ·obtain⟨p1,p2,p3⟩:=q3 M;exact⟨p1,yT (zE k T) p2,p3⟩
    ·cases h
   ·cases h
  ·cases h
 ·cases h
end
section
variable {P:Program}{S:Snap}{W0:World}{H:Hp}
theorem L1:∀ (n:Nat) (v:Value),VRel S (Qk n v) v:=by
 intro n
 induction n with
 |zero =>
  intro v;unfold Qk
  split <;> first
   |exact .undef _
   |exact .bool _
   |exact .int _ _
   |exact .str _ _ rfl
   |exact .nilp
   |exact .nils
   |exact .nilm
   |exact .nilf
   |exact .nili
   |(rename_i h;cases h)
 |succ n w =>
  have j:∀ (g:Array Value) (i:Nat) (c:AV) (v:Value),(g.toList.map (Qk n))[i]?=some c->g[i]?=some v->VRel S c v:=by
   intro g i c v hi y;rw[zK,yB,y]at hi;simp at hi;subst hi;exact w v
  intro v;unfold Qk
  split <;> first
   |exact .undef _
   |exact .bool _
   |exact .int _ _
   |exact .str _ _ rfl
   |exact .nilp
   |exact .nils
   |exact .nilm
   |exact .nilf
   |exact .nili
   |(rename_i u g h;injection h with h;subst h;split <;> first|exact .agg _ _ ‹_› (by simp) (j g)|exact .undef _)
   |(rename_i u g h;injection h with h;subst h;exact .tuple _ _ (by simp) (j g))
   |(rename_i u t v h;injection h with h;subst h;exact .iface t _ _ (w v))
   |(rename_i u fn f c h;injection h with h;subst h;exact .fn fn _ _ _ _ (by simp) (by simp) (j f) (j c))
theorem Uy {t:TypeId}{z:AV}(h:Jr P t=some z):∃ g,(∀ w:World,(zeroValue t).run P w=.ok g w)/\∀ S:Snap,VRel S z g:=by
 unfold Jr at h
 cases hi:P.info? t with
 |none=>simp[hi]at h
 |some i =>
  simp only[hi]at h
  cases j:i.zero with
  |none=>simp[j]at h
  |some g =>
   simp[j]at h;subst h;exact⟨g,fun w=>by simp[zeroValue,typeInfo,hi,j],fun S=>L1 3 g⟩
theorem Zll {α β:Type}{f:α->Option β}{g:α->Sem β}{w:World}(u:∀ a b,f a=some b->(g a).run P w=.ok b w):∀ {l:List α} {r:List β},l.mapM f=some r->(l.mapM g).run P w=.ok r w:=by
 intro l
 induction l with
 |nil=>intro r h;simp at h;subst h;rfl
 |cons x l z =>
  intro r h;rw[yK]at h
  cases j:f x with
  |none=>simp[j]at h
  |some b =>
   cases y:l.mapM f with
   |none=>simp[j,y]at h
   |some A =>
    simp[j,y]at h;subst h;rw[yK];simp[u x b j,z y]
theorem ZjP {α β:Type}{f:α->Option β}{g:α->Sem β}{w:World}(j:∀ a b,f a=some b->(g a).run P w=.ok b w){l:Array α}{r:List β}(h:l.toList.mapM f=some r) :
 (l.mapM g).run P w=.ok r.toArray w:=by
 rw[Array.mapM_eq_mapM_toList,Sem.run_map,Zll j h];rfl
theorem Zeu {y:Array (Nat×Operand)}{ev:Operand->AV}{ρ:Operand->Value}(h:∀ x,VRel S (ev x) (ρ x))(j:Nat)(p:Nat×AV)(q:Nat×Value)
 (u:(y.toList.map fun p=>(p.1,ev p.2))[j]?=some p) (w:((y.map fun (i,x)=>(i,ρ x)).toList)[j]?=some q):p.1=q.1/\VRel S p.2 q.2:=by
 simp only[Array.toList_map,zK,zZ]at u w;obtain⟨a,z,rfl⟩:=u;obtain⟨b,g,rfl⟩:=w;rw[z]at g;injection g with g;subst g;exact⟨rfl,h _⟩
theorem ZlK {t:TypeId}{M:Array (Nat×Operand)}{ev:Operand->AV}{ρ:Operand->Value}(F:∀ x,VRel S (ev x) (ρ x)){r:AV}
 (h:ZlJ P t (M.toList.map fun p=>(p.1,ev p.2))=some r):∃ v',(Instr.build t (M.map fun (i,x)=>(i,ρ x))).run P S.w=.ok v' S.w/\VRel S r v':=by
 unfold ZlJ at h;split at h
 ·rename_i zero fs U T;obtain⟨Y,C,D⟩:=Uy U;have B:=D S;cases B with|agg _ zarr Mi TG hz2 =>
  split at h
  ·rename_i y R;split at h
   ·rename_i L I
    cases A:YS L zero with
    |none=>simp[A]at h
    |some cells =>
     simp[A]at h;subst h
     have J:=ZjP (P:=P) (w:=S.w) (g:=fun f:Field=>do pure (f.offset,<-sizeOf f.type)) (fun f b N=>by
      cases K:Xe P f.type with
      |none=>simp[K]at N
      |some n=>simp[K]at N;subst N;simp[X0 K]) R
     obtain⟨W,X⟩:=JO I
     obtain⟨d,z,u⟩:=ZfQ (S:=S) (place:=fun i=>y.toArray[i]?) _ _ L zero cells zarr (by simp) W (Zeu F) (fun j p Q=>by
      obtain⟨b,E,O⟩:=X j p Q;simp only[zZ]at E;obtain⟨o,V,rfl⟩:=E;exact⟨o,by simpa using V,O⟩) ⟨TG,hz2,Mi⟩ A
     exact⟨.agg d,by unfold Instr.build;simp only[Sem.run_bind,C,Result.andThen_ok,run_underlying T,J,Value.cells,z,Sem.run_pure],.agg _ _ u.cell u.size u.rel⟩
   ·cases h
  ·cases h
 ·rename_i zero n e U T;obtain⟨Y,C,D⟩:=Uy U;have B:=D S;cases B with|agg _ zarr Mi TG hz2 =>
  split at h
  ·rename_i size K
   cases A:YS (List.map (fun p=>(p.1*size,size,p.2)) (M.toList.map fun p=>(p.1,ev p.2))) zero with
   |none=>simp only[A]at h;cases h
   |some cells =>
    simp only[A,yI,zV]at h;subst h
    obtain⟨d,z,u⟩:=ZfQ (S:=S) (place:=fun i=>some (i*size,size)) _ (M.map fun (i,x)=>(i,ρ x)).toList _ zero cells zarr (by simp) (by simp) (Zeu F) (fun j p Q=>by
     refine⟨_,rfl,?_⟩;rw[zK,Q];rfl) ⟨TG,hz2,Mi⟩ A
    exact⟨.agg d,by unfold Instr.build;simp only[Sem.run_bind,C,Result.andThen_ok,run_underlying T,X0 K,Value.cells,z,Sem.run_pure],.agg _ _ u.cell u.size u.rel⟩
  ·cases h
 ·cases h
def flat (l:List AV):List AV:=(l.map AV.cells).flatten
theorem ZV {k:Nat}:∀ {l:List AV},(∀ e∈l,e.cells.length=k)->(flat l).length=l.length*k:=by
 intro l
 induction l with
 |nil=>intro _;simp[flat]
 |cons e l w =>
  intro h;have j:=h e (by simp);have g:=w (fun e u=>h e (by simp[u]));simp only[flat,List.map_cons,List.flatten_cons,List.length_append,yP]at g ⊢;rw[j,g,zP];omega
theorem Kc {k:Nat}:∀ {l:List AV},(∀ e∈l,e.cells.length=k)->∀ (j i:Nat) (e:AV),l[j]?=some e->i<k->(flat l)[j*k+i]?=e.cells[i]?:=by
 intro l
 induction l with
 |nil=>intro _ j i e h;simp at h
 |cons a l z =>
  intro h j i e g hi;have u:=h a (by simp);have y:flat (a::l)=a.cells++flat l:=by simp[flat]
  rw[y]
  cases j with
  |zero =>
   simp at g;subst g;rw[zL (by omega)];simp
  |succ j =>
   rw[zN (by rw[u,zP];omega)];rw[show (j+1)*k+i-a.cells.length=j*k+i by rw[u,zP];omega];exact z (fun e w=>h e (by simp[w])) j i e (by simpa using g) hi
theorem Zvx {k:Nat}{l:List AV}(h:∀ e∈l,e.cells.length=k){j:Nat}{v:AV}(J:j<l.length)(y:v.cells.length=k):flat (l.set j v)=splice (flat l) (j*k) v.cells:=by
 have z:∀ e∈l.set j v,e.cells.length=k:=fun e I=>by
  rcases yF I with g|rfl
  ·exact h e g
  ·exact y
 have A:j*k+k<=l.length*k:=by
  have:(j+1)*k<=l.length*k:=zE k J;rw[zP]at this;omega
 apply List.ext_getElem?;intro i;rw[ZiS _ _ _ (by rw[ZV h,y];exact A)];rcases Nat.eq_zero_or_pos k with rfl|hk
 ·have F:(flat (l.set j v))=[]:=zF (by rw[ZV z];simp);have w:(flat l)=[]:=zF (by rw[ZV h];simp);rw[F,w,y];simp
 ·by_cases B:i<l.length*k
  ·obtain⟨q,r,E,rfl⟩:∃ q r,r<k/\i=q*k+r:=⟨i / k,i % k,Nat.mod_lt _ hk,by rw[yO];exact (yR i k).symm⟩
   have D:q<l.length:=by
    rcases zD q l.length with g|g
    ·exact g
    ·have:=zE k g;omega
   by_cases u:q=j
   ·subst u;rw[Kc z q r v (by simp[D]) E,if_pos (by omega)];congr 1;omega
   ·have C:¬ (j*k<=q*k+r/\q*k+r<j*k+v.cells.length):=by
     rintro⟨F,w⟩
     rw[y]at w;rcases Nat.lt_or_gt_of_ne u with g|g
     ·have:=zE k (zW g);rw[yG]at this;omega
     ·have:=zE k (zW g);rw[yG]at this;omega
    rw[if_neg C,Kc z q r l[q] (by rw[List.getElem?_set_ne (Ne.symm u)];simp[D]) E,Kc h q r l[q] (by simp[D]) E]
  ·have w:¬ (j*k<=i/\i<j*k+v.cells.length):=by rw[y];omega
   rw[if_neg w,zA (by rw[ZV z];simpa using B),zA (by rw[ZV h];omega)]
theorem Ah {l:List AV}(h:(flat l).all AV.isCell=true){e:AV}(g:e∈l):e.cells.all AV.isCell=true:=by
 rw[zI]at h ⊢;exact fun x j=>h x (yQ.2 ⟨e.cells,yV.2 ⟨e,g,rfl⟩,j⟩)
theorem HX {l:List AV}(h:∀ e∈l,e.cells.all AV.isCell=true):(flat l).all AV.isCell=true:=by
 rw[zI];intro x w;obtain⟨c,j,g⟩:=yQ.1 w;obtain⟨e,u,rfl⟩:=yV.1 j;exact zI.1 (h e u) x g
theorem NL {k:Nat}{tok:Tok}{l:List AV}{b off cap:Nat}{c:Array Value}{el:TypeId}{fz:Nat×Nat}(F:S.w.heap[b]?=some (.cells c el fz))(A:l.length<=cap)(hk:∀ e∈l,e.cells.length=k)(h:(flat l).all AV.isCell=true)
 (I:∀ i,i<l.length*k->S.pub b (off+i)) (K:off+l.length*k<=c.size) (J:∀ (i:Nat) (x:AV) (v:Value),(flat l)[i]?=some x->c[off+i]?=some v->VRel S x v)
 (L:TokOk S k tok l.length b off cap):VRel S (.vs k tok l) (.slice (some ⟨b,off,none⟩) l.length cap):=by
 have y:∀ j i,j<l.length->i<k->j*k+i<l.length*k:=fun j i C hi=>by
  have:=zE k (zW C);rw[yG]at this;omega
 refine .vs k tok l b off cap (fun j i=>c.getD (off+(j*k+i)) undef) A (fun e u=>⟨hk e u,Ah h u⟩) (fun j i C hi=>⟨?_,?_⟩) (fun j e i x u E=>?_) L none (.inl rfl)
 ·have:=y j i C hi;rw[show off+j*k+i=off+(j*k+i) by omega];have z:off+(j*k+i)<c.size:=by omega
  simp[World.cell?,F,z]
 ·rw[show off+j*k+i=off+(j*k+i) by omega];exact I _ (y j i C hi)
 ·have D:j<l.length:=by
   rcases zD j l.length with g|g
   ·exact g
   ·rw[zA g]at u;cases u
  have B:i<k:=by
   rw[<-hk e (yC u)];rcases zD i e.cells.length with g|g
   ·exact g
   ·rw[zA g]at E;cases E
  have:=y j i D B;have z:off+(j*k+i)<c.size:=by omega
  refine J (j*k+i) x _ (by rw[Kc hk j i e u B];exact E) ?_;simp[z]
theorem Zkm (S:Snap)(o:Obj):(S.grow o).w.heap[S.w.heap.size]?=some o:=heap_alloc_new S.w o
theorem ZjQ {size:Nat}:∀ (parts:List (Nat×AV)) (g:List (Nat×Value)) (l r:List AV) (c:Array Value),parts.length=g.length ->
 (∀ (j:Nat) (p:Nat×AV) (q:Nat×Value),parts[j]?=some p->g[j]?=some q->p.1=q.1/\VRel S p.2 q.2) ->
 (∀ e∈l,e.cells.length=size)->CellsRel S (flat l) c->ZB size parts l=some r ->
 ∃ d,Instr.fill (fun i=>some (i*size,size)) c g=some d/\CellsRel S (flat r) d/\(∀ e∈r,e.cells.length=size)/\r.length=l.length:=by
 intro parts
 induction parts with
 |nil =>
  intro g l r c D _ hk C h;have B:g=[]:=zF (by simpa using D.symm);subst B;simp[ZB]at h;subst h;exact⟨c,rfl,C,hk,rfl⟩
 |cons p parts X =>
  intro g l r c D u hk C h
  cases g with
  |nil=>simp at D
  |cons q g =>
   obtain⟨B,N⟩:=u 0 p q rfl rfl;obtain⟨i,v⟩:=q;obtain⟨M,a⟩:=p;simp only at B N;subst B;unfold ZB at h;split at h
   ·rename_i w;obtain⟨K,y,z⟩:=w;have O:=N.cells K;have W:v.cells.size=size:=by rw[O.size];exact y
    have L:=C.size
    have T:M*size+size<=l.length*size:=by
     have:=zE size (zW z);rw[yG]at this;exact this
    rw[ZV hk]at L;unfold Instr.fill;simp only;rw[if_neg (by simp;omega)]
    have A:∀ e∈l.set M a,e.cells.length=size:=fun e R=>by
     rcases yF R with Q|rfl
     ·exact hk e Q
     ·exact y
    obtain⟨d,E,F,I,J⟩:=X g (l.set M a) r _ (by simpa using D) (fun j p q U V=>u (j+1) p q (by simpa using U) (by simpa using V)) A (by
     rw[Zvx hk z y];exact C.splice O (by rw[ZV hk];omega)) h
    exact⟨d,E,F,I,by simpa using J⟩
   ·cases h
theorem ZjB (z:AV):∀ n,flat (zG n z)=(zG n z.cells).flatten:=by
 intro n;simp[flat]
theorem Zgf {z:AV}{j:Value}{k:Nat}(K:VRel S z j)(B:z.known=true)(hk:z.cells.length=k)(I:0<k)(n:Nat) :
 CellsRel S (flat (zG n z)) ((yJ (n*k)).map (j.cells[· % j.cells.size]!)):=by
 have y:=K.cells B;have g:∀ e∈zG n z,e.cells.length=k:=fun e A=>by rw[zS A];exact hk
 refine⟨by simp[ZV g],fun i x v w F=>?_,HX fun e A=>by rw[zS A];exact y.cell⟩
 have C:i<n*k:=by
  rcases zD i (n*k) with h|h
  ·exact h
  ·rw[zA (by rw[ZV g];simpa using h)]at w;cases w
 obtain⟨q,r,E,rfl⟩:∃ q r,r<k/\i=q*k+r:=⟨i / k,i % k,Nat.mod_lt _ I,by rw[yO];exact (yR i k).symm⟩
 have J:q<n:=by
  rcases zD q n with h|h
  ·exact h
  ·have:=zE k h;omega
 rw[Kc g q r z (by simp[J]) E]at w;have D:j.cells.size=k:=by rw[y.size,hk]
 have u:(q*k+r) % j.cells.size=r:=by rw[D,yO,Nat.mul_add_mod];exact Nat.mod_eq_of_lt E
 simp only[yM,Array.getElem?_range,C,yI,zV,if_true,u]at F;refine y.rel r x v w ?_;rw[<-F];have:r<j.cells.size:=by omega
 simp[this]
theorem Tx {t e:TypeId}(h:ZeR P t=some e):P.underlying t=some (.slice e):=by
 unfold ZeR at h;split at h
 ·injection h with h;subst h;assumption
 ·cases h
theorem ZkX {t:TypeId}{n:Nat}{ps:Array (Nat×Operand)}{ev:Operand->AV}{ρ:Operand->Value}(hev:∀ x,VRel S (ev x) (ρ x)){r:AV}
 (h:Zjn P t n (ps.toList.map fun p=>(p.1,ev p.2))=some r):Yields P W0 S H (Instr.buildSlice t n (ps.map fun (i,x)=>(i,ρ x))) r H:=by
 intro hI;unfold Zjn at h;split at h
 ·rename_i e he;have hu:=Tx he;split at h
  ·rename_i size z hs hz;split at h
   ·rename_i hc;obtain⟨hc1,hc2,hc3,hc4⟩:=hc;obtain⟨zc,hzr,hzv⟩:=Uy hz
    cases hf:ZB size (ps.toList.map fun p=>(p.1,ev p.2)) (zG n z) with
    |none=>simp[hf]at h
    |some l =>
     simp[hf]at h;subst h
     obtain⟨d,hd1,hd2,hd3,hd4⟩:=ZjQ (S:=S) _ _ (zG n z) l _ (by simp) (Zeu hev)
      (fun e he=>by rw[zS he];exact hc3) (Zgf (hzv S) hc2 hc3 hc4 n) hf
     simp only[List.length_replicate]at hd4;refine⟨.slice (some ⟨S.w.heap.size,0,none⟩) n n,S.grow (.cells d e),?_,Ext.grow hI _,hI.grow _,?_⟩
     ·have h1:¬ (n*size > 2 ^ 24):=by omega
      have hgo:∀ zr:Array Value,Instr.fill (fun i=>some (i*size,size)) ((yJ (n*size)).map (zr[· % zr.size]!)) (ps.map fun ((i,x):Nat×Operand)=>(i,ρ x)).toList=some d ->
       (match Instr.fill (fun i=>some (i*size,size)) ((yJ (n*size)).map (zr[· % zr.size]!)) (ps.map fun ((i,x):Nat×Operand)=>(i,ρ x)).toList with
        |some cells=>(do pure (.slice (some (<-newRow e cells)) n n):Sem Value)
        | _ => stuck "buildSlice: a part of the wrong size").run P S.w = .ok (.slice (some ⟨S.w.heap.size, 0, none⟩) n n) (S.grow (.cells d e)).w := by
       intro zr hz;rw[hz];rfl
      unfold Instr.buildSlice;simp only[Sem.run_bind,run_underlying hu,Result.andThen_ok,X0 hs];rw[if_neg h1];by_cases h0:n*size=0
      ·simp only[h0,if_true,Sem.run_pure,Result.andThen_ok,Sem.run_bind];have e1:∀ f:Nat->Value,(yJ 0).map f=#[]:=fun f=>by simp
       have:=hgo #[] (by rw[h0,e1]at hd1 ⊢;exact hd1);rw[h0]at this;exact this
      ·simp only[h0,if_false,Sem.run_bind,hzr,Sem.run_pure,Result.andThen_ok];exact hgo _ hd1
     ·rw[<-hd4];have hx:=Ext.grow hI (.cells d e);refine NL (S:=S.grow (.cells d e)) (c:=d) (el:=e) (fz:=(0,0)) (Zkm S _) (yA _) hd3 hd2.cell (fun i _=>.inr rfl) ?_ (fun i x v hi hv=>?_) ?_
      ·have:=hd2.size;rw[ZV hd3]at this;omega
      ·rw[yN]at hv;exact (hd2.rel i x v hi hv).mono hx
      ·simp[TokOk]
   ·cases h
  ·cases h
 ·cases h
theorem ZpH {t:TypeId}{x r:AV}{u:Value}(j:VRel S x u)(h:ZlN P t x=some r)(ty:TypeId):∃ v',(Builtin.len_ #[t] ty #[u]).run P S.w=.ok v' S.w/\VRel S r v':=by
 unfold ZlN at h
 cases y:P.underlying t with
 |none=>simp[y]at h
 |some d =>
  rw[y]at h;have g:=run_underlying y S.w;simp only at h;unfold Zk at h;split at h
  ·split at h
   ·injection h with h;subst h;cases j with|str _ b hb =>
    subst hb;refine⟨goInt b.size,by simp[Builtin.len_,g],?_⟩;rw[W3];exact .int _ _
   ·cases h
  ·rename_i n e;injection h with h;subst h;exact⟨goInt n,by simp[Builtin.len_,g],.int _ _⟩
  ·split at h
   ·injection h with h;subst h;cases j;exact⟨goInt 0,by simp[Builtin.len_,g],.int _ _⟩
   ·rename_i k tok l;injection h with h;subst h;cases j;exact⟨goInt l.length,by simp[Builtin.len_,g],.int _ _⟩
   ·rename_i ag k o off len cap;injection h with h;subst h;cases j;exact⟨goInt len,by simp[Builtin.len_,g],.int _ _⟩
   ·rename_i ag k o e len;injection h with h;subst h;cases j;exact⟨goInt len,by simp[Builtin.len_,g],.int _ _⟩
   ·cases h
  ·cases h
theorem ZnU {x y r:AV}{u v:Value}(g:VRel S x u)(j:VRel S y v)(h:VN x y=some r)(a:Array TypeId)(ty:TypeId):∃ v',(Builtin.min_ a ty #[u,v]).run P S.w=.ok v' S.w/\VRel S r v':=by
 unfold VN at h;split at h
 ·split at h
  ·rename_i hk;subst hk;injection h with h;subst h;cases g;cases j;exact⟨_,by simp[Builtin.min_,Builtin.min2],.int _ _⟩
  ·cases h
 ·cases h
theorem ZnT {x y r:AV}{u v:Value}(g:VRel S x u)(j:VRel S y v)(h:Qr x y=some r)(a:Array TypeId)(ty:TypeId):∃ v',(Builtin.max_ a ty #[u,v]).run P S.w=.ok v' S.w/\VRel S r v':=by
 unfold Qr at h;split at h
 ·split at h
  ·rename_i hk;subst hk;injection h with h;subst h;cases g;cases j;exact⟨_,by simp[Builtin.max_,Builtin.max2],.int _ _⟩
  ·cases h
 ·cases h
end
section
variable {P:Program}{S:Snap}{W0:World}{H:Hp}
theorem ZdC:∀ {l:List AV} {s:List UInt8},Vd l=some s->∃ g:List Int,l=g.map (AV.int .u8)/\s=g.map fun n=>zO n.toNat:=by
 intro l
 induction l with
 |nil=>intro s h;simp[Vd]at h;exact⟨[],rfl,by simp[h]⟩
 |cons a l z =>
  intro s h;unfold Vd at h;split at h
  ·rename_i j;cases j
  ·rename_i n r j;injection j with w y;subst w y;split at h
   ·rename_i s' u;injection h with h;subst h;obtain⟨g,rfl,rfl⟩:=z u;exact⟨n::g,rfl,rfl⟩
   ·cases h
  ·cases h
theorem Zig (g:List Int):∀ (r:ByteArray),(g.foldl (fun r n=>r.push (zO n.toNat)) r).data.toList=r.data.toList++g.map fun n=>zO n.toNat:=by
 induction g with
 |nil=>intro r;simp
 |cons n g h=>intro r;rw[yH,h];simp[ByteArray.push]
theorem Aq {d:Option TypeDesc}(h:Zed d=true):d=some (.int .u8):=by
 unfold Zed at h;split at h
 ·rfl
 ·cases h
theorem ZnO {C B:TypeId}{x r:AV}{u:Value}(A:VRel S x u){wr:TypeId->Bool}(h:ZhJ P wr C B x=some r):Yields P W0 S H (convert C B u) r H:=by
 intro M;unfold ZhJ at h;split at h
 ·rename_i q k F D;unfold Yq at h;split at h
  ·rename_i q' n;injection h with h;subst h;cases A with|int _ _ =>
   exact⟨.int k (k.wrap n),S,by simp[convert,run_underlying F,run_underlying D,Conv.intToInt],Ext.refl S,M,.int _ _⟩
  ·cases h
 ·rename_i F D;unfold ZwV at h;split at h
  ·injection h with h;subst h;cases A with|str _ b hb =>
   exact⟨.string b,S,by simp[convert,run_underlying F,run_underlying D],Ext.refl S,M,.str _ _ hb⟩
  ·cases h
 ·rename_i e F D;split at h
  ·rename_i y;have y:=Aq y;unfold JK at h;split at h
   ·injection h with h;subst h;cases A with|nils =>
    exact⟨.string .empty,S,by simp[convert,run_underlying F,run_underlying D,run_underlying y,Conv.bytesToString],Ext.refl S,M,.str _ _ rfl⟩
   ·rename_i k tok l;split at h
    ·rename_i V;subst V;split at h
     ·rename_i s X;injection h with h;subst h;obtain⟨I,rfl,rfl⟩:=ZdC X;cases A with|vs _ _ _ b off cap f g hk h1 h2 ht sp hsp =>
      have hl:(loadCells ⟨b,off,sp⟩ (I.map (AV.int .u8)).length).run P S.w=.ok (I.map (Value.int .u8)).toArray S.w:=by
       by_cases O:I=[]
       ·subst O;rfl
       obtain rfl:sp=none:=hsp.resolve_right (by have:=List.length_pos_iff.2 O;simp at g;omega)
       have:=run_loadCells_list (P:=P) S.w ⟨b,off,none⟩ (I.map (Value.int .u8)) (fun j v L=>by
        rw[zK,zZ]at L;obtain⟨n,W,rfl⟩:=L
        have T:j<I.length:=by
         rcases zD j I.length with J|J
         ·exact J
         ·rw[zA J]at W;cases W
        have Y:=(h1 j 0 (by simpa using T) (by omega)).1;have Z:=h2 j (.int .u8 n) 0 (.int .u8 n) (by rw[zK,W];rfl) rfl;rw[YJ];simp only[Nat.mul_one,Nat.add_zero]at Y;rw[Y];generalize f j 0=fv at Z;cases Z;rfl)
       simpa using this
      refine⟨.string (I.foldl (fun r n=>r.push (zO n.toNat)) ByteArray.empty),S,?_,Ext.refl S,M,.str _ _ ?_⟩
      ·rw[run_convert_bytes_string S.w C B e _ _ _ F y D];exact run_bytesToString S.w _ _ _ I hl
      ·rw[Zig];simp
     ·cases h
    ·cases h
   ·cases h
  ·cases h
 ·rename_i e F D;split at h
  ·rename_i y;have y:=Aq y;split at h
   ·cases h
   unfold Zkc at h;split at h
   ·injection h with h;subst h;cases A with|str _ b hb =>
    subst hb;have E:=run_bytes_of_string S.w C B e b F D y;have g:=grownCap_ge S.w b.size 0 e;generalize grownCap S.w b.size 0 e=cap at E g
    have K:∀ j,j<b.size->(bytesRow b cap)[j]?=some (.int .u8 ((b.data.toList.getD j 0).toNat:Int)):=by
     intro j T;unfold bytesRow;rw[Array.getElem?_append_left (by simp;exact T)];have hg:b.data[j]?=some b.data[j]:=zH T;simp[hg]
    let S1:Snap:=S.drew
    have N:Inv W0 S1 H:=M.drew;refine⟨_,S1.grow (.cells (bytesRow b cap) e ((bytesRow b cap).size,(bytesRow b cap).size+1)),E,(Ext.drew S).trans (Ext.grow N _),N.grow _,?_⟩;have z:(b.data.toList.map fun b=>AV.int .u8 (b.toNat:Int)).length=b.size:=by rw[List.length_map];exact W3 b
    have R:=NL (S:=S1.grow (.cells (bytesRow b cap) e ((bytesRow b cap).size,(bytesRow b cap).size+1))) (k:=1) (tok:=.no) (l:=b.data.toList.map fun b=>AV.int .u8 (b.toNat:Int))
     (b:=S.w.heap.size) (off:=0) (cap:=cap) (Zkm S1 _) (by rw[z];exact g) (fun e y=>by simp at y;obtain⟨a,_,rfl⟩:=y;rfl) (HX fun e y=>by simp at y;obtain⟨a,_,rfl⟩:=y;rfl) (fun i _=>.inr rfl)
     (by rw[z];simp[bytesRow]) (fun i x v A L=>?_) trivial
    ·rw[z]at R;exact R
    ·have U:flat (b.data.toList.map fun b=>AV.int .u8 (b.toNat:Int))=b.data.toList.map fun b=>AV.int .u8 (b.toNat:Int):=by
      unfold flat;rw[List.map_map];show (b.data.toList.map fun b=>[AV.int .u8 (b.toNat:Int)]).flatten=_
      induction b.data.toList with
      |nil=>rfl
      |cons a l ih=>simp[ih]
     rw[U]at A
     have hi:i<b.size:=by
      rw[<-z];rcases zD i (b.data.toList.map fun b=>AV.int .u8 (b.toNat:Int)).length with J|J
      ·exact J
      ·rw[zA J]at A;cases A
     rw[yN,K i hi]at L;have Q:i<b.data.toList.length:=by rw[W3];exact hi
     rw[zK,zR Q]at A;simp only[yI,zV]at A L;subst A L;rw[List.getD_eq_getElem?_getD,zR Q];exact .int _ _
   ·cases h
  ·cases h
 ·cases h
def Held (S:Snap)(g:Nat)(h:List AV):Prop:=∃ vs:Array Value,vs.size=h.length/\∀ i,S.pub g i/\S.w.cell? ⟨g,i,none⟩=vs[i]?
theorem Held.mono {S u:Snap}(y:Ext S u){g:Nat}{w:List AV}(h:Held S g w):Held u g w:=by
 obtain⟨vs,z,j⟩:=h;exact⟨vs,z,fun i=>⟨(y.pub g i (j i).1).1,(y.pub g i (j i).1).2.trans (j i).2⟩⟩
def Zpu (C:Cfg)(S:Snap):Prop:=∀ g h,C.glob g=some h->VRel S (.vp h) (.pointer (some ⟨g,0,none⟩))/\Held S g h
def ZhH (C:Cfg)(id:FuncId)(g:List AV->Option AV):Prop :=
 ∀ {W0:World} (S:Snap) (H:Hp) (args:List AV) (args':Array Value) (v:AV),Inv W0 S H->Zpu C S->args'.size=args.length ->
  (∀ (i:Nat) (a:AV) (u:Value),args[i]?=some a->args'[i]?=some u->VRel S a u)->g args=some v ->
  Calls C.P id args' S.w fun e w'=>∃ v' h,e=.returned v'/\h.w=w'/\Ext S h/\Inv W0 h H/\VRel h v v'
def FH (C:Cfg)(id:FuncId)(g:EffFn):Prop :=
 ∀ {W0:World} (S:Snap) (H H':Hp) (args:List AV) (args':Array Value) (v:AV),Inv W0 S H->Zpu C S->args'.size=args.length ->
  (∀ (i:Nat) (a:AV) (u:Value),args[i]?=some a->args'[i]?=some u->VRel S a u)->g.run args H=some (v,H') ->
  Calls C.P id args' S.w fun e w'=>∃ v' h,e=.returned v'/\h.w=w'/\Ext S h/\Inv W0 h H'/\VRel h v v'
def Um (C:Cfg):Prop :=
 (∀ t,C.eqok t=true->C.P.stoodInHeld t=false/\C.P.eqGuardType C.P.depth t=false) /\
 (∀ f,C.user f=true->∀ (args:Array Value) (w:World),(callFunc f args).run C.P w=.ok (.enter f args) w) /\
 C.P.follows .mixedOrders=true /\
 (∀ f e,C.ext f=some e->∀ (args:Array Value) (w:World),(callFunc f args).run C.P w=(do pure (.value (<-DG e args)):Sem Next).run C.P w) /\
 (∀ f g,C.sum f=some g->C.user f=true/\ZhH C f g) /\
 (∀ f g,C.eff f=some g->C.user f=true/\FH C f g)
def Gives (P:Program)(W0:World)(S:Snap)(H:Hp)(s:Sem Next)(v:AV)(H':Hp):Prop :=
 Inv W0 S H->∃ v' g,s.run P S.w=.ok (.value v') g.w/\Ext S g/\Inv W0 g H'/\VRel g v v'
theorem Yields.gives {s:Sem Value}{v:AV}{H':Hp}(h:Yields P W0 S H s v H'):Gives P W0 S H (do pure (.value (<-s))) v H':=by
 intro w;obtain⟨v',g,j,u⟩:=h w;exact⟨v',g,by simp[j],u⟩
theorem Gives.same {s:Sem Value}{v:AV}(h:∃ v',s.run P S.w=.ok v' S.w/\VRel S v v'):Gives P W0 S H (do pure (.value (<-s))) v H:=by
 obtain⟨v',g,j⟩:=h;exact (Yields.same v' g j).gives
theorem C9 {S:Snap}{ev:Operand->AV}{ρ:Operand->Value}(g:∀ x,VRel S (ev x) (ρ x))(x:Option Operand):LZ S (x.map ev) (x.map ρ):=by
 cases x with
 |none=>trivial
 |some x=>exact g x
theorem ZaK {S:Snap}{ev:Operand->AV}{ρ:Operand->Value}(h:∀ x,VRel S (ev x) (ρ x))(xs:Array Operand)(i:Nat)(c:AV)(v:Value)(g:(xs.toList.map ev)[i]?=some c)(j:(xs.map ρ)[i]?=some v):VRel S c v:=by
 rw[zK,yB]at g;rw[yM]at j
 cases u:xs[i]? with
 |none=>simp[u]at g
 |some x=>simp[u]at g j;subst g j;exact h x
theorem Ql {α:Type}{xs:Array α}{x:α}(h:xs.toList=[x]):xs=#[x]:=by cases xs;simp_all
theorem Xu {α:Type}{xs:Array α}{x y:α}(h:xs.toList=[x,y]):xs=#[x,y]:=by cases xs;simp_all
theorem ZnX {C:Cfg}(hC:Um C){ev:Operand->AV}{ρ:Operand->Value}(j:∀ x,VRel S (ev x) (ρ x)){o:Oper}{v:AV}(h:ZT C ev o.op=some v) :
 Gives C.P W0 S H (execOp ρ o) v H:=by
 obtain⟨ah,op,Q,ai,after,ab⟩:=o;simp only at h;unfold execOp;simp only
 cases op with
 |move x =>
  simp[ZT]at h;subst h;exact fun J=>⟨ρ x,S,rfl,Ext.refl S,J,j x⟩
 |assign x =>
  simp[ZT]at h;subst h;exact fun J=>⟨ρ x,S,rfl,Ext.refl S,J,j x⟩
 |pick c a b =>
  simp only[ZT]at h;unfold Zi at h;split at h
  ·rename_i t ht;injection h with h;subst h;have T:=j c;rw[ht]at T;generalize ad:ρ c=cv at T;cases T with|bool _ =>
   intro J;refine⟨if t then ρ a else ρ b,S,by simp[ad,asBool],Ext.refl S,J,?_⟩;cases t
   ·exact j b
   ·exact j a
  ·cases h
 |build t parts=>simp only[ZT]at h;exact Gives.same (ZlK j h)
 |buildSlice t len parts=>simp only[ZT]at h;exact (ZkX j h).gives
 |load t a =>
  simp only[ZT]at h;split at h
  ·rename_i g sz Z O;unfold Jy at h;split at h
   ·rename_i cells T;have D:=j a;rw[T]at D;generalize ac:ρ a=av at D;cases D with|vp _ b off f R M N =>
    refine Gives.same ?_;obtain⟨v',K,X⟩:=MU (P:=C.P) (S:=S) (t:=t) (off:=off) (b:=b) (f:=f) Z O (fun i hi=>by rw[yU];exact (M i hi).1) N R h;exact⟨v',by simpa[ac,Instr.loadAt,Instr.sureAddr]using K,X⟩
   ·cases h
  ·cases h
 |nilCheck x =>
  simp only[ZT]at h;unfold Zu at h;have B:=j x;split at h
  ·rename_i o off L;injection h with h;subst h;rw[L]at B;generalize A:ρ x=Y at B;cases B with|ptr _ _ b F =>
   exact fun J=>⟨_,S,by simp only[A];rfl,Ext.refl S,J,.ptr _ _ b F⟩
  ·rename_i cs L;injection h with h;subst h;rw[L]at B;generalize A:ρ x=Y at B;cases B with|vp _ b off f R M N =>
   exact fun J=>⟨_,S,by simp only[A];rfl,Ext.refl S,J,.vp _ b off f R M N⟩
  ·rename_i o e off L;injection h with h;subst h;rw[L]at B;generalize A:ρ x=Y at B;cases B with|wp _ _ _ b F =>
   exact fun J=>⟨_,S,by simp only[A];rfl,Ext.refl S,J,.wp _ _ _ b F⟩
  ·cases h
 |binOp op t x y ty =>
  simp only[ZT]at h;split at h
  ·rename_i ae;split at h
   ·rename_i T;exact Gives.same (Zod ae T (j x) (j y) h)
   ·cases h
  ·exact Gives.same (Zpv hC.1 (j x) (j y) h)
 |unOp op t x=>simp only[ZT]at h;exact Gives.same (Zs1 (j x) h)
 |convert s d x=>simp only[ZT]at h;exact (ZnO (j x) h).gives
 |makeFunc fn first E =>
  cases fn <;> simp only[ZT]at h
  case func f =>
   injection h with h;subst h;exact fun J=>⟨.func (.func f) (first.map ρ) (E.map ρ),S,by simp[Instr.makeFunc],Ext.refl S,J,.fn _ _ _ _ _ (by simp) (by simp) (ZaK j first) (ZaK j E)⟩
  all_goals cases h
 |slice t x lo hi mx =>
  simp only[ZT]at h;have B:=j x;split at h
  ·rename_i I;unfold Y8 at h;split at h
   ·rename_i s L ag
    have af:mx=none:=by
     cases mx with
     |none=>rfl
     |some _=>simp at ag
    subst af;rw[L]at B;generalize A:ρ x=Y at B;cases B with|str _ b F =>
    refine Gives.same ?_;obtain⟨v',K,X⟩:=ZhP (P:=C.P) I F (C9 j lo) (C9 j hi) h;exact⟨v',by simpa[A,Instr.sliceAt,run_underlying I]using K,X⟩
   ·cases h
  ·rename_i e I;split at h
   ·rename_i size O;refine Gives.same ?_;obtain⟨v',K,X⟩:=Zl2 (P:=C.P) I O B (C9 j lo) (C9 j hi) (C9 j mx) h;exact⟨v',by simpa[Instr.sliceAt,run_underlying I]using K,X⟩
   ·cases h
  ·cases h
 |fieldAddr t x f =>
  simp only[ZT]at h;split at h
  ·rename_i fd hf;split at h
   ·rename_i sz O;split at h
    ·rename_i R;obtain⟨b,o,A,K⟩:=Zdw (j x) h;exact Gives.same ⟨_,by rw[A];exact ZoM hf O R S.w,K⟩
    ·cases h
   ·cases h
  ·cases h
 |field t x f =>
  simp only[ZT]at h;split at h
  ·rename_i fd hf;split at h
   ·rename_i g sz Z O;unfold EM at h;split at h
    ·rename_i cs L;have B:=j x;rw[L]at B;generalize A:ρ x=Y at B;cases B with|agg _ vs R M N =>
     obtain⟨v',K,X⟩:=BA Z O ⟨M,N,R⟩ h;exact Gives.same ⟨v',by rw[A,ZtZ hf];exact K,X⟩
    ·cases h
   ·cases h
  ·cases h
 |indexAddr t x i =>
  simp only[ZT]at h;split at h
  ·rename_i e I;split at h
   ·rename_i size O;exact Gives.same (ZkZ I O (j x) (j i) h)
   ·cases h
  ·rename_i len e I;split at h
   ·rename_i size O;exact Gives.same (ZkY I O (j x) (j i) h)
   ·cases h
  ·cases h
 |index t x i =>
  simp only[ZT]at h;split at h
  ·rename_i I;exact Gives.same (ZhL I (j x) (j i) h)
  ·rename_i len e I;split at h
   ·rename_i g size Z O;exact Gives.same (ZhK I Z O (j x) (j i) h)
   ·cases h
  ·cases h
 |extract t i =>
  simp only[ZT]at h;unfold ZL at h;split at h
  ·rename_i l L;have B:=j t;rw[L]at B;generalize A:ρ t=Y at B;cases B with|tuple _ vs M N =>
   obtain⟨u,I,K⟩:∃ u,vs[i]?=some u/\VRel S v u:=by
    have aa:i<vs.size:=by
     rw[M];rcases zD i l.length with h'|h'
     ·exact h'
     ·rw[zA h']at h;cases h
    exact⟨vs[i],zH aa,N i v _ h (zH aa)⟩
   exact Gives.same ⟨u,by simp[A,Instr.extract,I],K⟩
  ·cases h
 |call c =>
  obtain⟨callee,args,argTypes⟩:=c
  cases callee with
  |value f=>simp[ZT]at h
  |invoke r m=>simp[ZT]at h
  |builtin b =>
   cases b <;> first
    |(simp[ZT]at h;done)
    |skip
   case len =>
    simp only[ZT]at h;split at h
    ·rename_i x t D ht;obtain rfl:=Ql D;obtain rfl:=Ql ht;intro J;obtain⟨v',M,N⟩:=ZpH (P:=C.P) (j x) h Q;exact⟨v',S,by simp[resolve,invoke,builtin,M],Ext.refl S,J,N⟩
    ·cases h
   case min =>
    simp only[ZT]at h;split at h
    ·rename_i x y D;obtain rfl:=Xu D;intro J;obtain⟨v',M,N⟩:=ZnU (P:=C.P) (j x) (j y) h argTypes Q;exact⟨v',S,by simp[resolve,invoke,builtin,M],Ext.refl S,J,N⟩
    ·cases h
   case max =>
    simp only[ZT]at h;split at h
    ·rename_i x y D;obtain rfl:=Xu D;intro J;obtain⟨v',M,N⟩:=ZnT (P:=C.P) (j x) (j y) h argTypes Q;exact⟨v',S,by simp[resolve,invoke,builtin,M],Ext.refl S,J,N⟩
    ·cases h
 |makeInterface t x =>
  simp only[ZT,Zyr]at h;split at h
  ·cases h
  ·rename_i d hd I;injection h with h;subst h;refine Gives.same ⟨.iface t (ρ x),?_,.iface t _ _ (j x)⟩;have K:=fun w=>run_underlying (w:=w) I;simp only[Instr.makeInterface,Sem.run_bind,K,Result.andThen_ok];cases d <;> first|rfl|exact absurd I (hd _)
  ·cases h
 |typeAssert x xt t ok =>
  simp only[ZT]at h;split at h
  ·rename_i z hz;obtain⟨zc,z1,z2⟩:=Uy hz;unfold Zyw at h;split at h
   ·cases h
   ·rename_i d hd I;have K:=fun w=>run_underlying (w:=w) I;have B:=j x;have U:∀ ms,d≠.interface ms:=fun ms e=>hd ms e;split at h
    ·rename_i t' v' L;rw[L]at B;generalize A:ρ x=Y at B;cases B with|iface _ _ u hvu =>
     split at h
     ·rename_i W;injection h with h;subst h;refine Gives.same ⟨if ok then .tuple #[u,.bool true] else u,?_,?_⟩
      ·simp only[A,Instr.typeAssert,Sem.run_bind,K,Result.andThen_ok];cases d <;> first|(simp[W];done)|exact absurd rfl (U _)
      ·cases ok with
       |true=>exact .tuple _ _ rfl (fun i a b D F=>by
        match i with
        |0=>simp at D F;subst D;subst F;exact hvu
        |1=>simp at D F;subst D;subst F;exact .bool _
        |i+2=>simp at D)
       |false=>exact hvu
     ·rename_i W;split at h
      ·rename_i V;injection h with h;subst h;refine Gives.same ⟨.tuple #[zc,.bool false],?_,?_⟩
       ·simp only[A,Instr.typeAssert,Sem.run_bind,K,Result.andThen_ok];cases d <;> first|(simp[W,V,z1];done)|exact absurd rfl (U _)
       ·exact .tuple _ _ rfl (fun i a b D F=>by
         match i with
         |0=>simp at D F;subst D;subst F;exact z2 S
         |1=>simp at D F;subst D;subst F;exact .bool _
         |i+2=>simp at D)
      ·cases h
    ·rename_i L;rw[L]at B;generalize A:ρ x=Y at B;cases B;split at h
     ·rename_i V;injection h with h;subst h;refine Gives.same ⟨.tuple #[zc,.bool false],?_,?_⟩
      ·simp only[A,Instr.typeAssert,Sem.run_bind,K,Result.andThen_ok];cases d <;> first|(simp[V,z1];done)|exact absurd rfl (U _)
      ·exact .tuple _ _ rfl (fun i a b D F=>by
        match i with
        |0=>simp at D F;subst D;subst F;exact z2 S
        |1=>simp at D F;subst D;subst F;exact .bool _
        |i+2=>simp at D)
     ·cases h
    ·cases h
   ·cases h
  ·cases h
 |_=>simp[ZT]at h
end
end Go.Am
