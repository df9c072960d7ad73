/-
  THE ABSTRACT MACHINE, part A: abstract values (slices that nobody writes are plain lists), abstract objects, and what it means that a concrete value in a concrete world is one of them; what is kept when the world goes on.
-/
import Derived.WalkKit
import Derived.Lib.FrozenHead
import Derived.ChangeKeysEq
namespace Go.Am

inductive Tok where
 | no
 | own (t e:Nat)
 | clip
 deriving DecidableEq

inductive AV where
 | undef
 | bool (b:Bool)
 | int (k:IntKind) (n:Int)
 | str (s:List UInt8)
 | nilp
 | ptr (o off:Nat)
 | vp (cells:List AV)
 | nils
 | vs (k:Nat) (tok:Tok) (l:List AV)
 | rs (ag:Bool) (k o off len cap:Nat)
 | ws (ag:Bool) (k o e len:Nat)
 | wp (o e off:Nat)
 | nilm
 | map (o:Nat)
 | nilf
 | fn (fn:Fn) (first captured:List AV)
 | nili
 | iface (t:TypeId) (v:AV)
 | agg (cells:List AV)
 | tuple (l:List AV)

def AV.cells:AV→List AV
 | .agg cs=>cs
 | v=>[v]

def AV.isCell:AV→Bool
 | .undef | .agg _ | .tuple _=>false
 | _=>true

inductive AObj where
 | cells (l:List AV)
 | bld (T u:TypeId) (l:List UInt8)
 | tok (e:Nat)
 | row (e:Nat) (l:List AV)
 | map (es:List (AV × AV × Nat)) (clock:Nat)
 | siter (s:List UInt8) (pos:Nat)
 | dead
 | free

structure Snap where
 w:World
 phi:Nat→Option Nat
 pub:Nat→Nat→Prop
 tk:Nat→Option (Nat × Nat × Nat × Nat)
 lim:Nat

def TokOk (S:Snap) (k:Nat) (tok:Tok) (len b off cap:Nat):Prop :=
 match tok with
 | .no=>True
 | .clip=>cap=len
 | .own t e=>∃ e0 b0 hw0 sz0,S.tk t=some (e0,b0,hw0,sz0)∧e≤e0∧(e=e0→len < cap→b=b0∧off+len * k=hw0∧off+cap * k≤sz0)

def RowOk (S:Snap) (o e b hw top:Nat):Prop:=∃ e0 b0 hw0 sz0,S.tk o=some (e0,b0,hw0,sz0)∧e≤e0∧(e=e0→b=b0∧hw≤hw0∧top≤sz0)
def RowIn (S:Snap) (o e b:Nat):Prop:=∃ e0 b0 hw0 sz0,S.tk o=some (e0,b0,hw0,sz0)∧e≤e0∧(e=e0→b=b0)

inductive VRel (S:Snap):AV→Value→Prop
 | undef (v:Value):VRel S .undef v
 | bool (b:Bool):VRel S (.bool b) (.bool b)
 | int (k:IntKind) (n:Int):VRel S (.int k n) (.int k n)
 | str (s:List UInt8) (b:ByteArray) (h:b.data.toList=s):VRel S (.str s) (.string b)
 | nilp:VRel S .nilp (.pointer none)
 | ptr (o off b:Nat) (h:S.phi o=some b):VRel S (.ptr o off) (.pointer (some ⟨b,off,none⟩))
 | vp (cells : List AV) (b off : Nat) (f : Nat → Value) (hc : cells.all AV.isCell = true)
     (h1:∀ i,i < cells.length→S.w.cell? ⟨b,off+i,none⟩=some (f i)∧S.pub b (off+i))
     (h2:∀ (i:Nat) (c:AV),cells[i]?=some c→VRel S c (f i)):VRel S (.vp cells) (.pointer (some ⟨b,off,none⟩))
 | nils:VRel S .nils (.slice none 0 0)
 | vs (k : Nat) (tok : Tok) (l : List AV) (b off cap : Nat) (f : Nat → Nat → Value)
     (hcap:l.length≤cap)
     (hk:∀ e,e ∈ l→e.cells.length=k∧e.cells.all AV.isCell=true)
     (h1:∀ j i,j < l.length→i < k→S.w.cell? ⟨b,off+j * k+i,none⟩=some (f j i)∧S.pub b (off+j * k+i))
     (h2:∀ (j:Nat) (e:AV) (i:Nat) (c:AV),l[j]?=some e→e.cells[i]?=some c→VRel S c (f j i))
     (ht:TokOk S k tok l.length b off cap) (sp:Option Nat) (hsp:sp=none ∨ cap=0):VRel S (.vs k tok l) (.slice (some ⟨b,off,sp⟩) l.length cap)
 | rs (ag:Bool) (k o off len cap b:Nat) (h:S.phi o=some b) (hlen:len≤cap):VRel S (.rs ag k o off len cap) (.slice (some ⟨b,off,none⟩) len cap)
 | ws (ag:Bool) (k o e len cap b:Nat) (h:RowOk S o e b (len * k) (cap * k)) (hlen:len≤cap):VRel S (.ws ag k o e len) (.slice (some ⟨b,0,none⟩) len cap)
 | wp (o e off b:Nat) (h:RowIn S o e b):VRel S (.wp o e off) (.pointer (some ⟨b,off,none⟩))
 | nilm:VRel S .nilm (.map none)
 | map (o b:Nat) (h:S.phi o=some b):VRel S (.map o) (.map (some b))
 | nilf:VRel S .nilf .nilFunc
 | fn (fn : Fn) (first captured : List AV) (F C : Array Value) (hF : F.size = first.length) (hC : C.size = captured.length)
     (h1:∀ (i:Nat) (c:AV) (v:Value),first[i]?=some c→F[i]?=some v→VRel S c v)
     (h2:∀ (i:Nat) (c:AV) (v:Value),captured[i]?=some c→C[i]?=some v→VRel S c v):VRel S (.fn fn first captured) (.func fn F C)
 | nili:VRel S .nili .nilIface
 | iface (t:TypeId) (v:AV) (u:Value) (h:VRel S v u):VRel S (.iface t v) (.iface t u)
 | agg (cells:List AV) (vs:Array Value) (hc:cells.all AV.isCell=true) (hs:vs.size=cells.length) (h:∀ (i:Nat) (c:AV) (v:Value),cells[i]?=some c→vs[i]?=some v→VRel S c v):VRel S (.agg cells) (.agg vs)
 | tuple (l:List AV) (vs:Array Value) (hs:vs.size=l.length) (h:∀ (i:Nat) (c:AV) (v:Value),l[i]?=some c→vs[i]?=some v→VRel S c v):VRel S (.tuple l) (.tuple vs)

structure Ext0 (S S':Snap):Prop where
 phi:∀ o b,S.phi o=some b→S'.phi o=some b
 pub:∀ b i,S.pub b i→S'.pub b i∧S'.w.cell? ⟨b,i,none⟩=S.w.cell? ⟨b,i,none⟩
 tk:∀ t e b hw sz,S.tk t=some (e,b,hw,sz)→∃ e' b' hw' sz',S'.tk t=some (e',b',hw',sz')∧e≤e'∧(e'=e→b'=b∧hw'=hw∧sz'=sz)

structure Ext (S S':Snap):Prop extends Ext0 S S' where
 lim:S'.lim=S.lim
 old:∀ b i,S'.pub b i→b < S.lim→S.pub b i
theorem Ext.refl (S:Snap):Ext S S :=
 ⟨⟨fun _ _ h=>h,fun _ _ h=>⟨h,rfl⟩,fun _ e b hw sz h=>⟨e,b,hw,sz,h,Nat.le_refl _,fun _=>⟨rfl,rfl,rfl⟩⟩⟩,rfl,fun _ _ h _=>h⟩

theorem Ext.trans {A B C:Snap} (h:Ext A B) (k:Ext B C):Ext A C:=by
 refine ⟨⟨fun o b e=>k.phi o b (h.phi o b e),fun b i e=>?_,fun t e b hw sz e1=>?_⟩,k.lim.trans h.lim,fun b i hp hl=>h.old b i (k.old b i hp (by rw [h.lim];exact hl)) hl⟩
 ·obtain ⟨p,q⟩:=h.pub b i e
  obtain ⟨p',q'⟩:=k.pub b i p
  exact ⟨p',q'.trans q⟩
 ·obtain ⟨e2,b2,hw2,sz2,h2,hle,heq⟩:=h.tk t e b hw sz e1
  obtain ⟨e3,b3,hw3,sz3,h3,hle3,heq3⟩:=k.tk t e2 b2 hw2 sz2 h2
  refine ⟨e3,b3,hw3,sz3,h3,Nat.le_trans hle hle3,fun he=>?_⟩
  have:e2=e:=by omega
  obtain ⟨rfl,rfl,rfl⟩:=heq this
  have:e3=e2:=by omega
  exact heq3 this

theorem TokOk.mono0 {S S':Snap} (hx:Ext0 S S') {k:Nat} {tok:Tok} {len b off cap:Nat} (h:TokOk S k tok len b off cap):TokOk S' k tok len b off cap:=by
 cases tok with
 | no=>trivial
 | clip=>exact h
 | own t e =>
  obtain ⟨e0,b0,hw0,sz0,h0,hle,hq⟩:=h
  obtain ⟨e1,b1,hw1,sz1,h1,hle1,hq1⟩:=hx.tk t e0 b0 hw0 sz0 h0
  refine ⟨e1,b1,hw1,sz1,h1,by omega,fun he hlt=>?_⟩
  have h10:e1=e0:=by omega
  obtain ⟨rfl,rfl,rfl⟩:=hq1 h10
  exact hq (by omega) hlt

theorem RowOk.mono0 {S S':Snap} (hx:Ext0 S S') {o e b hw top:Nat} (h:RowOk S o e b hw top):RowOk S' o e b hw top:=by
 obtain ⟨e0,b0,hw0,sz0,h0,hle,hq⟩:=h
 obtain ⟨e1,b1,hw1,sz1,h1,hle1,hq1⟩:=hx.tk o e0 b0 hw0 sz0 h0
 refine ⟨e1,b1,hw1,sz1,h1,by omega,fun he=>?_⟩
 have h10:e1=e0:=by omega
 obtain ⟨rfl,rfl,rfl⟩:=hq1 h10
 exact hq (by omega)
theorem RowIn.mono0 {S S':Snap} (hx:Ext0 S S') {o e b:Nat} (h:RowIn S o e b):RowIn S' o e b:=by
 obtain ⟨e0,b0,hw0,sz0,h0,hle,hq⟩:=h
 obtain ⟨e1,b1,hw1,sz1,h1,hle1,hq1⟩:=hx.tk o e0 b0 hw0 sz0 h0
 refine ⟨e1,b1,hw1,sz1,h1,by omega,fun he=>?_⟩
 have h10:e1=e0:=by omega
 obtain ⟨rfl,rfl,rfl⟩:=hq1 h10
 exact hq (by omega)
theorem VRel.mono0 {S S':Snap} (hx:Ext0 S S') {a:AV} {v:Value} (h:VRel S a v):VRel S' a v:=by
 induction h with
 | undef v=>exact .undef v
 | bool b=>exact .bool b
 | int k n=>exact .int k n
 | str s b h=>exact .str s b h
 | nilp=>exact .nilp
 | ptr o off b h=>exact .ptr o off b (hx.phi _ _ h)
 | vp cells b off f hc h1 h2 ih =>
  refine .vp cells b off f hc (fun i hi=>?_) ih
  obtain ⟨p,q⟩:=h1 i hi
  obtain ⟨p',q'⟩:=hx.pub _ _ q
  exact ⟨q'.trans p,p'⟩
 | nils=>exact .nils
 | vs k tok l b off cap f hcap hk h1 h2 ht sp hsp ih =>
  refine .vs k tok l b off cap f hcap hk (fun j i hj hi=>?_) ih (ht.mono0 hx) sp hsp
  obtain ⟨p,q⟩:=h1 j i hj hi
  obtain ⟨p',q'⟩:=hx.pub _ _ q
  exact ⟨q'.trans p,p'⟩
 | rs ag k o off len cap b h hlen=>exact .rs ag k o off len cap b (hx.phi _ _ h) hlen
 | ws ag k o e len cap b h hlen=>exact .ws ag k o e len cap b (h.mono0 hx) hlen
 | wp o e off b h=>exact .wp o e off b (h.mono0 hx)
 | nilm=>exact .nilm
 | map o b h=>exact .map o b (hx.phi _ _ h)
 | nilf=>exact .nilf
 | fn fn first captured F C hF hC h1 h2 ih1 ih2=>exact .fn fn first captured F C hF hC ih1 ih2
 | nili=>exact .nili
 | iface t v u h ih=>exact .iface t v u ih
 | agg cells vs hc hs h ih=>exact .agg cells vs hc hs ih
 | tuple l vs hs h ih=>exact .tuple l vs hs ih

theorem VRel.mono {S S':Snap} (hx:Ext S S') {a:AV} {v:Value} (h:VRel S a v):VRel S' a v:=h.mono0 hx.toExt0

def FzOk (n:Nat) (fz:Nat × Nat):Prop:=∀ i,i < n→¬ (fz.1≤i∧i < fz.2)
def ORel (S:Snap) (B0:Nat) (o:Nat):AObj→Prop
 | .cells l => ∃ b c el, S.phi o = some b ∧ B0 ≤ b ∧ S.w.heap[b]? = some (.cells c el (0, 0)) ∧ c.size = l.length ∧
     (∀ (i:Nat) (x:AV) (v:Value),l[i]?=some x→c[i]?=some v→VRel S x v)∧(∀ i,¬ S.pub b i)∧l.all AV.isCell=true
 | .bld T u l => ∃ b, S.phi o = some b ∧ Lib.IsBuilderF T u B0 b (Lib.byteCells l) S.w ∧ T ≠ u ∧ (∀ i, ¬ S.pub b i) ∧
     ∀ v g,S.w.cell? ⟨b,1,none⟩=some v→v.ownBlock=some g→(∃ n hw sz,S.tk o=some (n,g,hw,sz))∧∀ i,¬ S.pub g i
 | .row e l => ∃ b sz c el fz, S.tk o = some (e, b, l.length, sz) ∧ B0 ≤ b ∧ S.w.heap[b]? = some (.cells c el fz) ∧ c.size = sz ∧ l.length ≤ sz ∧
     (∀ (i:Nat) (x:AV) (v:Value),l[i]?=some x→c[i]?=some v→VRel S x v)∧(∀ i,¬ S.pub b i)∧l.all AV.isCell=true∧FzOk c.size fz
 | .tok e => ∃ b hw sz c el fz, S.tk o = some (e, b, hw, sz) ∧ B0 ≤ b ∧ S.w.heap[b]? = some (.cells c el fz) ∧ c.size = sz ∧ hw ≤ sz ∧
     (∀ i,hw≤i→¬ S.pub b i)∧FzOk c.size fz
 | .map es clock => ∃ b es', S.phi o = some b ∧ B0 ≤ b ∧ S.w.heap[b]? = some (.map es' clock) ∧ es'.size = es.length ∧ (∀ i, ¬ S.pub b i) ∧
     (∀ (i:Nat) (k v:AV) (n:Nat) (e:MapEntry),es[i]?=some (k,v,n)→es'[i]?=some e→VRel S k e.key∧VRel S v e.val∧e.born=n)
 | .siter s pos=>∃ b s',S.phi o=some b∧B0≤b∧S.w.heap[b]?=some (.stringIter s' pos)∧s'.data.toList=s∧(∀ i,¬ S.pub b i)
 | .dead=>True
 | .free=>S.phi o=none∧S.tk o=none

structure Inv (W0:World) (S:Snap) (H:List AObj):Prop where
 below:RowKit.Below W0.heap.size W0 S.w
 objs:∀ o x,H[o]?=some x→ORel S W0.heap.size o x
 past:∀ o,H.length≤o→S.phi o=none∧S.tk o=none
 inj:∀ o o' b,S.phi o=some b→S.phi o'=some b→H[o]? ≠ some .dead→H[o']? ≠ some .dead→o=o'
 tinj:∀ t t' e b hw sz e' hw' sz',S.tk t=some (e,b,hw,sz)→S.tk t'=some (e',b,hw',sz')→t=t'
 apart:∀ t e b hw sz o,S.tk t=some (e,b,hw,sz)→S.phi o ≠ some b
 puball:∀ b i,S.pub b i→b < S.w.heap.size
 dom:∀ o b,S.phi o=some b→b < S.w.heap.size
 tdom:∀ t e b hw sz,S.tk t=some (e,b,hw,sz)→b < S.w.heap.size
 lim:S.lim≤W0.heap.size
end Go.Am
namespace Go.Am

abbrev Hp:=List AObj

inductive ExtK where
 | same
 | indexByte
 | cmp
 | count
 deriving DecidableEq
def indexB (c:UInt8):List UInt8→Nat→Int
 | [],_=>-1
 | b :: l,i=>if b=c then i else indexB c l (i+1)
def cmpB:List UInt8→List UInt8→Int
 | [],[]=>0
 | [],_ :: _=>-1
 | _ :: _,[]=>1
 | a :: l,b :: m=>if a=b then cmpB l m else if a < b then -1 else 1
def countB (c:UInt8):List UInt8→Nat
 | []=>0
 | b :: l=>if b=c then countB c l+1 else countB c l
def extA:ExtK→List AV→Option AV
 | .same,[x]=>some x
 | .indexByte,[.str s,.int .u8 n]=>some (.int .i64 (indexB (UInt8.ofNat n.toNat) s 0))
 | .cmp,[.str a,.str b]=>some (.int .i64 (cmpB a b))
 | .count,[.str s,.int .u8 n]=>some (.int .i64 (countB (UInt8.ofNat n.toNat) s))
 | _,_=>none
def extF:ExtK→Array Value→Sem Value
 | .same=>Extern.AbiNoEscape.same
 | .indexByte=>Extern.BytealgIndexByte.indexByte
 | .cmp=>Extern.BytealgCompare.compare
 | .count=>Extern.BytealgCount.count
def extC (e:ExtK) (args:List AV) (H:List AObj):Option (AV × List AObj) :=
 match extA e args with
 | some v=>some (v,H)
 | none=>none
def Frm {α:Type} (g:Hp→Option (α × Hp)):Prop :=
 ∀ H v H',g H=some (v,H')→H.length≤H'.length∧∀ o,o < H.length→H'[o]?=some .free→H[o]?=some .free∧∀ x,g (H.set o x)=some (v,H'.set o x)
structure EffFn where
 run:List AV→Hp→Option (AV × Hp)
 frm:∀ args,Frm (run args)
structure Cfg where
 P:Program
 glob:Nat→Option (List AV)
 user:FuncId→Bool
 eqok:TypeId→Bool
 pure:FuncId→Bool
 flat:FuncId→Bool
 ext:FuncId→Option ExtK
 sum:FuncId→Option (List AV→Option AV)
 keep:FuncId→Nat→Option (List Nat)
 eff:FuncId→Option EffFn:=fun _=>none
 bld:TypeId→Option TypeId:=fun _=>none
 lin:TypeId→Bool:=fun _=>false
 qk:Nat→List Nat→Bool:=fun _ _=>false
 wrb:TypeId→Bool:=fun _=>false
 ro:FuncId→Bool:=fun _=>false
 rst:TypeId→Nat→Nat→Nat:=fun _ _ _=>0
 gro:FuncId→Bool:=fun _=>false
 far:Option (TypeId→Nat→TypeId→Nat→Bool):=none
 dfr:FuncId→Bool:=fun _=>false

def isAggT (P:Program) (t:TypeId):Option Bool :=
 match P.underlying t with
 | some (.struct _)=>some true
 | some (.array _ _)=>some true
 | some _=>some false
 | none=>none
def szT (P:Program) (t:TypeId):Option Nat :=
 match P.info? t with
 | some i=>some i.size
 | none=>none
def bytesT (P:Program) (t:TypeId):Option Nat :=
 match P.info? t with
 | some i=>some i.bytes
 | none=>none
def elemT (P:Program) (t:TypeId):Option TypeId :=
 match P.underlying t with
 | some (.slice e)=>some e
 | _=>none
def fieldT (P:Program) (t:TypeId) (f:Nat):Option Field :=
 match P.underlying t with
 | some (.struct fs)=>fs[f]?
 | _=>none

def ofConst:Nat→Value→AV
 | _,.bool b=>.bool b
 | _,.int k n=>.int k n
 | _,.string s=>.str s.data.toList
 | _,.pointer none=>.nilp
 | _,.slice none 0 0=>.nils
 | _,.map none=>.nilm
 | _,.nilFunc=>.nilf
 | _,.nilIface=>.nili
 | n+1,.agg cs=>if (cs.toList.map (ofConst n)).all AV.isCell then .agg (cs.toList.map (ofConst n)) else .undef
 | n+1,.tuple cs=>.tuple (cs.toList.map (ofConst n))
 | n+1,.iface t v=>.iface t (ofConst n v)
 | n+1,.func fn f c=>.fn fn (f.toList.map (ofConst n)) (c.toList.map (ofConst n))
 | _,_=>.undef
def zeroT (P:Program) (t:TypeId):Option AV :=
 match P.info? t with
 | some i=>match i.zero with
  | some z=>some (ofConst 3 z)
  | none=>none
 | none=>none

def eval (C:Cfg) (tm:List AV):Operand→AV
 | .tmp t=>tm.getD t (.tuple [])
 | .const v=>ofConst 4 v
 | .global g=>match C.glob g with
  | some cs=>.vp cs
  | none=>.undef
 | .func f=>.fn (.func f) [] []

def apart (g:Bool) (sz:Nat) (cells:List AV) (off:Nat):Option AV :=
 if g then (if off+sz≤cells.length then some (.agg ((cells.drop off).take sz)) else none) else cells[off]?
def aload (g:Bool) (sz:Nat) (a:AV) (H:Hp):Option AV :=
 match a with
 | .ptr o off=>match H[o]? with
  | some (.cells l)=>apart g sz l off
  | _=>none
 | .vp cells=>apart g sz cells 0
 | .wp o e off=>match H[o]? with
  | some (.row e' l)=>if e'=e then apart g sz l off else none
  | _=>none
 | _=>none
def aloadv (g:Bool) (sz:Nat) (a:AV):Option AV :=
 match a with
 | .vp cells=>apart g sz cells 0
 | _=>none
def AV.known:AV→Bool
 | .undef | .tuple _=>false
 | _=>true
def splice (l:List AV) (off:Nat) (cs:List AV):List AV:=l.take off++cs++l.drop (off+cs.length)
def astore (sz:Nat) (a v:AV) (H:Hp):Option Hp :=
 match a with
 | .ptr o off=>match H[o]? with
  | some (.cells l)=>if v.known=true∧v.cells.length=sz∧off+sz≤l.length then some (H.set o (.cells (splice l off v.cells))) else none
  | _=>none
 | .wp o e off=>match H[o]? with
  | some (.row e' l)=>if e'=e∧v.known=true∧v.cells.length=sz∧off+sz≤l.length then some (H.set o (.row e (splice l off v.cells))) else none
  | _=>none
 | _=>none
def afield (off:Nat) (a:AV):Option AV :=
 match a with
 | .ptr o x=>some (.ptr o (x+off))
 | .wp o e x=>some (.wp o e (x+off))
 | .vp cells=>if off≤cells.length then some (.vp (cells.drop off)) else none
 | _=>none
def aindexS (size:Nat) (x i:AV):Option AV :=
 match x,i with
 | .vs k _ l, .int _ n => if k = size ∧ 0 ≤ n then match l[n.toNat]? with
     | some e=>some (.vp e.cells)
     | none=>none else none
 | .rs _ _ o off len _,.int _ n=>if 0≤n∧n < len then some (.ptr o (off+n.toNat * size)) else none
 | .ws _ _ o e len,.int _ n=>if 0≤n∧n < len then some (.wp o e (n.toNat * size)) else none
 | _,_=>none
def aindexA (len size:Nat) (x i:AV):Option AV :=
 match i with
 | .int _ n=>if 0≤n∧n < len then afield (n.toNat * size) x else none
 | _=>none
def aindexStr (x i:AV):Option AV :=
 match x,i with
 | .str s, .int _ n => if 0 ≤ n then match s[n.toNat]? with
     | some b=>some (.int .u8 b.toNat)
     | none=>none else none
 | _,_=>none
def aindexAgg (g:Bool) (len size:Nat) (x i:AV):Option AV :=
 match x,i with
 | .agg cs,.int _ n=>if 0≤n∧n < len then apart g size cs (n.toNat * size) else none
 | _,_=>none

def intbin (op:BinOp) (k:IntKind) (a b:Int):Option AV :=
 match op with
 | .add=>some (.int k (k.wrap (a+b)))
 | .sub=>some (.int k (k.wrap (a - b)))
 | .mul=>some (.int k (k.wrap (a * b)))
 | .quo=>if b=0 then none else some (.int k (k.wrap (a.tdiv b)))
 | .rem=>if b=0 then none else some (.int k (a.tmod b))
 | .and=>some (.int k (k.wrap ((BitVec.ofInt k.bits a &&& BitVec.ofInt k.bits b).toNat:Int)))
 | .or=>some (.int k (k.wrap ((BitVec.ofInt k.bits a ||| BitVec.ofInt k.bits b).toNat:Int)))
 | .xor=>some (.int k (k.wrap ((BitVec.ofInt k.bits a ^^^ BitVec.ofInt k.bits b).toNat:Int)))
 | .andNot=>some (.int k (k.wrap ((BitVec.ofInt k.bits a &&& ~~~BitVec.ofInt k.bits b).toNat:Int)))
 | .eql=>some (.bool (a == b))
 | .neq=>some (.bool (a != b))
 | .lss=>some (.bool (decide (a < b)))
 | .leq=>some (.bool (decide (a≤b)))
 | .gtr=>some (.bool (decide (a > b)))
 | .geq=>some (.bool (decide (a ≥ b)))
 | _=>none
def strbin (op:BinOp) (a b:List UInt8):Option AV :=
 match op with
 | .add=>if a.length+b.length≤9223372036854775807 then some (.str (a++b)) else none
 | .eql=>some (.bool (a == b))
 | .neq=>some (.bool (!(a == b)))
 | .lss=>some (.bool (Op.bytesLess a b))
 | .leq=>some (.bool (Op.bytesLess a b || a == b))
 | .gtr=>some (.bool (!(Op.bytesLess a b || a == b)))
 | .geq=>some (.bool (!Op.bytesLess a b))
 | _=>none

def aeqS (ds:TypeDesc) (x y:AV):Option Bool :=
 match ds,x,y with
 | .bool,.bool a,.bool b=>some (a == b)
 | .int _,.int k a,.int k' b=>if k=k' then some (a == b) else none
 | .string,.str a,.str b=>some (a == b)
 | .pointer _,.nilp,.nilp=>some true
 | .pointer _,.nilp,.ptr _ _=>some false
 | .pointer _,.nilp,.vp _=>some false
 | .pointer _,.ptr _ _,.nilp=>some false
 | .pointer _,.nilp,.wp _ _ _=>some false
 | .pointer _,.wp _ _ _,.nilp=>some false
 | .pointer _,.vp _,.nilp=>some false
 | .slice _,.nils,.nils=>some true
 | .slice _,.nils,.vs _ _ _=>some false
 | .slice _,.nils,.rs _ _ _ _ _ _=>some false
 | .slice _,.nils,.ws _ _ _ _ _=>some false
 | .slice _,.ws _ _ _ _ _,.nils=>some false
 | .slice _,.vs _ _ _,.nils=>some false
 | .slice _,.rs _ _ _ _ _ _,.nils=>some false
 | .map _ _,.nilm,.nilm=>some true
 | .map _ _,.nilm,.map _=>some false
 | .map _ _,.map _,.nilm=>some false
 | .func _ _ _,.nilf,.nilf=>some true
 | .func _ _ _,.nilf,.fn _ _ _=>some false
 | .func _ _ _,.fn _ _ _,.nilf=>some false
 | _,_,_=>none
def aeqFields (P:Program) (rec:TypeId→AV→AV→Option Bool) (xs ys:List AV):List Field→Option Bool
 | []=>some true
 | f :: fs =>
  if f.name ≠ "_" then
   match isAggT P f.type,szT P f.type with
   | some g,some sz=>match apart g sz xs f.offset,apart g sz ys f.offset with
    | some u,some v=>match rec f.type u v with
     | some true=>aeqFields P rec xs ys fs
     | r=>r
    | _,_=>none
   | _,_=>none
  else aeqFields P rec xs ys fs
def aeqItems (rec:AV→AV→Option Bool) (g:Bool) (sz:Nat) (xs ys:List AV):List Nat→Option Bool
 | []=>some true
 | i :: is=>match apart g sz xs (i * sz),apart g sz ys (i * sz) with
  | some u,some v=>match rec u v with
   | some true=>aeqItems rec g sz xs ys is
   | r=>r
  | _,_=>none
def aeq (P:Program) (ok:TypeId→Bool):Nat→TypeId→AV→AV→Option Bool
 | 0,_,_,_=>none
 | d+1,t,x,y =>
  match P.underlying t with
  | some (.struct fs)=>match x,y with
   | .agg xs,.agg ys=>if ok t then aeqFields P (aeq P ok d) xs ys fs.toList else none
   | _,_=>none
  | some (.array n e)=>match x,y with
   | .agg xs, .agg ys => if ok t then (match isAggT P e, szT P e with
       | some g,some sz=>aeqItems (aeq P ok d e) g sz xs ys (List.range n)
       | _,_=>none) else none
   | _,_=>none
  | some ds=>aeqS ds x y
  | none=>none
def aeqBin (P:Program) (ok:TypeId→Bool) (op:BinOp) (t:TypeId) (x y:AV):Option AV :=
 match op with
 | .eql=>match aeq P ok 20 t x y with
  | some b=>some (.bool b)
  | none=>none
 | .neq=>match aeq P ok 20 t x y with
  | some b=>some (.bool (!b))
  | none=>none
 | _=>none
def ashift (op:BinOp) (k k':IntKind) (a b:Int):Option AV :=
 match op with
 | .shl=>if b < 0 then none else some (.int k (k.wrap (a * 2 ^ (min b.toNat k.bits))))
 | .shr=>if b < 0 then none else some (.int k (a.fdiv (2 ^ (min b.toNat k.bits))))
 | op=>if k=k' then intbin op k a b else none
def ibin (op:BinOp) (x y:AV):Option AV :=
 match x,y with
 | .int k a,.int k' b=>ashift op k k' a b
 | _,_=>none
def sbin (op:BinOp) (x y:AV):Option AV :=
 match x,y with
 | .str a,.str b=>strbin op a b
 | _,_=>none
def ebin (d:TypeDesc) (op:BinOp) (x y:AV):Option AV :=
 match op with
 | .eql=>match aeqS d x y with
  | some b=>some (.bool b)
  | none=>none
 | .neq=>match aeqS d x y with
  | some b=>some (.bool (!b))
  | none=>none
 | _=>none
def abin (P:Program) (ok:TypeId→Bool) (op:BinOp) (t:TypeId) (x y:AV):Option AV :=
 match P.underlying t with
 | some (.int _)=>ibin op x y
 | some .string=>sbin op x y
 | some (.struct _)=>aeqBin P ok op t x y
 | some (.array _ _)=>aeqBin P ok op t x y
 | some d=>ebin d op x y
 | none=>none
def isIfaceT (P:Program) (t:TypeId):Bool :=
 match P.underlying t with
 | some (.interface _)=>true
 | _=>false
def amkI (P:Program) (t:TypeId) (x:AV):Option AV :=
 match P.underlying t with
 | some (.interface _)=>none
 | some _=>some (.iface t x)
 | none=>none
def atyI (P:Program) (ok:Bool) (t:TypeId) (z:AV) (x:AV):Option AV :=
 match P.underlying t with
 | some (.interface _)=>none
 | some _=>match x with
  | .iface t' v=>if t'=t then some (if ok then .tuple [v,.bool true] else v) else if ok then some (.tuple [z,.bool false]) else none
  | .nili=>if ok then some (.tuple [z,.bool false]) else none
  | _=>none
 | none=>none
def methF (P:Program) (t:TypeId) (name:String):Option FuncId :=
 match P.info? t,P.underlying t with
 | some i,some (.pointer _)=>match i.methods.find? (·.name == name) with
  | some m=>match m.path.toList,m.func with
   | [],some (f,true)=>some f
   | _,_=>none
  | none=>none
 | _,_=>none
def constIn (x y:Operand):Bool :=
 match x,y with
 | .const _,_=>true
 | _,.const _=>true
 | _,_=>false
def aeqI:AV→AV→Option Bool
 | .nili,.nili=>some true
 | .nili,.iface _ _=>some false
 | .iface _ _,.nili=>some false
 | _,_=>none
def ebinI (op:BinOp) (x y:AV):Option AV :=
 match op with
 | .eql=>match aeqI x y with
  | some b=>some (.bool b)
  | none=>none
 | .neq=>match aeqI x y with
  | some b=>some (.bool (!b))
  | none=>none
 | _=>none
def aun (op:UnOp) (x:AV):Option AV :=
 match op,x with
 | .not,.bool b=>some (.bool (!b))
 | .neg,.int k n=>some (.int k (k.wrap (0 - n)))
 | .xor,.int k n=>intbin .xor k (if k.signed then -1 else k.max) n
 | _,_=>none

def afill:List (Nat × Nat × AV)→List AV→Option (List AV)
 | [],cells=>some cells
 | (off,size,v) :: rest,cells=>if v.known=true∧v.cells.length=size∧off+size≤cells.length then afill rest (splice cells off v.cells) else none
def abuild (P:Program) (t:TypeId) (parts:List (Nat × AV)):Option AV :=
 match zeroT P t,P.underlying t with
 | some (.agg zero),some (.struct fs) =>
  match fs.toList.mapM fun f=>(szT P f.type).map (f.offset,·) with
  | some places=>match parts.mapM fun p=>(places[p.1]?).map fun (q:Nat × Nat)=>(q.1,q.2,p.2) with
   | some ps=>(afill ps zero).map .agg
   | none=>none
  | none=>none
 | some (.agg zero),some (.array _ e)=>match szT P e with
  | some size=>(afill (parts.map fun p=>(p.1 * size,size,p.2)) zero).map .agg
  | none=>none
 | _,_=>none
def setElems (size:Nat):List (Nat × AV)→List AV→Option (List AV)
 | [],l=>some l
 | (i,v) :: rest,l=>if v.known=true∧v.cells.length=size∧i < l.length then setElems size rest (l.set i v) else none
def abuildS (P:Program) (t:TypeId) (len:Nat) (parts:List (Nat × AV)):Option AV :=
 match elemT P t with
 | some e=>match szT P e,zeroT P e with
  | some size,some z=>if len * size≤16777216∧z.known=true∧z.cells.length=size∧0 < size then (setElems size parts (List.replicate len z)).map (.vs size .clip) else none
  | _,_=>none
 | none=>none

def abound (x:AV) (y:Nat):Option Nat :=
 match x with
 | .int _ n=>if 0≤n∧n≤y then some n.toNat else none
 | _=>none
def abounds (len cap:Nat) (lo hi mx:Option AV):Option (Nat × Nat × Nat) :=
 match (match mx with | some v=>abound v cap | none=>some cap) with
 | none=>none
 | some m=>match (match hi,mx with | some v,_=>abound v m | none,none=>some len | none,some _=>none) with
  | none=>none
  | some h=>match (match lo with | some v=>abound v h | none=>some 0) with
   | none=>none
   | some l=>some (l,h,m)
def asliceStr (s:List UInt8) (lo hi:Option AV):Option AV :=
 match abounds s.length s.length lo hi none with
 | some (l,h,_)=>some (.str ((s.take h).drop l))
 | none=>none
def asliceV (size:Nat) (x:AV) (lo hi mx:Option AV):Option AV :=
 match x with
 | .nils=>match abounds 0 0 lo hi mx with
  | some _=>some .nils
  | none=>none
 | .vs k tok l => if k = size then match abounds l.length l.length lo hi mx with
     | some (a, h, m) => some (.vs k (match mx with
         | some _=>if h=m then .clip else .no
         | none=>if h=l.length then tok else .no) ((l.take h).drop a))
     | none=>none else none
 | .rs ag k o off len cap=>match abounds len cap lo hi mx with
  | some (a,h,m)=>some (.rs ag k o (if m=a then off else off+a * size) (h - a) (m - a))
  | none=>none
 | .ws ag k o e len=>match lo,hi,mx with
  | none,some v,none=>match abound v len with
   | some h=>if k=size then some (.ws ag k o e h) else none
   | none=>none
  | _,_,_=>none
 | _=>none

def chunks (ag:Bool) (k:Nat):Nat→List AV→List AV
 | 0,_=>[]
 | n+1,l=>(if ag then .agg (l.take k) else l.headD .undef) :: chunks ag k n (l.drop k)
def elems (k:Nat) (x:AV) (H:Hp):Option (List AV) :=
 match x with
 | .nils=>some []
 | .vs k' _ l=>if k'=k then some l else none
 | .str s=>if k=1 then some (s.map fun b=>.int .u8 b.toNat) else none
 | .rs ag k' o off len _ => if k' = k ∧ (ag = true ∨ k = 1) then match H[o]? with
     | some (.cells cs)=>if off+len * k≤cs.length then some (chunks ag k len (cs.drop off)) else none
     | _=>none else none
 | .ws ag k' o e len => if k' = k ∧ (ag = true ∨ k = 1) then match H[o]? with
     | some (.row e' cs)=>if e'=e∧len * k≤cs.length then some (chunks ag k len cs) else none
     | _=>none else none
 | _=>none
def keyOk:TypeDesc→AV→Bool
 | .bool,.bool _=>true
 | .int k,.int k' _=>decide (k'=k)
 | .string,.str _=>true
 | _,_=>false
def keySame:AV→AV→Option Bool
 | .int k a,.int k' b=>if k=k' then some (a == b) else none
 | .str a,.str b=>some (a == b)
 | .bool a,.bool b=>some (a == b)
 | _,_=>none
def findK (k:AV):List (AV × AV × Nat)→Nat→Option (Option (Nat × AV))
 | [],_=>some none
 | e :: es,i=>match keySame k e.1 with
  | some true=>some (some (i,e.2.1))
  | some false=>findK k es (i+1)
  | none=>none
def mapT (P:Program) (t:TypeId):Option (TypeDesc × TypeId) :=
 match P.underlying t with
 | some (.map k e)=>match P.underlying k with
  | some d=>some (d,e)
  | none=>none
 | _=>none
def entries (x:AV) (H:Hp):Option (List (AV × AV × Nat)) :=
 match x with
 | .nilm=>some []
 | .map o=>match H[o]? with
  | some (.map es _)=>some es
  | _=>none
 | _=>none
def alookup (d:TypeDesc) (z:AV) (ck:Bool) (x k:AV) (H:Hp):Option AV :=
 if keyOk d k then match entries x H with
  | some es=>match findK k es 0 with
   | some (some (_,v))=>some (if ck then .tuple [v,.bool true] else v)
   | some none=>some (if ck then .tuple [z,.bool false] else z)
   | none=>none
  | none=>none else none
def amapSet (d:TypeDesc) (m k v:AV) (H:Hp):Option (AV × Hp) :=
 match m with
 | .map o=>match H[o]? with
  | some (.map es c) => if keyOk d k then match findK k es 0 with
      | some (some (i,_))=>some (.tuple [],H.set o (.map (es.set i (k,v,(es.getD i (.undef,.undef,0)).2.2)) c))
      | some none=>some (.tuple [],H.set o (.map (es++[(k,v,c)]) (c+1)))
      | none=>none else none
  | _=>none
 | _=>none
def alenM (x:AV) (H:Hp):Option AV :=
 match entries x H with
 | some es=>some (.int .i64 es.length)
 | none=>none
def amapDel (d:TypeDesc) (m k:AV) (H:Hp):Option (AV × Hp) :=
 match m with
 | .map o=>match H[o]? with
  | some (.map es c) => if keyOk d k then match findK k es 0 with
      | some (some (i,_))=>some (.tuple [],H.set o (.map (es.eraseIdx i) c))
      | some none=>some (.tuple [],H.set o (.map es c))
      | none=>none else none
  | _=>none
 | _=>none
def fits (n bytes:Nat):Bool:=decide (n * (bytes+1)≤140737488355328)
def aappend (k bytes:Nat) (s:AV) (xs:List AV) (H:Hp):Option (AV × Hp) :=
 match s with
 | .nils=>if xs=[] then some (.nils,H)
  else if fits xs.length bytes then some (.vs k (.own H.length xs.length) xs,H++[.tok xs.length]) else none
 | .vs k' tok l =>
  if k'=k∧fits (l.length+xs.length) bytes then
   if xs=[] then some (.vs k tok l,H) else
   match tok with
   | .clip=>some (.vs k (.own H.length (l.length+xs.length)) (l++xs),H++[.tok (l.length+xs.length)])
   | .own t e=>match H[t]? with
    | some (.tok e')=>if e'=e then some (.vs k (.own t (e+xs.length)) (l++xs),H.set t (.tok (e+xs.length))) else none
    | _=>none
   | .no=>none
  else none
 | _=>none
def cutL (n:Nat) (l:List AV):List AV:=if l.length≤n then l else l.take n
theorem cutL_eq (n:Nat) (l:List AV):cutL n l=l.take n:=by
 unfold cutL
 split
 ·rw [List.take_of_length_le (by assumption)]
 ·rfl
def aappL (ag:Bool) (k bytes:Nat) (s:AV) (xs:List AV) (H:Hp):Option (AV × Hp) :=
 match s with
 | .nils=>if xs=[] then some (.nils,H)
  else if fits xs.length bytes then some (.ws ag k H.length 0 xs.length,H++[.row 0 (xs.map AV.cells).flatten]) else none
 | .vs k' .clip l =>
  if k'=k∧fits (l.length+xs.length) bytes then
   if xs=[] then some (.vs k .clip l,H) else some (.ws ag k H.length 0 (l.length+xs.length),H++[.row 0 ((l++xs).map AV.cells).flatten])
  else none
 | .ws ag' k' o e len =>
  if ag'=ag∧k'=k∧fits (len+xs.length) bytes then
   if xs=[] then some (.ws ag k o e len,H) else
   match H[o]? with
   | some (.row e' l)=>if e'=e∧len * k≤l.length then some (.ws ag k o (e+1) (len+xs.length),H.set o (.row (e+1) (cutL (len * k) l++(xs.map AV.cells).flatten))) else none
   | _=>none
  else none
 | _=>aappend k bytes s xs H
def acopy (k:Nat) (d x:AV) (H:Hp):Option (AV × Hp) :=
 match elems k x H with
 | some xs=>match d with
  | .nils=>if xs=[] then some (.int .i64 0,H) else none
  | .vs _ _ _=>if xs=[] then some (.int .i64 0,H) else none
  | .rs _ k' o off len _=>if xs=[] then some (.int .i64 0,H) else if k'=k∧xs.length≤len then match H[o]? with
   | some (.cells cs)=>if off+xs.length * k≤cs.length then some (.int .i64 xs.length,H.set o (.cells (splice cs off (xs.map AV.cells).flatten))) else none
   | _=>none else none
  | _=>none
 | none=>none
def amake (k bytes:Nat) (ag:Bool) (z:AV) (len cap:AV) (H:Hp):Option (AV × Hp) :=
 match len,cap with
 | .int .i64 n,.int .i64 c =>
  if 0≤n∧n≤c∧z.known=true∧z.cells.length=k∧0 < k∧fits c.toNat bytes then
   if n=0 then some (.vs k (if c=0 then .clip else .own H.length 0) [],H++[.tok 0])
   else some (.rs ag k H.length 0 n.toNat c.toNat,H++[.cells ((List.replicate c.toNat z.cells).flatten)])
  else none
 | _,_=>none
def alenD (d:TypeDesc) (x:AV):Option AV :=
 match d with
 | .string=>match x with
  | .str s=>some (.int .i64 s.length)
  | _=>none
 | .array n _=>some (.int .i64 n)
 | .slice _=>match x with
  | .nils=>some (.int .i64 0)
  | .vs _ _ l=>some (.int .i64 l.length)
  | .rs _ _ _ _ len _=>some (.int .i64 len)
  | .ws _ _ _ _ len=>some (.int .i64 len)
  | _=>none
 | _=>none
def alen (P:Program) (t:TypeId) (x:AV):Option AV :=
 match P.underlying t with
 | some d=>alenD d x
 | none=>none
def amin2:AV→AV→Option AV
 | .int k x,.int k' y=>if k=k' then some (.int k (if y < x then y else x)) else none
 | _,_=>none
def amax2:AV→AV→Option AV
 | .int k x,.int k' y=>if k=k' then some (.int k (if y > x then y else x)) else none
 | _,_=>none
def bytesOf:List AV→Option (List UInt8)
 | []=>some []
 | .int .u8 n :: r=>match bytesOf r with
  | some l=>some (UInt8.ofNat n.toNat :: l)
  | none=>none
 | _=>none
def cvInt (k:IntKind) (x:AV):Option AV :=
 match x with
 | .int _ n=>some (.int k (k.wrap n))
 | _=>none
def cvStr (x:AV):Option AV :=
 match x with
 | .str s=>some (.str s)
 | _=>none
def cvOfBytes (x:AV):Option AV :=
 match x with
 | .nils=>some (.str [])
 | .vs k _ l => if k = 1 then match bytesOf l with
     | some s=>some (.str s)
     | none=>none else none
 | _=>none
def cvToBytes (x:AV):Option AV :=
 match x with
 | .str s=>some (.vs 1 .no (s.map fun b=>.int .u8 b.toNat))
 | _=>none
def isU8:Option TypeDesc→Bool
 | some (.int .u8)=>true
 | _=>false
def aconv (P:Program) (wr:TypeId→Bool) (src dst:TypeId) (x:AV):Option AV :=
 match P.underlying src,P.underlying dst with
 | some (.int _),some (.int k)=>cvInt k x
 | some .string,some .string=>cvStr x
 | some (.slice e),some .string=>if isU8 (P.underlying e) then cvOfBytes x else none
 | some .string,some (.slice e)=>if isU8 (P.underlying e) then (if wr dst then none else cvToBytes x) else none
 | _,_=>none

def apick (c a b:AV):Option AV :=
 match c with
 | .bool t=>some (if t then a else b)
 | _=>none
def anil (x:AV):Option AV :=
 match x with
 | .ptr o off=>some (.ptr o off)
 | .vp cs=>some (.vp cs)
 | .wp o e off=>some (.wp o e off)
 | _=>none
def asliceS (x:AV) (lo hi mx:Option AV):Option AV :=
 match x,mx with
 | .str s,none=>asliceStr s lo hi
 | _,_=>none
def afieldV (g:Bool) (sz off:Nat) (x:AV):Option AV :=
 match x with
 | .agg cs=>apart g sz cs off
 | _=>none
def aext (x:AV) (i:Nat):Option AV :=
 match x with
 | .tuple l=>l[i]?
 | _=>none

def apure (C:Cfg) (ev:Operand→AV):Op→Option AV
 | .move x | .assign x=>some (ev x)
 | .pick c a b=>apick (ev c) (ev a) (ev b)
 | .build t parts=>abuild C.P t (parts.toList.map fun p=>(p.1,ev p.2))
 | .buildSlice t len parts=>abuildS C.P t len (parts.toList.map fun p=>(p.1,ev p.2))
 | .load t a=>match isAggT C.P t,szT C.P t with
  | some g,some sz=>aloadv g sz (ev a)
  | _,_=>none
 | .nilCheck x=>anil (ev x)
 | .binOp op t x y _=>if isIfaceT C.P t then (if constIn x y then ebinI op (ev x) (ev y) else none) else abin C.P C.eqok op t (ev x) (ev y)
 | .unOp op _ x=>aun op (ev x)
 | .convert s d x=>aconv C.P C.wrb s d (ev x)
 | .makeFunc (.func f) first captured=>some (.fn (.func f) (first.toList.map ev) (captured.toList.map ev))
 | .slice t x lo hi mx=>match C.P.underlying t with
  | some .string=>asliceS (ev x) (lo.map ev) (hi.map ev) (mx.map ev)
  | some (.slice e)=>match szT C.P e with
   | some size=>asliceV size (ev x) (lo.map ev) (hi.map ev) (mx.map ev)
   | none=>none
  | _=>none
 | .fieldAddr t x f=>match fieldT C.P t f with
  | some fd=>match szT C.P fd.type with
   | some sz=>if 0 < sz then afield fd.offset (ev x) else none
   | none=>none
  | none=>none
 | .field t x f=>match fieldT C.P t f with
  | some fd=>match isAggT C.P fd.type,szT C.P fd.type with
   | some g,some sz=>afieldV g sz fd.offset (ev x)
   | _,_=>none
  | none=>none
 | .indexAddr t x i=>match C.P.underlying t with
  | some (.slice e)=>match szT C.P e with
   | some size=>aindexS size (ev x) (ev i)
   | none=>none
  | some (.array len e)=>match szT C.P e with
   | some size=>aindexA len size (ev x) (ev i)
   | none=>none
  | _=>none
 | .index t x i=>match C.P.underlying t with
  | some .string=>aindexStr (ev x) (ev i)
  | some (.array len e)=>match isAggT C.P e,szT C.P e with
   | some g,some size=>aindexAgg g len size (ev x) (ev i)
   | _,_=>none
  | _=>none
 | .extract t i=>aext (ev t) i
 | .makeInterface t x=>amkI C.P t (ev x)
 | .typeAssert x _ t ok=>match zeroT C.P t with
  | some z=>atyI C.P ok t z (ev x)
  | none=>none
 | .call { callee:=.builtin .len,args,argTypes }=>match args.toList,argTypes.toList with
  | [x],[t]=>alen C.P t (ev x)
  | _,_=>none
 | .call { callee:=.builtin .min,args,.. }=>match args.toList with
  | [x,y]=>amin2 (ev x) (ev y)
  | _=>none
 | .call { callee:=.builtin .max,args,.. }=>match args.toList with
  | [x,y]=>amax2 (ev x) (ev y)
  | _=>none
 | _=>none

abbrev CallF:=FuncId→List AV→Hp→Option (AV × Hp)

def closeV (H:Hp) (n:Nat):Nat→AV→Option AV
 | 0,_=>none
 | f+1,a=>match a with
  | .ptr o off=>if o < n then some (.ptr o off) else none
  | .map o=>if o < n then some (.map o) else none
  | .vp cells=>match cells.mapM (closeV H n f) with
   | some l=>some (.vp l)
   | none=>none
  | .vs k tok l=>match l.mapM (closeV H n f) with
   | some l=>some (.vs k (match tok with | .own t e=>if t < n then .own t e else .no | tok=>tok) l)
   | none=>none
  | .rs ag k o off len cap => if o < n then some (.rs ag k o off len cap) else
      match elems k (.rs ag k o off len cap) H with
      | some l=>match l.mapM (closeV H n f) with
       | some l=>some (.vs k (if len=cap then .clip else .no) l)
       | none=>none
      | none=>none
  | .ws ag k o e len => if o < n then some (.ws ag k o e len) else
      match elems k (.ws ag k o e len) H with
      | some l=>match l.mapM (closeV H n f) with
       | some l=>some (.vs k .no l)
       | none=>none
      | none=>none
  | .wp o e off=>if o < n then some (.wp o e off) else none
  | .fn fn a b=>match a.mapM (closeV H n f),b.mapM (closeV H n f) with
   | some a,some b=>some (.fn fn a b)
   | _,_=>none
  | .iface t v=>match closeV H n f v with
   | some v=>some (.iface t v)
   | none=>none
  | .agg l=>match l.mapM (closeV H n f) with
   | some l=>some (.agg l)
   | none=>none
  | .tuple l=>match l.mapM (closeV H n f) with
   | some l=>some (.tuple l)
   | none=>none
  | a=>some a

def sumC (g:List AV→Option AV) (args:List AV) (H:List AObj):Option (AV × List AObj) :=
 match g args with
 | some v=>some (v,H)
 | none=>none
def flatV:Nat→AV→Bool
 | _,.bool _=>true
 | _,.int _ _=>true
 | _,.str _=>true
 | _,.nilp=>true
 | _,.nils=>true
 | _,.nilm=>true
 | _,.nilf=>true
 | _,.nili=>true
 | n+1,.agg l=>l.all (flatV n)
 | n+1,.tuple l=>l.all (flatV n)
 | _,_=>false
def flatC (call:List AV→Hp→Option (AV × Hp)) (args:List AV) (H:Hp):Option (AV × Hp) :=
 match args.mapM (closeV [] 0 400) with
 | some args'=>match call args' [] with
  | some (v,H1)=>match closeV H1 0 400 v with
   | some v'=>some (v',H)
   | none=>none
  | none=>none
 | none=>none
mutual
def AV.eqb:AV→AV→Bool
 | .undef,.undef=>true
 | .bool a,.bool b=>a == b
 | .int k a,.int k' b=>decide (k=k') && decide (a=b)
 | .str a,.str b=>decide (a=b)
 | .nilp,.nilp=>true
 | .ptr o f,.ptr o' f'=>Nat.beq o o' && Nat.beq f f'
 | .vp a,.vp b=>AV.eqbL a b
 | .nils,.nils=>true
 | .vs k t l,.vs k' t' l'=>Nat.beq k k' && decide (t=t') && AV.eqbL l l'
 | .rs g k o f n c,.rs g' k' o' f' n' c'=>g == g' && Nat.beq k k' && Nat.beq o o' && Nat.beq f f' && Nat.beq n n' && Nat.beq c c'
 | .ws g k o e n,.ws g' k' o' e' n'=>g == g' && Nat.beq k k' && Nat.beq o o' && Nat.beq e e' && Nat.beq n n'
 | .wp o e f,.wp o' e' f'=>Nat.beq o o' && Nat.beq e e' && Nat.beq f f'
 | .nilm,.nilm=>true
 | .map o,.map o'=>Nat.beq o o'
 | .nilf,.nilf=>true
 | .fn f a b,.fn f' a' b'=>decide (f=f') && AV.eqbL a a' && AV.eqbL b b'
 | .nili,.nili=>true
 | .iface t v,.iface t' v'=>Nat.beq t t' && AV.eqb v v'
 | .agg l,.agg l'=>AV.eqbL l l'
 | .tuple l,.tuple l'=>AV.eqbL l l'
 | _,_=>false
def AV.eqbL:List AV→List AV→Bool
 | [],[]=>true
 | a :: l,b :: m=>AV.eqb a b && AV.eqbL l m
 | _,_=>false
end
def eqbE:List (AV × AV × Nat)→List (AV × AV × Nat)→Bool
 | [],[]=>true
 | (a,b,n) :: l,(a',b',n') :: m=>AV.eqb a a' && AV.eqb b b' && Nat.beq n n' && eqbE l m
 | _,_=>false
def AObj.eqb:AObj→AObj→Bool
 | .cells a,.cells b=>AV.eqbL a b
 | .bld T u l,.bld T' u' l'=>Nat.beq T T' && Nat.beq u u' && decide (l=l')
 | .tok e,.tok e'=>Nat.beq e e'
 | .row e l,.row e' l'=>Nat.beq e e' && AV.eqbL l l'
 | .map es c,.map es' c'=>eqbE es es' && Nat.beq c c'
 | .siter s p,.siter s' p'=>decide (s=s') && Nat.beq p p'
 | .dead,.dead=>true
 | .free,.free=>true
 | _,_=>false
def eqbH:Hp→Hp→Bool
 | [],[]=>true
 | a :: l,b :: m=>AObj.eqb a b && eqbH l m
 | _,_=>false
mutual
theorem AV.eqb_eq:∀ (a b:AV),AV.eqb a b=true→a=b
 | a,b,h=>by
  unfold AV.eqb at h
  split at h
  all_goals first
   | rfl
   | cases h;done
   | skip
  ·rw [beq_iff_eq] at h;rw [h]
  ·simp only [Bool.and_eq_true,decide_eq_true_eq] at h;rw [h.1,h.2]
  ·rw [decide_eq_true_eq] at h;rw [h]
  ·simp only [Bool.and_eq_true,Nat.beq_eq] at h;rw [h.1,h.2]
  ·rw [AV.eqbL_eq _ _ h]
  ·simp only [Bool.and_eq_true,Nat.beq_eq,decide_eq_true_eq] at h;rw [h.1.1,h.1.2,AV.eqbL_eq _ _ h.2]
  ·simp only [Bool.and_eq_true,Nat.beq_eq,beq_iff_eq] at h;obtain ⟨⟨⟨⟨⟨rfl,rfl⟩,rfl⟩,rfl⟩,rfl⟩,rfl⟩:=h;rfl
  ·simp only [Bool.and_eq_true,Nat.beq_eq,beq_iff_eq] at h;obtain ⟨⟨⟨⟨rfl,rfl⟩,rfl⟩,rfl⟩,rfl⟩:=h;rfl
  ·simp only [Bool.and_eq_true,Nat.beq_eq] at h;obtain ⟨⟨rfl,rfl⟩,rfl⟩:=h;rfl
  ·rw [Nat.beq_eq] at h;rw [h]
  ·simp only [Bool.and_eq_true,decide_eq_true_eq] at h;rw [h.1.1,AV.eqbL_eq _ _ h.1.2,AV.eqbL_eq _ _ h.2]
  ·simp only [Bool.and_eq_true,Nat.beq_eq] at h;rw [h.1,AV.eqb_eq _ _ h.2]
  ·rw [AV.eqbL_eq _ _ h]
  ·rw [AV.eqbL_eq _ _ h]
theorem AV.eqbL_eq:∀ (a b:List AV),AV.eqbL a b=true→a=b
 | [],[],_=>rfl
 | a :: l,b :: m,h=>by
  simp only [AV.eqbL,Bool.and_eq_true] at h
  rw [AV.eqb_eq _ _ h.1,AV.eqbL_eq _ _ h.2]
 | [],_ :: _,h=>by simp [AV.eqbL] at h
 | _ :: _,[],h=>by simp [AV.eqbL] at h
end
theorem eqbE_eq:∀ a b,eqbE a b=true→a=b
 | [],[],_=>rfl
 | (a,b,n) :: l,(a',b',n') :: m,h=>by
  simp only [eqbE,Bool.and_eq_true,Nat.beq_eq] at h
  rw [AV.eqb_eq _ _ h.1.1.1,AV.eqb_eq _ _ h.1.1.2,h.1.2,eqbE_eq _ _ h.2]
 | [],_ :: _,h=>by simp [eqbE] at h
 | _ :: _,[],h=>by simp [eqbE] at h
theorem AObj.eqb_eq (a b:AObj) (h:AObj.eqb a b=true):a=b:=by
 unfold AObj.eqb at h
 split at h
 all_goals first
  | rfl
  | cases h;done
  | skip
 ·rw [AV.eqbL_eq _ _ h]
 ·simp only [Bool.and_eq_true,Nat.beq_eq,decide_eq_true_eq] at h;obtain ⟨⟨rfl,rfl⟩,rfl⟩:=h;rfl
 ·rw [Nat.beq_eq] at h;rw [h]
 ·simp only [Bool.and_eq_true,Nat.beq_eq] at h;rw [h.1,AV.eqbL_eq _ _ h.2]
 ·simp only [Bool.and_eq_true,Nat.beq_eq] at h;rw [eqbE_eq _ _ h.1,h.2]
 ·simp only [Bool.and_eq_true,Nat.beq_eq,decide_eq_true_eq] at h;rw [h.1,h.2]
theorem eqbH_eq:∀ a b,eqbH a b=true→a=b
 | [],[],_=>rfl
 | a :: l,b :: m,h=>by
  simp only [eqbH,Bool.and_eq_true] at h
  rw [AObj.eqb_eq _ _ h.1,eqbH_eq _ _ h.2]
 | [],_ :: _,h=>by simp [eqbH] at h
 | _ :: _,[],h=>by simp [eqbH] at h
mutual
theorem AV.eqb_refl:∀ (a:AV),AV.eqb a a=true
 | .undef | .nilp | .nils | .nilm | .nilf | .nili=>by simp [AV.eqb]
 | .bool _ | .int _ _ | .str _ | .ptr _ _ | .rs _ _ _ _ _ _ | .ws _ _ _ _ _ | .wp _ _ _ | .map _=>by simp [AV.eqb]
 | .vp l | .agg l | .tuple l=>by simp [AV.eqb,AV.eqbL_refl l]
 | .vs _ _ l=>by simp [AV.eqb,AV.eqbL_refl l]
 | .fn _ a b=>by simp [AV.eqb,AV.eqbL_refl a,AV.eqbL_refl b]
 | .iface _ v=>by simp [AV.eqb,AV.eqb_refl v]
theorem AV.eqbL_refl:∀ (a:List AV),AV.eqbL a a=true
 | []=>by simp [AV.eqbL]
 | a :: l=>by simp [AV.eqbL,AV.eqb_refl a,AV.eqbL_refl l]
end
theorem eqbE_refl:∀ a,eqbE a a=true
 | []=>rfl
 | (a,b,n) :: l=>by simp [eqbE,AV.eqb_refl a,AV.eqb_refl b,eqbE_refl l]
theorem AObj.eqb_refl (a:AObj):AObj.eqb a a=true:=by
 cases a <;> simp [AObj.eqb,AV.eqbL_refl,eqbE_refl]
theorem eqbH_refl:∀ a,eqbH a a=true
 | []=>rfl
 | a :: l=>by simp [eqbH,AObj.eqb_refl a,eqbH_refl l]
def roC (call:List AV→Hp→Option (AV × Hp)) (args:List AV) (H:Hp):Option (AV × Hp) :=
 match call args H with
 | some (v,H1)=>if eqbH (H1.take H.length) H then match closeV H1 H.length 400 v with
  | some v'=>some (v',H)
  | none=>none else none
 | none=>none
def groC (call:List AV→Hp→Option (AV × Hp)) (args:List AV) (H:Hp):Option (AV × Hp) :=
 match call args H with
 | some (v,H1)=>if eqbH (H1.take H.length) H then some (v,H1) else none
 | none=>none
def acallF (C:Cfg) (call:CallF) (id:FuncId) (args:List AV) (H:Hp):Option (AV × Hp) :=
 match C.ext id with
 | some e=>extC e args H
 | none=>match C.sum id with
  | some g=>sumC g args H
  | none=>match C.eff id with
  | some g=>g.run args H
  | none=>if C.user id then (if C.flat id then flatC (call id) args H else if C.ro id then roC (call id) args H else if C.gro id then groC (call id) args H else call id args H) else none
def acall (C:Cfg) (call:CallF) (f:AV) (args:List AV) (H:Hp):Option (AV × Hp) :=
 match f with
 | .fn (.func id) first captured=>acallF C call id (first++args++captured) H
 | _=>none

def quiet (C:Cfg) (f:FuncId):Bool:=(C.ext f).isSome || (C.sum f).isSome || (C.user f && C.flat f && (C.eff f).isNone)
def qC (C:Cfg) (g:AV→List AV→Hp→Option (AV × Hp)) (f:AV) (args:List AV) (H:Hp):Option (AV × Hp) :=
 match f with
 | .fn (.func id) first captured=>if quiet C id then g (.fn (.func id) first captured) args H else none
 | _=>none
def acallQ (C:Cfg) (call:CallF):AV→List AV→Hp→Option (AV × Hp):=qC C (acall C call)
def argNo:Operand→Nat
 | .tmp i=>i
 | _=>0
def qcall (C:Cfg) (f:Operand) (args:Array Operand):Bool :=
 match f with
 | .tmp t=>C.qk t (args.toList.map argNo)
 | _=>false

def abox (x:AV) (H:Hp):Option (AV × Hp):=if x.known then some (.ptr H.length 0,H++[.cells x.cells]) else none
def stC (C:Cfg):Op→Nat
 | .store t (.tmp a) (.tmp x)=>C.rst t a x
 | _=>0
def stV (k:Nat) (a:AV):Bool :=
 match k with
 | 0=>true
 | 1=>match a with | .wp _ _ _=>true | _=>false
 | _=>match a with | .ptr _ _=>true | _=>false
def astoreU (sz:Nat) (a v:AV) (H:Hp):Option (AV × Hp) :=
 match astore sz a v H with
 | some H'=>some (.tuple [],H')
 | none=>none
def aappE (k bytes:Nat) (s x:AV) (H:Hp):Option (AV × Hp) :=
 match elems k x H with
 | some xs=>aappend k bytes s xs H
 | none=>none
def aappEL (ag:Bool) (k bytes:Nat) (s x:AV) (H:Hp):Option (AV × Hp) :=
 match elems k x H with
 | some xs=>aappL ag k bytes s xs H
 | none=>none
def bldZ:AV→Bool
 | .agg [.nilp,.nils]=>true
 | _=>false
def linT (C:Cfg) (e:TypeId):Option Bool:=if C.lin e then isAggT C.P e else none
def zeroOk (P:Program) (e:TypeId) (k:Nat):Bool :=
 match zeroT P e with
 | some z=>z.known && z.cells.length == k
 | none=>false
def appendable:TypeDesc→Bool
 | .slice _ | .string=>true
 | _=>false
def elemsS (x:AV) (H:Hp):Option (List AV) :=
 match x with
 | .str _=>none
 | x=>elems 1 x H
def cvStrH (x:AV) (H:Hp):Option (AV × Hp) :=
 match elemsS x H with
 | some l=>match bytesOf l with
  | some s=>some (.str s,H)
  | none=>none
 | none=>none
def cvRow (x:AV) (H:Hp):Option (AV × Hp) :=
 match x with
 | .str s=>some (.ws false 1 H.length 0 s.length,H++[.row 0 (s.map fun b=>.int .u8 b.toNat)])
 | _=>none
def ainv (C:Cfg) (call:CallF) (x:AV) (name:String) (args:List AV) (H:Hp):Option (AV × Hp) :=
 match x with
 | .iface t v=>match methF C.P t name with
  | some f=>acall C call (.fn (.func f) [v] []) args H
  | none=>none
 | _=>none
def aheap (C:Cfg) (call:CallF) (ev:Operand→AV) (H:Hp):Op→Option (AV × Hp)
 | .alloc e=>match zeroT C.P e with
  | some z=>match C.bld e with
   | some u=>if bldZ z && e != u then some (.ptr H.length 0,H++[.bld e u []]) else none
   | none=>if z.known then some (.ptr H.length 0,H++[.cells z.cells]) else none
  | none=>none
 | .box _ x=>abox (ev x) H
 | .load t a=>match isAggT C.P t,szT C.P t with
  | some g,some sz=>(aload g sz (ev a) H).map (·,H)
  | _,_=>none
 | .store t a x=>match szT C.P t with
  | some sz=>if stV (stC C (.store t a x)) (ev a) then astoreU sz (ev a) (ev x) H else none
  | none=>none
 | .makeSlice t l c=>match elemT C.P t with
  | some e=>match szT C.P e,bytesT C.P e,isAggT C.P e,zeroT C.P e with
   | some k,some bytes,some ag,some z=>amake k bytes ag z (ev l) (ev c) H
   | _,_,_,_=>none
  | none=>none
 | .convert s d x=>match C.P.underlying s,C.P.underlying d with
  | some (.slice e),some .string=>if isU8 (C.P.underlying e) then cvStrH (ev x) H else none
  | some .string,some (.slice e)=>if C.wrb d && isU8 (C.P.underlying e) then cvRow (ev x) H else none
  | _,_=>none
 | .makeMap _ none=>some (.map H.length,H++[.map [] 0])
 | .lookup t x k ck=>match mapT C.P t with
  | some (d,e)=>match zeroT C.P e with
   | some z=>(alookup d z ck (ev x) (ev k) H).map (·,H)
   | none=>none
  | none=>none
 | .mapUpdate t m k x=>match mapT C.P t with
  | some (d,_)=>amapSet d (ev m) (ev k) (ev x) H
  | none=>none
 | .insert t m k x=>match mapT C.P t with
  | some (d,_)=>amapSet d (ev m) (ev k) (ev x) H
  | none=>none
 | .call { callee:=.builtin .append,args,argTypes }=>match args.toList,argTypes.toList with
  | [s,x],[st,xt]=>match elemT C.P st,C.P.underlying xt with
   | some e,some xd=>if !appendable xd then none else match szT C.P e,bytesT C.P e with
    | some k,some bytes=>if 0 < k && zeroOk C.P e k then (match linT C e with | some ag=>aappEL ag k bytes (ev s) (ev x) H | none=>aappE k bytes (ev s) (ev x) H) else none
    | _,_=>none
   | _,_=>none
  | _,_=>none
 | .call { callee:=.builtin .len,args,argTypes }=>match args.toList,argTypes.toList with
  | [x],[t]=>match mapT C.P t with
   | some _=>(alenM (ev x) H).map (·,H)
   | none=>none
  | _,_=>none
 | .call { callee:=.builtin .delete,args,argTypes }=>match args.toList,argTypes.toList with
  | [m,k],[t,_]=>match mapT C.P t with
   | some (d,_)=>amapDel d (ev m) (ev k) H
   | none=>none
  | _,_=>none
 | .call { callee:=.builtin .copy,args,argTypes }=>match args.toList,argTypes.toList with
  | [d,x],[dt,_]=>match elemT C.P dt with
   | some e=>match szT C.P e with
    | some k=>if 0 < k then acopy k (ev d) (ev x) H else none
    | none=>none
   | none=>none
  | _,_=>none
 | .call { callee:=.value f,args,.. }=>if qcall C f args then acallQ C call (ev f) (args.toList.map ev) H else acall C call (ev f) (args.toList.map ev) H
 | .call { callee:=.invoke r m,args,.. }=>ainv C call (ev r) m (args.toList.map ev) H
 | _=>none

def aop (C:Cfg) (call:CallF) (ev:Operand→AV) (H:Hp) (fl:Bool) (op:Op):Option (AV × Hp) :=
 match apure C ev op with
 | some v=>some (v,H)
 | none=>if fl then none else aheap C call ev H op

abbrev St:=List AV × Hp
def aput (tm:List AV) (dst:Option Tmp) (v:AV):List AV :=
 match dst with
 | some d=>tm.set d v
 | none=>tm
def awanted (ops:Array Oper) (tm:List AV) (o:Oper):Option Bool :=
 match o.guard with
 | none=>some true
 | some (j,want)=>match (match ops[j]? with | some g=>g.dst | none=>none) with
  | none=>some false
  | some d=>match tm[d]? with
   | some (.bool b)=>some (b == want)
   | some .undef=>none
   | _=>some false
def oVal (C:Cfg) (call:CallF) (ops:Array Oper) (fl:Bool) (o:Oper) (tm:List AV) (H:Hp):Option (AV × Hp) :=
 match awanted ops tm o with
 | none=>none
 | some false=>some (.tuple [],H)
 | some true=>aop C call (eval C tm) H fl o.op
def oStep (C:Cfg) (call:CallF) (ops:Array Oper) (fl:Bool) (o:Oper) (s:St):Option St :=
 match oVal C call ops fl o s.1 s.2 with
 | some (v,H)=>some (aput s.1 o.dst v,H)
 | none=>none

def touch (C:Cfg):Op→Nat
 | .move _ | .assign _ | .pick _ _ _ | .build _ _ | .buildSlice _ _ _ | .nilCheck _ | .binOp _ _ _ _ _ | .unOp _ _ _ | .makeInterface _ _ | .makeFunc _ _ _
 | .slice _ _ _ _ _ | .fieldAddr _ _ _ | .field _ _ _ | .indexAddr _ _ _ | .index _ _ _ | .extract _ _ | .typeAssert _ _ _ _=>0
 | .call { callee:=.builtin .min,.. } | .call { callee:=.builtin .max,.. }=>0
 | .convert _ d _=>if C.wrb d then 2 else 1
 | .load _ _ | .lookup _ _ _ _=>1
 | .call { callee:=.builtin .len,.. }=>1
 | .call { callee:=.value (.func f),.. }=>if quiet C f then 0 else 2
 | .call { callee:=.value f,args,.. }=>if qcall C f args then 0 else 2
 | _=>2
def roOp (C:Cfg):Op→Bool
 | .call { callee:=.value (.func f),.. }=>C.ro f && !C.flat f && (C.ext f).isNone && (C.sum f).isNone && (C.eff f).isNone
 | _=>false
def groOp (C:Cfg):Op→Bool
 | .call { callee:=.value (.func f),.. }=>C.gro f && !C.ro f && !C.flat f && (C.ext f).isNone && (C.sum f).isNone && (C.eff f).isNone
 | _=>false
def still (C:Cfg) (x:Op):Bool:=decide (touch C x≤1) || roOp C x
def twoSt (C:Cfg) (x y:Op):Bool:=(decide (stC C x=1) && decide (stC C y=2)) || (decide (stC C x=2) && decide (stC C y=1))
def farP (C:Cfg) (x y:Op):Option (Nat × Nat) :=
 match C.far with
 | none=>none
 | some f=>match x,y with
  | .load t (.tmp a),.store u (.tmp b) _=>if f t a u b then some (a,b) else none
  | _,_=>none
def farB (C:Cfg) (x y:Op):Bool:=(farP C x y).isSome || (farP C y x).isSome
def farL (C:Cfg) (ops:Array Oper):List (Nat × Nat) :=
 match C.far with
 | none=>[]
 | some _=>ops.toList.flatMap fun x=>ops.toList.filterMap fun y=>farP C x.op y.op
def keptSlot (ops:Array Oper) (a:Nat):Bool:=ops.toList.all fun o=>match o.dst with | some d=>!Nat.beq d a | none=>true
def twoO (x y:AV):Bool :=
 match x,y with
 | .ptr o _,.ptr o' _=>!Nat.beq o o'
 | _,_=>false
def farKept (C:Cfg) (ops:Array Oper):Bool:=(farL C ops).all fun p=>keptSlot ops p.1 && keptSlot ops p.2
def farEv (C:Cfg) (ops:Array Oper) (ev:Operand→AV):Bool:=(farL C ops).all fun p=>twoO (ev (.tmp p.1)) (ev (.tmp p.2))
def farAll (C:Cfg) (ops:Array Oper) (ev:Operand→AV):Bool:=farKept C ops && farEv C ops ev
def clash (C:Cfg) (x y:Op):Bool:=!(decide (touch C x=0) || decide (touch C y=0) || (still C x && still C y) || twoSt C x y || farB C x y)
def behind (ops:Array Oper):Nat→Nat→Nat→Bool
 | 0,_,_=>false
 | n+1,j,i=>match ops[j]? with
  | none=>false
  | some o=>o.after.toList.any fun e=>Region.binds .any e && (e.on == i || behind ops n e.on i)
def fresh:Op→Bool
 | .alloc _ | .box _ _ | .makeMap _ none=>true
 | _=>false
def grows (C:Cfg) (x:Op):Bool:=fresh x || groOp C x
def lag (C:Cfg) (ops:Array Oper) (i:Nat):Bool :=
 match ops[i]? with
 | some o=>fresh o.op && o.guard.isNone && (List.range ops.size).any fun j=>decide (j < i) && (match ops[j]? with | some o'=>decide (2≤touch C o'.op) | none=>false) && !behind ops ops.size i j && !behind ops ops.size j i
 | none=>false
def lags (C:Cfg) (ops:Array Oper) (n:Nat):Nat:=(List.range n).countP (lag C ops)
def lagV (C:Cfg) (ev:Operand→AV):Op→Option AObj
 | .alloc e=>match zeroT C.P e with
  | some z=>if z.known && (C.bld e).isNone then some (.cells z.cells) else none
  | none=>none
 | .box _ x=>if (ev x).known then some (.cells (ev x).cells) else none
 | .makeMap _ none=>some (.map [] 0)
 | _=>none
def lagT (x:AObj):Bool :=
 match x with
 | .free=>false
 | _=>true
def lagP (x:AObj) (p:Nat):AV :=
 match x with
 | .map _ _=>.map p
 | _=>.ptr p 0
def alag (p:Nat) (cs:Option AObj) (H:Hp):Option (AV × Hp) :=
 match cs with
 | some l=>match H[p]? with
  | some .free=>if lagT l then some (lagP l p,H.set p l) else none
  | _=>none
 | none=>none
def resvH:Nat→Hp→Hp
 | 0,H=>H
 | n+1,H=>H++List.replicate (n+1) .free
def floats (C:Cfg) (ops:Array Oper) (i:Nat):Bool :=
 match ops[i]? with
 | none=>false
 | some o=>(List.range ops.size).any fun j=>j != i && (match ops[j]? with | some o'=>clash C o.op o'.op && (decide (touch C o.op≤1) || decide (2≤touch C o'.op)) | none=>false) && !(match ops[j]? with | some o'=>decide (touch C o.op≤1) && grows C o'.op && decide (i < j) | none=>false) && !(decide (i < j) && lag C ops j) && !(decide (j < i) && lag C ops i) && !behind ops ops.size i j && !behind ops ops.size j i
def rStep (C:Cfg) (call:CallF) (ops:Array Oper) (draw:Bool) (b i:Nat) (o:Oper) (s:St):Option St :=
 if draw && lag C ops i then (if floats C ops i then none else match alag (b+lags C ops i) (lagV C (eval C s.1) o.op) s.2 with
  | some (v,H)=>some (aput s.1 o.dst v,H)
  | none=>none)
 else oStep C call ops (draw && floats C ops i) o s
def execOps (C:Cfg) (call:CallF) (ops:Array Oper) (draw:Bool) (b:Nat):Nat→List Oper→St→Option St
 | _,[],s=>some s
 | i,o :: rest,s=>match rStep C call ops draw b i o s with
  | some s'=>execOps C call ops draw b (i+1) rest s'
  | none=>none

inductive AExit where
 | normal
 | exit (id:Nat)
 | goto (l:Nat)
 | ret
 deriving DecidableEq

def keepFrom (keep:List Nat):Nat→List AV→List AV
 | _,[]=>[]
 | i,v :: r=>(if keep.contains i then v else .undef) :: keepFrom keep (i+1) r
def firstRegion:Code→Option Nat
 | .region id _ _=>some id
 | .seq a b=>match firstRegion a with
  | some r=>some r
  | none=>firstRegion b
 | .block _ c | .loop c | .scope c=>firstRegion c
 | _=>none
def trim (kp:Nat→Option (List Nat)) (c:Code) (s:St):St :=
 match firstRegion c with
 | none=>s
 | some r=>match kp r with
  | none=>s
  | some keep=>(keepFrom keep 0 s.1,s.2)
def frzV (a:AV) (H:Hp):AV × Hp :=
 match a with
 | .ptr o 0=>match H[o]? with
  | some (.cells l)=>(.vp l,H.set o .dead)
  | some .free=>(a,H.set o .dead)
  | _=>(a,H)
 | _=>(a,H)
def frz1 (s:St) (t:Nat):St:=(s.1.set t (frzV (s.1.getD t (.tuple [])) s.2).1,(frzV (s.1.getD t (.tuple [])) s.2).2)
def frzL (ts:List Nat) (s:St):St:=ts.foldl frz1 s
def frzs (kp:Nat→Option (List Nat)) (id:Nat) (s:St):St :=
 match kp (id+1000000) with
 | none=>s
 | some ts=>frzL ts s
def loopN (f:St→Option (AExit × St)):Nat→St→Option (AExit × St)
 | 0,_=>none
 | n+1,s=>match f s with
  | some (.normal,s')=>loopN f n s'
  | r=>r

def orderOk (ops:Array Oper):Bool :=
 Region.noSelect ops && (List.range ops.size).all fun k =>
  match ops[k]? with
  | none=>false
  | some o=>(o.after.toList.all fun e=>!Region.binds .any e || decide (e.on < k)) &&
   (List.range ops.size).all fun j=>decide (j≤k) || (match ops[j]? with
    | none=>false
    | some o'=>behind ops ops.size j k || o.apart ops o')

def noGoto:Code→Bool
 | .goto _=>false
 | .seq a b=>noGoto a && noGoto b
 | .cond _ x y=>noGoto x && noGoto y
 | .block _ c | .loop c | .scope c=>noGoto c
 | _=>true
def exec (C:Cfg) (call:CallF) (kp:Nat→Option (List Nat)) (n:Nat):Code→St→Option (AExit × St)
 | .skip,s=>some (.normal,s)
 | .region id ops draw,s=>if draw && !(orderOk ops && farAll C ops (eval C (frzs kp id s).1)) then none else match execOps C call ops draw (frzs kp id s).2.length 0 ops.toList ((frzs kp id s).1,resvH (if draw then lags C ops ops.size else 0) (frzs kp id s).2) with
  | some s'=>some (.normal,s')
  | none=>none
 | .seq a b,s=>match exec C call kp n a s with
  | some (.normal,s')=>exec C call kp n b (trim kp b s')
  | r=>r
 | .cond c x y,s=>match eval C s.1 c with
  | .bool t=>if t then exec C call kp n x s else exec C call kp n y s
  | _=>none
 | .block id c,s=>match exec C call kp n c s with
  | some (.exit i,s')=>if i=id then some (.normal,s') else some (.exit i,s')
  | r=>r
 | .loop c,s=>loopN (fun s=>exec C call kp n c (trim kp c s)) n s
 | .scope c,s=>if noGoto c then exec C call kp n c s else none
 | .exit id,s=>some (.exit id,s)
 | .label _,s=>some (.normal,s)
 | .goto l,s=>some (.goto l,s)
 | .ret,s=>some (.ret,s)
 | _,_=>none

def resOne (C:Cfg) (s:St):ResultVar→Option AV
 | .tmp t=>some (s.1.getD t (.tuple []))
 | .cell a t=>match isAggT C.P t,szT C.P t with
  | some g,some sz=>aload g sz (s.1.getD a (.tuple [])) s.2
  | _,_=>none
def resVal (C:Cfg) (fn:Func) (s:St):Option AV :=
 match fn.results.toList.mapM (resOne C s) with
 | some [v]=>some v
 | some l=>some (.tuple l)
 | none=>none

open Classical in
noncomputable def leaveP (H0:Hp) (v:AV) (H:Hp):Option (AV × Hp) :=
 if H.take H0.length=H0 then match closeV H H0.length 400 v with
  | some v'=>some (v',H0)
  | none=>none else none
noncomputable def leave (C:Cfg) (f:FuncId) (H:Hp) (r:AV × Hp):Option (AV × Hp):=if C.pure f then leaveP H r.1 r.2 else some r

noncomputable def body (C:Cfg) (call:CallF) (n:Nat) (f:FuncId) (fn:Func) (c:Code) (args:List AV) (H:Hp):Option (AV × Hp) :=
 match exec C call (C.keep f) n c (args++List.replicate (fn.ntmps - args.length) .undef,H) with
 | some (.normal,s) | some (.ret,s)=>match resVal C fn s with
  | some v=>leave C f H (v,s.2)
  | none=>none
 | _=>none

def retEx (K:Nat):Code→Code
 | .ret=>.exit K
 | .seq a b=>.seq (retEx K a) (retEx K b)
 | .cond c x y=>.cond c (retEx K x) (retEx K y)
 | .block id c=>.block id (retEx K c)
 | .loop c=>.loop (retEx K c)
 | .scope c=>.scope (retEx K c)
 | c=>c
def okK (K:Nat):Code→Bool
 | .exit id=>!Nat.beq id K
 | .seq a b=>okK K a && okK K b
 | .cond _ x y=>okK K x && okK K y
 | .block id c=>!Nat.beq id K && okK K c
 | .loop c=>okK K c
 | .scope c=>okK K c
 | _=>true
def noDst (x:Nat):Code→Bool
 | .region _ ops _=>keptSlot ops x
 | .seq a b=>noDst x a && noDst x b
 | .cond _ a b=>noDst x a && noDst x b
 | .block _ c=>noDst x c
 | .loop c=>noDst x c
 | .scope c=>noDst x c
 | _=>true
def plainFn (C:Cfg) (g:FuncId):Bool:=C.user g && (!C.flat g && (!C.ro g && (!C.gro g && ((C.ext g).isNone && ((C.sum g).isNone && ((C.eff g).isNone && !C.dfr g))))))
def dferOf (C:Cfg) (N:Nat) (ops:Array Oper):Option (Oper × Oper × Nat) :=
 match ops.toList with
 | [o1,o2]=>match o1.op,o1.dst,o1.guard with
  | .makeFunc (.func g) _ _,some x,none=>match o2.op,o2.dst,o2.guard with
   | .defer c,none,none=>match c.callee with
    | .value (.tmp y)=>if Nat.beq x y && (Nat.blt x N && (c.args.isEmpty && plainFn C g)) then some (o1,{ o2 with op:=.call c },x) else none
    | _=>none
   | _,_,_=>none
  | _,_,_=>none
 | _=>none
def undefer (C:Cfg) (N:Nat):Code→Code
 | .seq a b=>match a with
  | .region id ops false=>match dferOf C N ops with
   | some (o1,o2,x)=>if noDst x b && okK 900001 b then .seq (.region id #[o1] false) (.seq (.block 900001 (retEx 900001 b)) (.seq (.region 900002 #[o2] false) .ret)) else .seq (.region id ops false) b
   | none=>.seq a (undefer C N b)
  | _=>.seq a (undefer C N b)
 | c=>c
def codeOf (C:Cfg) (f:FuncId) (fn:Func):Option Code :=
 match C.dfr f with
 | false=>fn.body
 | true=>match fn.body with
  | some c=>some (undefer C fn.ntmps c)
  | none=>none

noncomputable def call (C:Cfg):Nat→CallF
 | 0,_,_,_=>none
 | n+1,f,args,H=>match C.P.funcs[f]? with
  | none=>none
  | some fn=>match codeOf C f fn with
   | none=>none
   | some c=>body C (call C n) n f fn c args H
end Go.Am
namespace Go.Am
open RowKit

section
variable {P:Program} {S:Snap} {W0:World} {H:Hp}

theorem acallQ_sub {C:Cfg} {call:CallF} {f:AV} {args:List AV} {r:AV × Hp} (h:acallQ C call f args H=some r):acall C call f args H=some r:=by
 unfold acallQ qC at h
 split at h
 ·split at h
  ·exact h
  ·cases h
 ·cases h
theorem acallE_sub {C:Cfg} {call:CallF} {b:Bool} {f:AV} {args:List AV} {r:AV × Hp} (h:(if b then acallQ C call f args H else acall C call f args H)=some r):acall C call f args H=some r:=by
 cases b with
 | true=>exact acallQ_sub h
 | false=>exact h
def Yields (P:Program) (W0:World) (S:Snap) (H:Hp) (s:Sem Value) (v:AV) (H':Hp):Prop :=
 Inv W0 S H→∃ v' S',s.run P S.w=.ok v' S'.w∧Ext S S'∧Inv W0 S' H'∧VRel S' v v'

theorem Yields.same {s:Sem Value} {v:AV} (v':Value) (h:s.run P S.w=.ok v' S.w) (hv:VRel S v v'):Yields P W0 S H s v H :=
 fun hI=>⟨v',S,h,Ext.refl S,hI,hv⟩

theorem Inv.size (hI:Inv W0 S H):W0.heap.size≤S.w.heap.size:=hI.below.size

theorem heap_lt {w:World} {b:Nat} {o:Obj} (h:w.heap[b]?=some o):b < w.heap.size:=by
 rcases Nat.lt_or_ge b w.heap.size with h' | h'
 ·exact h'
 ·rw [Array.getElem?_eq_none h'] at h;cases h

theorem _root_.Go.Lib.BuilderAtF.frame {T e : TypeId} {B b : Nat} {p : Value} {bs : List Value} {w w' : World} (h : Lib.BuilderAtF T e B b p bs w) (hb : w'.heap[b]? = w.heap[b]?)
    (hg:∀ v g,w.cell? ⟨b,1,none⟩=some v→v.ownBlock=some g→w'.heap[g]?=w.heap[g]?):Lib.BuilderAtF T e B b p bs w':=by
 obtain ⟨hB,v,hbk,hown,hne⟩:=h
 have hc:w.cell? ⟨b,1,none⟩=some v:=by rw [Lib.cell_of_heap hbk];rfl
 refine ⟨hB,v,hb.trans hbk,⟨hown.1,?_⟩,hne⟩
 rcases hown.2 with h | ⟨g,cap,cur,fz,hv,hbg,hgg,rest⟩
 ·exact .inl h
 ·exact .inr ⟨g,cap,cur,fz,hv,hbg,(hg v g hc (by rw [hv];rfl)).trans hgg,rest⟩
theorem _root_.Go.Lib.IsBuilderF.frame {T e : TypeId} {B b : Nat} {bs : List Value} {w w' : World} (h : Lib.IsBuilderF T e B b bs w) (hb : w'.heap[b]? = w.heap[b]?)
    (hg:∀ v g,w.cell? ⟨b,1,none⟩=some v→v.ownBlock=some g→w'.heap[g]?=w.heap[g]?):Lib.IsBuilderF T e B b bs w' :=
 h.elim (fun h=>.inl (h.frame hb hg)) fun h=>.inr (h.frame hb hg)
theorem _root_.Go.Lib.BuilderAtF.own_lt {T e:TypeId} {B b:Nat} {p:Value} {bs:List Value} {w:World} (h:Lib.BuilderAtF T e B b p bs w) {v:Value} {g:Nat} (hv:w.cell? ⟨b,1,none⟩=some v) (hg:v.ownBlock=some g):g < w.heap.size:=by
 obtain ⟨hB,v',hbk,hown,hne⟩:=h
 rw [Lib.cell_of_heap hbk] at hv
 injection hv with hv
 subst hv
 exact (hown.lt g hg).2
theorem _root_.Go.Lib.IsBuilderF.own_lt {T e:TypeId} {B b:Nat} {bs:List Value} {w:World} (h:Lib.IsBuilderF T e B b bs w) {v:Value} {g:Nat} (hv:w.cell? ⟨b,1,none⟩=some v) (hg:v.ownBlock=some g):g < w.heap.size :=
 h.elim (fun h=>h.own_lt hv hg) fun h=>h.own_lt hv hg
theorem ORel.frame {S S' : Snap} (hx : Ext S S') {B0 o : Nat} {x : AObj} (h : ORel S B0 o x)
    (hb:∀ b,(S.phi o=some b ∨ ∃ e hw sz,S.tk o=some (e,b,hw,sz))→b < S.w.heap.size→S'.w.heap[b]?=S.w.heap[b]?∧∀ i,S'.pub b i→S.pub b i)
    (htk:S'.tk o=S.tk o) (hph:S'.phi o=S.phi o):ORel S' B0 o x:=by
 cases x with
 | cells l =>
  obtain ⟨b,c,el,h1,h2,h3,h4,h5,h6,h7⟩:=h
  obtain ⟨e1,e2⟩:=hb b (.inl h1) (heap_lt h3)
  exact ⟨b,c,el,hx.phi _ _ h1,h2,e1.trans h3,h4,fun i x v hi hv=>(h5 i x v hi hv).mono hx,fun i hp=>h6 i (e2 i hp),h7⟩
 | bld T u l =>
  obtain ⟨b,h1,h2,h3,h4,h5⟩:=h
  have hlt:b < S.w.heap.size:=h2.elim (fun h=>h.lt) fun h=>h.lt
  obtain ⟨e1,e2⟩:=hb b (.inl h1) hlt
  have hcell:∀ i,S'.w.cell? ⟨b,i,none⟩=S.w.cell? ⟨b,i,none⟩:=fun i=>by unfold World.cell?;rw [e1]
  refine ⟨b,hx.phi _ _ h1,h2.frame e1 fun v g hv hg=>?_,h3,fun i hp=>h4 i (e2 i hp),fun v g hv hg=>?_⟩
  ·obtain ⟨⟨n,hw,sz,q⟩,_⟩:=h5 v g hv hg
   exact (hb g (.inr ⟨_,_,_,q⟩) (h2.own_lt hv hg)).1
  ·rw [hcell] at hv
   obtain ⟨⟨n,hw,sz,q⟩,q2⟩:=h5 v g hv hg
   exact ⟨⟨n,hw,sz,htk.trans q⟩,fun i hp=>q2 i ((hb g (.inr ⟨_,_,_,q⟩) (h2.own_lt hv hg)).2 i hp)⟩
 | row e l =>
  obtain ⟨b,sz,c,el,fz,h1,h2,h3,h4,h5,h6,h7,h8,h9⟩:=h
  obtain ⟨e1,e2⟩:=hb b (.inr ⟨_,_,_,h1⟩) (heap_lt h3)
  exact ⟨b,sz,c,el,fz,htk.trans h1,h2,e1.trans h3,h4,h5,fun i x v hi hv=>(h6 i x v hi hv).mono hx,fun i hp=>h7 i (e2 i hp),h8,h9⟩
 | tok e =>
  obtain ⟨b,hw,sz,c,el,fz,h1,h2,h3,h4,h5,h6,h7⟩:=h
  obtain ⟨e1,e2⟩:=hb b (.inr ⟨_,_,_,h1⟩) (heap_lt h3)
  exact ⟨b,hw,sz,c,el,fz,htk.trans h1,h2,e1.trans h3,h4,h5,fun i hi hp=>h6 i hi (e2 i hp),h7⟩
 | map es clock =>
  obtain ⟨b,es',h1,h2,h3,h4,h5,h6⟩:=h
  obtain ⟨e1,e2⟩:=hb b (.inl h1) (heap_lt h3)
  exact ⟨b,es',hx.phi _ _ h1,h2,e1.trans h3,h4,fun i hp=>h5 i (e2 i hp),fun i k v n e hi he =>
   let ⟨p,q,r⟩:=h6 i k v n e hi he;⟨p.mono hx,q.mono hx,r⟩⟩
 | siter s pos =>
  obtain ⟨b,s',h1,h2,h3,h4,h5⟩:=h
  obtain ⟨e1,e2⟩:=hb b (.inl h1) (heap_lt h3)
  exact ⟨b,s',hx.phi _ _ h1,h2,e1.trans h3,h4,fun i hp=>h5 i (e2 i hp)⟩
 | dead=>trivial
 | free=>exact ⟨hph.trans h.1,htk.trans h.2⟩

def Snap.drew (S:Snap):Snap:={ S with w:=S.w.drew }
theorem Ext.drew (S:Snap):Ext S S.drew :=
 ⟨⟨fun _ _ h=>h,fun _ _ h=>⟨h,rfl⟩,fun _ e b hw sz h=>⟨e,b,hw,sz,h,Nat.le_refl _,fun _=>⟨rfl,rfl,rfl⟩⟩⟩,rfl,fun _ _ h _=>h⟩
theorem Inv.drew (hI:Inv W0 S H):Inv W0 S.drew H :=
 ⟨hI.below.drew,fun o x h=>(hI.objs o x h).frame (Ext.drew S) (fun _ _ _=>⟨rfl,fun _ h=>h⟩) rfl rfl,hI.past,hI.inj,hI.tinj,hI.apart,hI.puball,hI.dom,hI.tdom,hI.lim⟩

def Snap.grow (S:Snap) (o:Obj):Snap:={ S with w:=S.w.alloc o,pub:=fun b i=>S.pub b i ∨ b=S.w.heap.size }
theorem Ext.grow (hI:Inv W0 S H) (o:Obj):Ext S (S.grow o):=by
 refine ⟨⟨fun _ _ h=>h,fun b i h=>⟨.inl h,?_⟩,fun _ e b hw sz h=>⟨e,b,hw,sz,h,Nat.le_refl _,fun _=>⟨rfl,rfl,rfl⟩⟩⟩,rfl,fun b i hp hl=>hp.elim id fun e=>by have:=hI.lim;have:=hI.below.size;omega⟩
 exact World.cell?_alloc_lt _ _ _ (hI.puball b i h)
theorem Inv.grow (hI:Inv W0 S H) (o:Obj):Inv W0 (S.grow o) H:=by
 refine ⟨hI.below.alloc hI.size o,fun n x h=>(hI.objs n x h).frame (Ext.grow hI o) (fun b _ hlt=>⟨Below.heap_alloc S.w o b hlt,fun i hp=>?_⟩) rfl rfl,
  hI.past,hI.inj,hI.tinj,hI.apart,fun b i h=>?_,fun o b h=>?_,fun t e b hw sz h=>?_,hI.lim⟩
 ·rcases hp with hp | rfl
  ·exact hp
  ·exact absurd hlt (Nat.lt_irrefl _)
 ·show b < (S.w.alloc o).heap.size
  rw [World.size_alloc]
  rcases h with h | rfl
  ·exact Nat.lt_succ_of_lt (hI.puball b i h)
  ·exact Nat.lt_succ_self _
 ·show b < (S.w.alloc _).heap.size
  rw [World.size_alloc];exact Nat.lt_succ_of_lt (hI.dom _ b h)
 ·show b < (S.w.alloc _).heap.size
  rw [World.size_alloc];exact Nat.lt_succ_of_lt (hI.tdom _ _ b _ _ h)

theorem run_szT {t:TypeId} {n:Nat} (h:szT P t=some n) (w:World):(sizeOf t).run P w=.ok n w:=by
 unfold szT at h
 cases hi:P.info? t with
 | none=>simp [hi] at h
 | some i=>simp [hi] at h;subst h;simp [sizeOf,typeInfo,hi]
theorem run_isAggT {t:TypeId} {g:Bool} (h:isAggT P t=some g) (w:World):(isAgg t).run P w=.ok g w:=by
 unfold isAggT at h
 unfold isAgg
 cases hu:P.underlying t with
 | none=>simp [hu] at h
 | some d=>rw [Sem.run_bind,run_underlying hu];cases d <;> simp_all

structure CellsRel (S:Snap) (l:List AV) (c:Array Value):Prop where
 size:c.size=l.length
 rel:∀ (i:Nat) (x:AV) (v:Value),l[i]?=some x→c[i]?=some v→VRel S x v
 cell:l.all AV.isCell=true

theorem CellsRel.get {l:List AV} {c:Array Value} (h:CellsRel S l c) {i:Nat} {x:AV} (hi:l[i]?=some x):∃ v,c[i]?=some v∧VRel S x v:=by
 have hlt:i < c.size:=by
  rw [h.size]
  rcases Nat.lt_or_ge i l.length with h' | h'
  ·exact h'
  ·rw [List.getElem?_eq_none h'] at hi;cases hi
 exact ⟨c[i],Array.getElem?_eq_getElem hlt,h.rel i x _ hi (Array.getElem?_eq_getElem hlt)⟩
theorem CellsRel.mono {S S':Snap} (hx:Ext S S') {l:List AV} {c:Array Value} (h:CellsRel S l c):CellsRel S' l c :=
 ⟨h.size,fun i x v hi hv=>(h.rel i x v hi hv).mono hx,h.cell⟩
theorem all_of_get {l:List AV} (h:∀ (i:Nat) (x:AV),l[i]?=some x→x.isCell=true):l.all AV.isCell=true:=by
 rw [List.all_eq_true]
 intro x hx
 obtain ⟨i,hi⟩:=List.getElem?_of_mem hx
 exact h i x hi
theorem get_of_all {l:List AV} (h:l.all AV.isCell=true) {i:Nat} {x:AV} (hi:l[i]?=some x):x.isCell=true:=List.all_eq_true.1 h x (List.mem_of_getElem? hi)
theorem all_sub {l:List AV} (h:l.all AV.isCell=true) (a n:Nat):((l.drop a).take n).all AV.isCell=true:=by
 rw [List.all_eq_true] at h ⊢
 exact fun x hx=>h x (List.mem_of_mem_drop (List.mem_of_mem_take hx))
theorem CellsRel.extract {l:List AV} {c:Array Value} (h:CellsRel S l c) (a n:Nat) (hn:a+n≤l.length):CellsRel S ((l.drop a).take n) (c.extract a (a+n)):=by
 refine ⟨by simp [h.size];omega,fun i x v hi hv=>?_,all_sub h.cell a n⟩
 have hin:i < n:=by
  rcases Nat.lt_or_ge i n with h' | h'
  ·exact h'
  ·rw [List.getElem?_eq_none (by simp;omega)] at hi;cases hi
 rw [List.getElem?_take_of_lt hin,List.getElem?_drop] at hi
 refine h.rel (a+i) x v hi ?_
 rw [Array.getElem?_extract] at hv
 split at hv
 ·exact hv
 ·cases hv

theorem VRel.cells {a:AV} {v:Value} (h:VRel S a v) (hu:a.known=true):CellsRel S a.cells v.cells:=by
 cases h with
 | undef v=>cases hu
 | tuple _ _ _ _=>cases hu
 | agg cells vs hc hs h=>exact ⟨hs,h,hc⟩
 | _ =>
  refine ⟨rfl,fun i x v hi hv=>?_,rfl⟩
  cases i with
  | zero =>
   simp [AV.cells] at hi
   simp [Value.cells] at hv
   subst hi hv
   first
    | exact .bool _
    | exact .int _ _
    | exact .str _ _ ‹_›
    | exact .nilp
    | exact .ptr _ _ _ ‹_›
    | exact .vp _ _ _ _ ‹_› ‹_› ‹_›
    | exact .nils
    | exact .vs _ _ _ _ _ _ _ ‹_› ‹_› ‹_› ‹_› ‹_› _ ‹_›
    | exact .rs _ _ _ _ _ _ _ ‹_› ‹_›
    | exact .ws _ _ _ _ _ _ _ ‹_› ‹_›
    | exact .wp _ _ _ _ ‹_›
    | exact .nilm
    | exact .map _ _ ‹_›
    | exact .nilf
    | exact .fn _ _ _ _ _ ‹_› ‹_› ‹_› ‹_›
    | exact .nili
    | exact .iface _ _ _ ‹_›
  | succ n=>simp [AV.cells] at hi

theorem part_sound {t : TypeId} {g : Bool} {sz off : Nat} {l : List AV} {c : Array Value} {v : AV} (hg : isAggT P t = some g) (hs : szT P t = some sz) (hc : CellsRel S l c)
    (h:apart g sz l off=some v):∃ v',(part t c off).run P S.w=.ok v' S.w∧VRel S v v':=by
 unfold apart at h
 cases g with
 | true =>
  simp only [if_true] at h
  split at h
  ·rename_i hle
   injection h with h
   subst h
   have hx:=hc.extract off sz hle
   exact ⟨.agg (c.extract off (off+sz)),by simp [part,run_isAggT hg,run_szT hs],.agg _ _ hx.cell hx.size hx.rel⟩
  ·cases h
 | false =>
  simp only [Bool.false_eq_true,if_false] at h
  obtain ⟨u,hu,hr⟩:=hc.get h
  exact ⟨u,by simp [part,run_isAggT hg,hu],hr⟩

theorem loadVar_sound {t : TypeId} {g : Bool} {sz off b : Nat} {l : List AV} {f : Nat → Value} {v : AV} (hg : isAggT P t = some g) (hs : szT P t = some sz)
    (h1:∀ i,i < l.length→S.w.cell? ⟨b,i+off,none⟩=some (f i)) (h2:∀ (i:Nat) (x:AV),l[i]?=some x→VRel S x (f i)) (h3:l.all AV.isCell=true) (h:apart g sz l 0=some v) :
    ∃ v',(loadVar t ⟨b,off,none⟩).run P S.w=.ok v' S.w∧VRel S v v':=by
 unfold apart at h
 have hadd:∀ j,(⟨b,off,none⟩:Addr).add j=⟨b,j+off,none⟩:=fun j=>by unfold Addr.add;split <;> simp_all [Nat.add_comm]
 cases g with
 | true =>
  simp only [if_true] at h
  split at h
  ·rename_i hle
   injection h with h
   subst h
   have hl:=run_loadCells (P:=P) S.w ⟨b,off,none⟩ sz f (fun j hj=>by rw [hadd];exact h1 j (by omega))
   refine ⟨.agg ((List.range sz).map f).toArray,by simp [loadVar,run_isAggT hg,run_szT hs,hl],.agg _ _ (all_sub h3 0 sz) (by simp;omega) (fun i x v hi hv=>?_)⟩
   have hin:i < sz:=by
    rcases Nat.lt_or_ge i sz with h' | h'
    ·exact h'
    ·rw [List.getElem?_eq_none (by simp;omega)] at hi;cases hi
   simp [hin] at hi hv
   subst hv
   exact h2 i x hi
  ·cases h
 | false =>
  simp only [Bool.false_eq_true,if_false] at h
  have hlt:0 < l.length:=by
   cases l with
   | nil=>simp at h
   | cons=>simp
  have h0:=h1 0 hlt
  simp only [Nat.zero_add] at h0
  exact ⟨f 0,by simp [loadVar,run_isAggT hg,h0],h2 0 v h⟩
end
end Go.Am
namespace Go.Am
open RowKit

section
variable {P:Program} {S:Snap} {W0:World} {H:Hp}

theorem intbin_sound {op : BinOp} {k : IntKind} {a b : Int} {v : AV} (h : intbin op k a b = some v) (t : TypeId) :
    ∃ v',(binOp op t (.int k a) (.int k b)).run P S.w=.ok v' S.w∧VRel S v v':=by
 cases op <;> simp only [intbin] at h
 case quo =>
  split at h
  ·cases h
  ·injection h with h;subst h;exact ⟨_,by simp [binOp,Op.intDiv, *],.int _ _⟩
 case rem =>
  split at h
  ·cases h
  ·injection h with h;subst h;exact ⟨_,by simp [binOp,Op.intDiv, *],.int _ _⟩
 case shl=>cases h
 case shr=>cases h
 case add | sub | mul =>
  injection h with h;subst h;exact ⟨_,by simp [binOp,Op.intArith],.int _ _⟩
 case and | or | xor | andNot =>
  injection h with h;subst h;exact ⟨_,by simp [binOp,Op.intBits],.int _ _⟩
 all_goals
  injection h with h;subst h;exact ⟨_,by simp [binOp,Op.intCmp],.bool _⟩

theorem size_toList (a:ByteArray):a.data.toList.length=a.size:=by cases a;rfl

theorem strbin_sound {op : BinOp} {x y : List UInt8} {v : AV} {a b : ByteArray} (hx : a.data.toList = x) (hy : b.data.toList = y) (h : strbin op x y = some v) :
    ∃ v',(Op.stringOp op a b).run P S.w=.ok v' S.w∧VRel S v v':=by
 subst hx hy
 cases op <;> simp only [strbin] at h
 case add =>
  split at h
  ·rename_i hle
   injection h with h;subst h
   have hs:¬ (((a.size+b.size:Nat):Int) > IntKind.i64.max):=by
    rw [size_toList,size_toList] at hle
    rw [IntKind.max_i64];omega
   refine ⟨.string (a++b),by simp only [Op.stringOp,if_neg hs,Sem.run_pure],.str _ _ ?_⟩
   simp
  ·cases h
 case sub | mul | quo | rem | and | or | xor | shl | shr | andNot=>cases h
 all_goals (injection h with h;subst h;exact ⟨_,by simp only [Op.stringOp,ByteArray.toList_eq,Sem.run_pure],.bool _⟩)

theorem eqFields_sound {d : Nat} {rec : TypeId → AV → AV → Option Bool} {xs ys : List AV} {cx cy : Array Value} (hx : CellsRel S xs cx) (hy : CellsRel S ys cy)
    (hr:∀ (t:TypeId) (x y:AV) (u v:Value) (r:Bool),VRel S x u→VRel S y v→rec t x y=some r→(Op.equalIn d t u v).run P S.w=.ok r S.w) :
    ∀ (fs:List Field) (r:Bool),aeqFields P rec xs ys fs=some r→(Op.eqFields d cx cy fs).run P S.w=.ok r S.w:=by
 intro fs
 induction fs with
 | nil=>intro r h;simp [aeqFields] at h;subst h;rfl
 | cons f fs ih =>
  intro r h
  unfold aeqFields at h
  unfold Op.eqFields
  split at h
  ·rename_i hn
   rw [if_pos hn]
   split at h
   ·rename_i g sz hg hs
    split at h
    ·rename_i u v hu hv
     obtain ⟨u',r1,h1⟩:=part_sound hg hs hx hu
     obtain ⟨v',r2,h2⟩:=part_sound hg hs hy hv
     simp only [Sem.run_bind,r1,r2,Result.andThen_ok]
     split at h
     ·rename_i hrec
      simp only [hr _ _ _ _ _ _ h1 h2 hrec,Result.andThen_ok,Bool.not_true,Bool.false_eq_true,if_false]
      exact ih r h
     ·rename_i hne
      cases r with
      | true=>exact absurd h hne
      | false=>simp [hr _ _ _ _ _ _ h1 h2 h]
    ·cases h
   ·cases h
  ·rename_i hn
   rw [if_neg hn]
   exact ih r h

theorem eqItems_sound {d : Nat} {rec : AV → AV → Option Bool} {e : TypeId} {g : Bool} {sz : Nat} {xs ys : List AV} {cx cy : Array Value} (hg : isAggT P e = some g) (hs : szT P e = some sz) (hx : CellsRel S xs cx) (hy : CellsRel S ys cy)
    (hr:∀ (x y:AV) (u v:Value) (r:Bool),VRel S x u→VRel S y v→rec x y=some r→(Op.equalIn d e u v).run P S.w=.ok r S.w) :
    ∀ (is:List Nat) (r:Bool),aeqItems rec g sz xs ys is=some r→(Op.eqItems d e sz cx cy is).run P S.w=.ok r S.w:=by
 intro is
 induction is with
 | nil=>intro r h;simp [aeqItems] at h;subst h;rfl
 | cons i is ih =>
  intro r h
  unfold aeqItems at h
  unfold Op.eqItems
  split at h
  ·rename_i u v hu hv
   obtain ⟨u',r1,h1⟩:=part_sound hg hs hx hu
   obtain ⟨v',r2,h2⟩:=part_sound hg hs hy hv
   simp only [Sem.run_bind,r1,r2,Result.andThen_ok]
   split at h
   ·rename_i hrec
    simp only [hr _ _ _ _ _ h1 h2 hrec,Result.andThen_ok,Bool.not_true,Bool.false_eq_true,if_false]
    exact ih r h
   ·rename_i hne
    cases r with
    | true=>exact absurd h hne
    | false=>simp [hr _ _ _ _ _ h1 h2 h]
  ·cases h

set_option maxHeartbeats 4000000 in
theorem aeqS_sound {ds : TypeDesc} {t : TypeId} {x y : AV} {u v : Value} {r : Bool} (d : Nat) (hu : P.underlying t = some ds) (hx : VRel S x u) (hy : VRel S y v) (h : aeqS ds x y = some r) :
    (Op.equalIn (d+1) t u v).run P S.w=.ok r S.w:=by
 have hun:=run_underlying hu S.w
 unfold aeqS at h
 split at h
 case h_1=>cases hx;cases hy;injection h with h;subst h;exact run_equalIn_bool' S.w d t _ _ hu
 case h_2 =>
  cases hx;cases hy
  split at h
  ·injection h with h;rename_i hk;subst h hk;exact run_equalIn_int S.w d t _ _ _ _ hu
  ·cases h
 case h_3 =>
  cases hx with | str _ a' ha =>
  cases hy with | str _ b' hb =>
  injection h with h;subst h ha hb
  rw [run_equalIn_string S.w d t _ _ hu,ByteArray.toList_eq,ByteArray.toList_eq]
 all_goals first
  | (cases h;done)
  | (cases hx;cases hy;injection h with h;subst h;unfold Op.equalIn;simp only [Sem.run_bind,hun,Result.andThen_ok];rfl)

theorem aeq_sound {ok : TypeId → Bool} (hok : ∀ t, ok t = true → P.stoodInHeld t = false) : ∀ (n d : Nat) (t : TypeId) (x y : AV) (u v : Value) (r : Bool), n ≤ d → VRel S x u → VRel S y v → aeq P ok n t x y = some r →
    (Op.equalIn d t u v).run P S.w=.ok r S.w:=by
 intro n
 induction n with
 | zero=>intro d t x y u v r _ _ _ h;simp [aeq] at h
 | succ n ih =>
  intro d t x y u v r hd hx hy h
  obtain ⟨d,rfl⟩:∃ d',d=d'+1:=⟨d - 1,by omega⟩
  unfold aeq at h
  split at h
  ·rename_i fs hu
   split at h
   ·split at h
    ·rename_i hk
     cases hx with | agg _ cx hxc hxs hxr =>
     cases hy with | agg _ cy hyc hys hyr =>
     have hf:P.underlying t=some (.struct (P.fieldsOf t)):=by simp [Program.fieldsOf,hu]
     have hff:P.fieldsOf t=fs:=by simp [Program.fieldsOf,hu]
     rw [run_equalIn_struct S.w d t cx cy hf (hok t hk),hff]
     exact eqFields_sound ⟨hxs,hxr,hxc⟩ ⟨hys,hyr,hyc⟩ (fun t x y u v r h1 h2 h3=>ih d t x y u v r (by omega) h1 h2 h3) _ r h
    ·cases h
   ·cases h
  ·rename_i n' e hu
   split at h
   ·split at h
    ·split at h
     ·rename_i g sz hg hs
      cases hx with | agg _ cx hxc hxs hxr =>
      cases hy with | agg _ cy hyc hys hyr =>
      obtain ⟨i,hi,rfl⟩:∃ i,P.info? e=some i∧P.cellsOf e=sz:=by
       unfold szT at hs
       cases hi:P.info? e with
       | none=>simp [hi] at hs
       | some i=>exact ⟨i,rfl,by simp [hi] at hs;simp [Program.cellsOf,hi,hs]⟩
      rw [run_equalIn_array S.w d cx cy hu hi]
      exact eqItems_sound hg hs ⟨hxs,hxr,hxc⟩ ⟨hys,hyr,hyc⟩ (fun x y u v r h1 h2 h3=>ih d e x y u v r (by omega) h1 h2 h3) _ r h
     ·cases h
    ·cases h
   ·cases h
  ·rename_i ds hns hna hu
   exact aeqS_sound d hu hx hy h
  ·cases h
end
end Go.Am
namespace Go.Am
open RowKit

section
variable {P:Program} {S:Snap} {W0:World} {H:Hp}

def plainV:Value→Bool
 | .int _ _ | .float _ _ | .complex _ _ _ | .string _=>false
 | _=>true
def guardV:Value→Bool
 | .nilIface | .agg _=>false
 | _=>true
theorem binOp_eql_gen {t:TypeId} {u v:Value} (hu:plainV u=true):binOp .eql t u v=(do pure (.bool (← Op.equal t u v))):=by
 cases u <;> first | (simp [plainV] at hu;done) | rfl
theorem binOp_neq_gen {t:TypeId} {u v:Value} (hu:plainV u=true):binOp .neq t u v=(do pure (.bool (!(← Op.equal t u v)))):=by
 cases u <;> first | (simp [plainV] at hu;done) | rfl
theorem eqGuard_gen {op:BinOp} {t:TypeId} {X Y:Operand} {u v:Value} (hu:guardV u=true) (w:World):(eqGuard op t X Y u v).run P w=.ok () w:=by
 cases u <;> first | (simp [guardV] at hu;done) | (cases op <;> rfl)

set_option maxHeartbeats 1000000 in
theorem eqGuard_aeq {ok : TypeId → Bool} (hok : ∀ t, ok t = true → P.eqGuardType P.depth t = false) {n : Nat} {op : BinOp} {t : TypeId} {X Y : Operand} {x y : AV} {u v : Value} {r : Bool}
    (hx:VRel S x u) (hy:VRel S y v) (h:aeq P ok n t x y=some r):(eqGuard op t X Y u v).run P S.w=.ok () S.w:=by
 cases n with
 | zero=>simp [aeq] at h
 | succ n =>
  unfold aeq at h
  split at h
  ·split at h
   ·split at h
    ·cases hx with | agg _ cx _ _ _ =>
     cases hy with | agg _ cy _ _ _ =>
     exact run_eqGuard_agg S.w op t X Y cx cy (hok t ‹_›)
    ·cases h
   ·cases h
  ·split at h
   ·split at h
    ·cases hx with | agg _ cx _ _ _ =>
     cases hy with | agg _ cy _ _ _ =>
     exact run_eqGuard_agg S.w op t X Y cx cy (hok t ‹_›)
    ·cases h
   ·cases h
  ·unfold aeqS at h
   split at h <;> first
    | (cases h;done)
    | (cases hx;exact eqGuard_gen rfl S.w)
  ·cases h

theorem equalI_run {t:TypeId} {ms:Array (String × TypeId)} (hu:P.underlying t=some (.interface ms)) {x y:AV} {u v:Value} {b:Bool} (hx:VRel S x u) (hy:VRel S y v) (h:aeqI x y=some b) (d:Nat) (w:World):(Op.equalIn (d+1) t u v).run P w=.ok b w:=by
 have hun:=run_underlying hu w
 unfold aeqI at h
 split at h
 ·cases hx;cases hy;injection h with h;subst h;unfold Op.equalIn;simp only [Sem.run_bind,hun,Result.andThen_ok];rfl
 ·cases hx;cases hy;injection h with h;subst h;unfold Op.equalIn;simp only [Sem.run_bind,hun,Result.andThen_ok];rfl
 ·cases hx;cases hy;injection h with h;subst h;unfold Op.equalIn;simp only [Sem.run_bind,hun,Result.andThen_ok];rfl
 ·cases h
theorem guardI_run {op:BinOp} {t:TypeId} {X Y:Operand} (hop:op=.eql ∨ op=.neq) (hc:constIn X Y=true) {x y:AV} {u v:Value} {b:Bool} (hx:VRel S x u) (hy:VRel S y v) (h:aeqI x y=some b) (w:World):(eqGuard op t X Y u v).run P w=.ok () w∧plainV u=true:=by
 unfold aeqI at h
 split at h
 ·cases hx;cases hy
  refine ⟨?_,rfl⟩
  unfold constIn at hc
  split at hc
  ·rcases hop with rfl | rfl <;> rfl
  ·rcases hop with rfl | rfl <;> cases X <;> rfl
  ·cases hc
 ·cases hx;cases hy
  exact ⟨by rcases hop with rfl | rfl <;> rfl,rfl⟩
 ·cases hx;cases hy
  exact ⟨by rcases hop with rfl | rfl <;> rfl,rfl⟩
 ·cases h
theorem ebinI_sound {op : BinOp} {t : TypeId} {X Y : Operand} {x y : AV} {u v : Value} {r : AV} (ht : isIfaceT P t = true) (hc : constIn X Y = true) (hx : VRel S x u) (hy : VRel S y v) (h : ebinI op x y = some r) :
    ∃ v',(do eqGuard op t X Y u v;binOp op t u v:Sem Value).run P S.w=.ok v' S.w∧VRel S r v':=by
 unfold isIfaceT at ht
 split at ht
 ·rename_i ms hu
  unfold ebinI at h
  split at h
  ·split at h
   ·rename_i b hb
    injection h with h
    subst h
    obtain ⟨g1,g3⟩:=guardI_run (P:=P) (op:=.eql) (t:=t) (.inl rfl) hc hx hy hb S.w
    have h1:=equalI_run hu hx hy hb 9999 S.w
    refine ⟨.bool b,?_,.bool _⟩
    rw [binOp_eql_gen g3]
    simp only [Sem.run_bind,g1,Result.andThen_ok,Op.equal,Op.maxDepth,h1,Sem.run_pure]
   ·cases h
  ·split at h
   ·rename_i b hb
    injection h with h
    subst h
    obtain ⟨g1,g3⟩:=guardI_run (P:=P) (op:=.neq) (t:=t) (.inr rfl) hc hx hy hb S.w
    have h1:=equalI_run hu hx hy hb 9999 S.w
    refine ⟨.bool (!b),?_,.bool _⟩
    rw [binOp_neq_gen g3]
    simp only [Sem.run_bind,g1,Result.andThen_ok,Op.equal,Op.maxDepth,h1,Sem.run_pure]
   ·cases h
  ·cases h
 ·cases ht
theorem aeqBin_sound {ok : TypeId → Bool} (hok : ∀ t, ok t = true → P.stoodInHeld t = false ∧ P.eqGuardType P.depth t = false) {op : BinOp} {t : TypeId} {X Y : Operand} {x y : AV} {u v : Value} {r : AV}
    (hx:VRel S x u) (hy:VRel S y v) (hk:plainV u=true) (h:aeqBin P ok op t x y=some r) :
    ∃ v',(do eqGuard op t X Y u v;binOp op t u v:Sem Value).run P S.w=.ok v' S.w∧VRel S r v':=by
 unfold aeqBin at h
 split at h
 ·split at h
  ·rename_i b hb
   injection h with h;subst h
   have h1:=aeq_sound (fun t h=>(hok t h).1) 20 10000 t x y u v b (by omega) hx hy hb
   have g1:=eqGuard_aeq (fun t h=>(hok t h).2) (op:=.eql) (X:=X) (Y:=Y) hx hy hb
   refine ⟨.bool b,?_,.bool _⟩
   rw [binOp_eql_gen hk]
   simp only [Sem.run_bind,g1,Result.andThen_ok,Op.equal,Op.maxDepth,h1,Sem.run_pure]
  ·cases h
 ·split at h
  ·rename_i b hb
   injection h with h;subst h
   have h1:=aeq_sound (fun t h=>(hok t h).1) 20 10000 t x y u v b (by omega) hx hy hb
   have g1:=eqGuard_aeq (fun t h=>(hok t h).2) (op:=.neq) (X:=X) (Y:=Y) hx hy hb
   refine ⟨.bool (!b),?_,.bool _⟩
   rw [binOp_neq_gen hk]
   simp only [Sem.run_bind,g1,Result.andThen_ok,Op.equal,Op.maxDepth,h1,Sem.run_pure]
  ·cases h
 ·cases h

theorem ashift_sound {op : BinOp} {k k' : IntKind} {a b : Int} {v : AV} (h : ashift op k k' a b = some v) (t : TypeId) :
    ∃ v',(binOp op t (.int k a) (.int k' b)).run P S.w=.ok v' S.w∧VRel S v v':=by
 unfold ashift at h
 split at h
 ·split at h
  ·cases h
  ·injection h with h;subst h;exact ⟨_,by simp [binOp,Op.shift, *],.int _ _⟩
 ·split at h
  ·cases h
  ·injection h with h;subst h;exact ⟨_,by simp [binOp,Op.shift, *],.int _ _⟩
 ·split at h
  ·rename_i hk;subst hk;exact intbin_sound h t
  ·cases h

theorem bin_eq {ok : TypeId → Bool} (hok : ∀ t, ok t = true → P.stoodInHeld t = false ∧ P.eqGuardType P.depth t = false) {op : BinOp} {t : TypeId} {X Y : Operand} {x y : AV} {u v : Value} {r : AV}
    (hns:∀ d,P.underlying t=some d→d ≠ .string∧∀ k,d ≠ .int k) (hx:VRel S x u) (hy:VRel S y v) (h:aeqBin P ok op t x y=some r) :
    ∃ v',(do eqGuard op t X Y u v;binOp op t u v:Sem Value).run P S.w=.ok v' S.w∧VRel S r v':=by
 have plain:∀ b,aeq P ok 20 t x y=some b→plainV u=true:=by
  intro b hb
  unfold aeq at hb
  split at hb
  ·split at hb
   ·cases hx;rfl
   ·cases hb
  ·split at hb
   ·cases hx;rfl
   ·cases hb
  ·rename_i ds _ _ hd
   obtain ⟨h1,h2⟩:=hns ds hd
   cases ds with
   | int k=>exact absurd rfl (h2 k)
   | string=>exact absurd rfl h1
   | _ =>
    unfold aeqS at hb
    split at hb <;> first
     | (cases hb;done)
     | (cases hx;rfl)
     | (rename_i hh;cases hh)
  ·cases hb
 have h2:=h
 unfold aeqBin at h2
 split at h2
 ·split at h2
  ·exact aeqBin_sound hok hx hy (plain _ ‹_›) h
  ·cases h2
 ·split at h2
  ·exact aeqBin_sound hok hx hy (plain _ ‹_›) h
  ·cases h2
 ·cases h2

theorem ebin_aeqBin {ok:TypeId→Bool} {op:BinOp} {t:TypeId} {d:TypeDesc} {x y:AV} (hu:P.underlying t=some d) (hs:∀ fs,d ≠ .struct fs) (ha:∀ n e,d ≠ .array n e):ebin d op x y=aeqBin P ok op t x y:=by
 have:aeq P ok 20 t x y=aeqS d x y:=by
  unfold aeq
  rw [hu]
  cases d <;> first | rfl | exact absurd rfl (hs _) | exact absurd rfl (ha _ _)
 unfold ebin aeqBin
 rw [this]

theorem abin_sound {ok : TypeId → Bool} (hok : ∀ t, ok t = true → P.stoodInHeld t = false ∧ P.eqGuardType P.depth t = false) {op : BinOp} {t : TypeId} {X Y : Operand} {x y : AV} {u v : Value} {r : AV}
    (hx:VRel S x u) (hy:VRel S y v) (h:abin P ok op t x y=some r) :
    ∃ v',(do eqGuard op t X Y u v;binOp op t u v:Sem Value).run P S.w=.ok v' S.w∧VRel S r v':=by
 unfold abin at h
 split at h
 ·unfold ibin at h
  split at h
  ·cases hx with | int _ _ =>
   cases hy with | int _ _ =>
   rw [Sem.run_bind,eqGuard_gen rfl,Result.andThen_ok]
   exact ashift_sound h t
  ·cases h
 ·unfold sbin at h
  split at h
  ·cases hx with | str _ b hb =>
   cases hy with | str _ b' hb' =>
   rw [Sem.run_bind,eqGuard_gen rfl,Result.andThen_ok]
   have hs:binOp op t (.string b) (.string b')=Op.stringOp op b b':=by cases op <;> rfl
   rw [hs]
   exact strbin_sound hb hb' h
  ·cases h
 ·rename_i fs hu
  exact bin_eq hok (fun d hd=>by rw [hu] at hd;injection hd with hd;subst hd;exact ⟨by simp,by simp⟩) hx hy h
 ·rename_i n' e' hu
  exact bin_eq hok (fun d hd=>by rw [hu] at hd;injection hd with hd;subst hd;exact ⟨by simp,by simp⟩) hx hy h
 ·rename_i d h1 h2 h3 h4 hu
  rw [ebin_aeqBin (ok:=ok) hu h3 h4] at h
  exact bin_eq hok (fun d' hd=>by rw [hu] at hd;injection hd with hd;subst hd;exact ⟨h2,h1⟩) hx hy h
 ·cases h

theorem aun_sound {op:UnOp} {x r:AV} {u:Value} (hx:VRel S x u) (h:aun op x=some r):∃ v',(Op.unary op u).run P S.w=.ok v' S.w∧VRel S r v':=by
 unfold aun at h
 split at h
 ·cases hx;injection h with h;subst h;exact ⟨_,rfl,.bool _⟩
 ·cases hx;injection h with h;subst h;exact ⟨_,rfl,.int _ _⟩
 ·cases hx with | int k n =>
  obtain ⟨v',h1,h2⟩:=intbin_sound (P:=P) (S:=S) h 0
  refine ⟨v',?_,h2⟩
  rw [← h1]
  simp [Op.unary,binOp]
 ·cases h

theorem fold_get (off : Nat) : ∀ (cs : List Value) (n : Nat) (arr : Array Value) (i : Nat),
    ((cs.zipIdx n).foldl (fun (a:Array Value) (p:Value × Nat)=>a.setIfInBounds (off+p.2) p.1) arr)[i]? =
     if off+n≤i∧i < off+n+cs.length∧i < arr.size then cs[i - off - n]? else arr[i]?:=by
 intro cs
 induction cs with
 | nil=>intro n arr i;simp;omega
 | cons c cs ih =>
  intro n arr i
  rw [List.zipIdx_cons,List.foldl_cons,ih]
  simp only [Array.size_setIfInBounds,List.length_cons]
  by_cases h:off+n=i
  ·subst h
   rw [if_neg (by omega)]
   by_cases hs:off+n < arr.size
   ·rw [if_pos (by omega)]
    simp [hs]
   ·rw [if_neg (by omega),Array.getElem?_eq_none (by simp;omega),Array.getElem?_eq_none (by omega)]
  ·rw [Array.getElem?_setIfInBounds_ne h]
   by_cases h2:off+(n+1)≤i∧i < off+(n+1)+cs.length∧i < arr.size
   ·rw [if_pos h2,if_pos (by omega)]
    rw [show i - off - n=(i - off - (n+1))+1 by omega,List.getElem?_cons_succ]
   ·rw [if_neg h2,if_neg (by omega)]
theorem fold_size (off : Nat) : ∀ (cs : List (Value × Nat)) (arr : Array Value),
    (cs.foldl (fun (a:Array Value) (p:Value × Nat)=>a.setIfInBounds (off+p.2) p.1) arr).size=arr.size:=by
 intro cs
 induction cs with
 | nil=>intro arr;rfl
 | cons c cs ih=>intro arr;rw [List.foldl_cons,ih];simp

theorem splice_length (l:List AV) (off:Nat) (cs:List AV) (h:off+cs.length≤l.length):(splice l off cs).length=l.length:=by
 simp [splice];omega
theorem splice_get (l : List AV) (off : Nat) (cs : List AV) (h : off + cs.length ≤ l.length) (i : Nat) :
    (splice l off cs)[i]?=if off≤i∧i < off+cs.length then cs[i - off]? else l[i]?:=by
 unfold splice
 by_cases h1:i < off
 ·rw [if_neg (by omega),List.getElem?_append_left (by simp;omega),List.getElem?_append_left (by simp;omega),List.getElem?_take_of_lt h1]
 ·by_cases h2:i < off+cs.length
  ·rw [if_pos (by omega),List.getElem?_append_left (by simp;omega),List.getElem?_append_right (by simp;omega)]
   congr 1
   simp;omega
  ·rw [if_neg (by omega),List.getElem?_append_right (by simp;omega),List.getElem?_drop]
   congr 1
   simp;omega

theorem all_splice {l cs:List AV} {off:Nat} (h:l.all AV.isCell=true) (hc:cs.all AV.isCell=true):(splice l off cs).all AV.isCell=true:=by
 rw [List.all_eq_true] at h hc ⊢
 intro x hx
 simp only [splice,List.mem_append] at hx
 rcases hx with (hx | hx) | hx
 ·exact h x (List.mem_of_mem_take hx)
 ·exact hc x hx
 ·exact h x (List.mem_of_mem_drop hx)
theorem CellsRel.splice {l : List AV} {c : Array Value} (h : CellsRel S l c) {cs : List AV} {d : Array Value} (hd : CellsRel S cs d) {off : Nat} (ho : off + cs.length ≤ l.length) :
    CellsRel S (splice l off cs) (d.zipIdx.foldl (fun (a:Array Value) (p:Value × Nat)=>a.setIfInBounds (off+p.2) p.1) c):=by
 rw [← Array.foldl_toList,Array.toList_zipIdx]
 refine ⟨by rw [fold_size,splice_length l off cs ho];exact h.size,fun i x v hx hv=>?_,all_splice h.cell hd.cell⟩
 rw [fold_get off d.toList 0 c i] at hv
 rw [splice_get l off cs ho] at hx
 have hl:d.toList.length=cs.length:=by rw [Array.length_toList];exact hd.size
 have hc:=h.size
 by_cases hi:off≤i∧i < off+cs.length
 ·rw [if_pos hi] at hx
  rw [if_pos (by omega)] at hv
  simp only [Nat.sub_zero,Array.getElem?_toList] at hv
  exact hd.rel _ x v hx hv
 ·rw [if_neg hi] at hx
  rw [if_neg (by omega)] at hv
  exact h.rel i x v hx hv

theorem mapM_some {α β:Type} {f:α→Option β}:∀ {l:List α} {r:List β},l.mapM f=some r→r.length=l.length∧∀ (i:Nat) (a:α),l[i]?=some a→∃ b,f a=some b∧r[i]?=some b:=by
 intro l
 induction l with
 | nil=>intro r h;simp at h;subst h;simp
 | cons x l ih =>
  intro r h
  rw [List.mapM_cons] at h
  cases hx:f x with
  | none=>simp [hx] at h
  | some b =>
   cases hl:l.mapM f with
   | none=>simp [hx,hl] at h
   | some bs =>
    simp [hx,hl] at h
    subst h
    obtain ⟨h1,h2⟩:=ih hl
    refine ⟨by simp [h1],fun i a hi=>?_⟩
    cases i with
    | zero=>simp at hi;subst hi;exact ⟨b,hx,rfl⟩
    | succ i=>simpa using h2 i a (by simpa using hi)

theorem afill_sound {place : Nat → Option (Nat × Nat)} : ∀ (parts : List (Nat × AV)) (vals : List (Nat × Value)) (ps : List (Nat × Nat × AV)) (l r : List AV) (c : Array Value),
    parts.length=vals.length→ps.length=parts.length →
    (∀ (j:Nat) (p:Nat × AV) (q:Nat × Value),parts[j]?=some p→vals[j]?=some q→p.1=q.1∧VRel S p.2 q.2) →
    (∀ (j:Nat) (p:Nat × AV),parts[j]?=some p→∃ o,place p.1=some o∧ps[j]?=some (o.1,o.2,p.2)) →
    CellsRel S l c→afill ps l=some r→∃ d,Instr.fill place c vals=some d∧CellsRel S r d:=by
 intro parts
 induction parts with
 | nil =>
  intro vals ps l r c hl hp _ _ hc h
  have h1:vals=[]:=List.eq_nil_of_length_eq_zero (by simpa using hl.symm)
  have h2:ps=[]:=List.eq_nil_of_length_eq_zero (by simpa using hp)
  subst h1 h2
  simp [afill] at h
  subst h
  exact ⟨c,rfl,hc⟩
 | cons p parts ih =>
  intro vals ps l r c hl hp hrel hpl hc h
  cases vals with
  | nil=>simp at hl
  | cons q vals =>
   cases ps with
   | nil=>simp at hp
   | cons p0 ps =>
    obtain ⟨h1,h2⟩:=hrel 0 p q rfl rfl
    obtain ⟨i,v⟩:=q
    obtain ⟨i',a⟩:=p
    simp only at h1 h2
    subst h1
    obtain ⟨⟨off,size⟩,ho,hp0⟩:=hpl 0 (i',a) rfl
    simp only [List.getElem?_cons_zero,Option.some.injEq] at hp0
    subst hp0
    unfold afill at h
    split at h
    ·rename_i hcond
     obtain ⟨hkn,hsz,hof⟩:=hcond
     have hv:=h2.cells hkn
     unfold Instr.fill
     simp only at ho
     simp only [ho]
     have hs1:v.cells.size=size:=by rw [hv.size];exact hsz
     have hs2:=hc.size
     rw [if_neg (by simp;omega)]
     refine ih vals ps _ r _ (by simpa using hl) (by simpa using hp) (fun j p q hp hq=>hrel (j+1) p q (by simpa using hp) (by simpa using hq))
      (fun j p hp=>by simpa using hpl (j+1) p (by simpa using hp)) ?_ h
     exact hc.splice hv (by omega)
    ·cases h
end
end Go.Am
namespace Go.Am
open RowKit

section
variable {P:Program} {S:Snap} {W0:World} {H:Hp}

theorem add_spot (b off n:Nat):(⟨b,off,none⟩:Addr).add n=⟨b,off+n,none⟩:=by
 unfold Addr.add;split <;> simp_all

theorem VRel.drop {cells:List AV} {b o:Nat} (h:VRel S (.vp cells) (.pointer (some ⟨b,o,none⟩))) (n:Nat):VRel S (.vp (cells.drop n)) (.pointer (some ⟨b,o+n,none⟩)):=by
 cases h with | vp _ _ _ f h0 h1 h2 =>
 refine .vp _ b (o+n) (fun i=>f (n+i)) (by rw [List.all_eq_true] at h0 ⊢;exact fun x hx=>h0 x (List.mem_of_mem_drop hx)) (fun i hi=>?_) (fun i c hc=>?_)
 ·have:=h1 (n+i) (by simp at hi;omega)
  rwa [← Nat.add_assoc] at this
 ·rw [List.getElem?_drop] at hc
  exact h2 (n+i) c hc

theorem afield_sound {x r:AV} {u:Value} {n:Nat} (hx:VRel S x u) (h:afield n x=some r):∃ b o,u=.pointer (some ⟨b,o,none⟩)∧VRel S r (.pointer (some ⟨b,o+n,none⟩)):=by
 unfold afield at h
 split at h
 ·cases hx with | ptr _ _ b hb =>
  injection h with h;subst h
  exact ⟨b,_,rfl,.ptr _ _ b hb⟩
 ·cases hx with | wp _ _ _ b hb =>
  injection h with h;subst h
  exact ⟨b,_,rfl,.wp _ _ _ b hb⟩
 ·split at h
  ·injection h with h;subst h
   cases hx with | vp _ b off f h0 h1 h2 =>
   exact ⟨b,off,rfl,(VRel.vp _ b off f h0 h1 h2).drop n⟩
  ·cases h
 ·cases h

theorem run_fieldAt {t : TypeId} {f : Nat} {fd : Field} {sz b o : Nat} (hf : fieldT P t f = some fd) (hs : szT P fd.type = some sz) (h0 : 0 < sz) (w : World) :
    (Instr.fieldAt t (.pointer (some ⟨b,o,none⟩)) f).run P w=.ok (.pointer (some ⟨b,o+fd.offset,none⟩)) w:=by
 unfold fieldT at hf
 cases hu:P.underlying t with
 | none=>simp [hu] at hf
 | some d =>
  cases d with
  | struct fs =>
   simp only [hu] at hf
   have h1:sz ≠ 0:=by omega
   simp [Instr.fieldAt,run_underlying hu,hf,Instr.sureAddr,fieldPlace,run_szT hs,h1,add_spot]
  | _=>simp [hu] at hf

theorem run_field {t : TypeId} {f : Nat} {fd : Field} {cs : Array Value} (hf : fieldT P t f = some fd) (w : World) :
    (Instr.field t (.agg cs) f).run P w=(part fd.type cs fd.offset).run P w:=by
 unfold fieldT at hf
 cases hu:P.underlying t with
 | none=>simp [hu] at hf
 | some d =>
  cases d with
  | struct fs =>
   simp only [hu] at hf
   simp [Instr.field,run_underlying hu,hf,asAgg]
  | _=>simp [hu] at hf

theorem aindexS_sound {t e : TypeId} {size : Nat} {x i r : AV} {u v : Value} (hu : P.underlying t = some (.slice e)) (hs : szT P e = some size) (hx : VRel S x u) (hi : VRel S i v)
    (h:aindexS size x i=some r):∃ v',(Instr.indexAt t u v).run P S.w=.ok v' S.w∧VRel S r v':=by
 unfold aindexS at h
 split at h
 ·rename_i k tok l kd n
  split at h
  ·rename_i hc
   obtain ⟨rfl,h0⟩:=hc
   split at h
   ·rename_i el hel
    injection h with h;subst h
    cases hi with | int _ _ =>
    cases hx with | vs _ _ _ b off cap f hcap hk h1 h2 ht sp hsp =>
    have hlt:n.toNat < l.length:=by
     rcases Nat.lt_or_ge n.toNat l.length with h' | h'
     ·exact h'
     ·rw [List.getElem?_eq_none h'] at hel;cases hel
    obtain rfl:sp=none:=hsp.resolve_right (by omega)
    obtain ⟨hkel,hcel⟩:=hk el (List.mem_of_getElem? hel)
    refine ⟨.pointer (some ⟨b,off+n.toNat * k,none⟩),?_,?_⟩
    ·have hh:0≤n∧n < (l.length:Int):=⟨h0,by omega⟩
     simp [Instr.indexAt,asIntOf,run_underlying hu,hh,run_szT hs,add_spot]
    ·refine .vp _ b _ (fun i=>f n.toNat i) hcel (fun i hi=>?_) (fun i c hc=>h2 n.toNat el i c hel hc)
     exact h1 n.toNat i hlt (by omega)
   ·cases h
  ·cases h
 ·rename_i ag k o off len cap kd n
  split at h
  ·rename_i hc
   injection h with h;subst h
   cases hi with | int _ _ =>
   cases hx with | rs _ _ _ _ _ _ b hb hlen =>
   refine ⟨.pointer (some ⟨b,off+n.toNat * size,none⟩),?_,.ptr _ _ _ hb⟩
   simp [Instr.indexAt,asIntOf,run_underlying hu,hc,run_szT hs,add_spot]
  ·cases h
 ·rename_i ag k o e' len kd n
  split at h
  ·rename_i hc
   injection h with h;subst h
   cases hi with | int _ _ =>
   cases hx with | ws _ _ _ _ _ cap b hb hlen =>
   obtain ⟨e0,b0,hw0,sz0,q1,q2,q3⟩:=hb
   refine ⟨.pointer (some ⟨b,n.toNat * size,none⟩),?_,.wp _ _ _ _ ⟨e0,b0,hw0,sz0,q1,q2,fun he=>(q3 he).1⟩⟩
   simp [Instr.indexAt,asIntOf,run_underlying hu,hc,run_szT hs,add_spot]
  ·cases h
 ·cases h

theorem aindexA_sound {t e : TypeId} {len size : Nat} {x i r : AV} {u v : Value} (hu : P.underlying t = some (.array len e)) (hs : szT P e = some size) (hx : VRel S x u) (hi : VRel S i v)
    (h:aindexA len size x i=some r):∃ v',(Instr.indexAt t u v).run P S.w=.ok v' S.w∧VRel S r v':=by
 unfold aindexA at h
 split at h
 ·rename_i kd n
  split at h
  ·rename_i hc
   cases hi with | int _ _ =>
   obtain ⟨b,o,rfl,hr⟩:=afield_sound hx h
   refine ⟨_,?_,hr⟩
   simp [Instr.indexAt,asIntOf,run_underlying hu,Instr.sureAddr,hc,run_szT hs,add_spot]
  ·cases h
 ·cases h

theorem aindexStr_sound {t : TypeId} {x i r : AV} {u v : Value} (hu : P.underlying t = some .string) (hx : VRel S x u) (hi : VRel S i v) (h : aindexStr x i = some r) :
    ∃ v',(Instr.index t u v).run P S.w=.ok v' S.w∧VRel S r v':=by
 unfold aindexStr at h
 split at h
 ·rename_i s kd n
  split at h
  ·rename_i h0
   split at h
   ·rename_i c hc
    injection h with h;subst h
    cases hi with | int _ _ =>
    cases hx with | str _ b hb =>
    subst hb
    have hlt:n.toNat < b.size:=by
     rw [← size_toList]
     rcases Nat.lt_or_ge n.toNat b.data.toList.length with h' | h'
     ·exact h'
     ·rw [List.getElem?_eq_none h'] at hc;cases hc
    have hg:b[n.toNat]=c:=by
     have h2:b.data.toList[n.toNat]?=some b[n.toNat]:=by
      rw [List.getElem?_eq_getElem (by rw [size_toList];exact hlt)];rfl
     rw [h2] at hc;injection hc
    refine ⟨.int .u8 c.toNat,?_,.int _ _⟩
    rw [run_index_string S.w t b kd n hu,dif_pos ⟨h0,by omega⟩,hg]
   ·cases h
  ·cases h
 ·cases h

theorem aindexAgg_sound {t e : TypeId} {g : Bool} {len size : Nat} {x i r : AV} {u v : Value} (hu : P.underlying t = some (.array len e)) (hg : isAggT P e = some g) (hs : szT P e = some size)
    (hx:VRel S x u) (hi:VRel S i v) (h:aindexAgg g len size x i=some r):∃ v',(Instr.index t u v).run P S.w=.ok v' S.w∧VRel S r v':=by
 unfold aindexAgg at h
 split at h
 ·rename_i cs kd n
  split at h
  ·rename_i hc
   cases hi with | int _ _ =>
   cases hx with | agg _ vs h0 h1 h2 =>
   obtain ⟨v',hr,hv⟩:=part_sound hg hs ⟨h1,h2,h0⟩ h
   refine ⟨v',?_,hv⟩
   simp [Instr.index,asIntOf,run_underlying hu,hc,run_szT hs,hr]
  ·cases h
 ·cases h

def ORelV (S:Snap):Option AV→Option Value→Prop
 | none,none=>True
 | some a,some v=>VRel S a v
 | _,_=>False

theorem abound_sound {x:AV} {v:Value} {y n:Nat} (hx:VRel S x v) (h:abound x y=some n) (code:BoundsCode) (w:World):(Instr.sliceBound v y code).run P w=.ok n w∧n≤y:=by
 unfold abound at h
 split at h
 ·rename_i kd m
  split at h
  ·rename_i hc
   injection h with h;subst h
   cases hx with | int _ _ =>
   refine ⟨?_,by omega⟩
   simp [Instr.sliceBound,asIntOf,hc]
  ·cases h
 ·cases h

theorem abounds_sound {isS : Bool} {len cap : Nat} {lo hi mx : Option AV} {lo' hi' mx' : Option Value} {l h m : Nat} (hlo : ORelV S lo lo') (hhi : ORelV S hi hi') (hmx : ORelV S mx mx')
    (hb:abounds len cap lo hi mx=some (l,h,m)) (w:World) :
    (Instr.sliceBounds isS len cap lo' hi' mx').run P w=.ok (l,h,m) w∧l≤h∧(hi ≠ none→h≤m)∧(hi=none→h=len∧mx=none)∧m≤cap∧(mx=none→m=cap):=by
 unfold abounds at hb
 split at hb
 ·cases hb
 rename_i m1 hm1
 split at hb
 ·cases hb
 rename_i h1 hh1
 split at hb
 ·cases hb
 rename_i l1 hl1
 injection hb with hb
 obtain ⟨rfl,rfl,rfl⟩:l1=l∧h1=h∧m1=m:=by simpa using hb
 have lows:(lo=none∧lo'=none∧l1=0) ∨ ∃ v,lo'=some v∧∀ code,(Instr.sliceBound v h1 code).run P w=.ok l1 w∧l1≤h1:=by
  cases lo with
  | none=>cases lo' with
   | none=>injection hl1 with hl1;exact .inl ⟨rfl,rfl,hl1.symm⟩
   | some _=>exact hlo.elim
  | some a=>cases lo' with
   | none=>exact hlo.elim
   | some v=>exact .inr ⟨v,rfl,fun code=>abound_sound hlo hl1 code w⟩
 have hle:l1≤h1:=by
  rcases lows with ⟨_,_,rfl⟩ | ⟨v,_,hv⟩
  ·exact Nat.zero_le _
  ·exact (hv .sliceB).2
 cases mx with
 | none =>
  cases mx' with
  | some _=>exact hmx.elim
  | none =>
   injection hm1 with hm1
   subst hm1
   cases hi with
   | none =>
    cases hi' with
    | some _=>exact hhi.elim
    | none =>
     injection hh1 with hh1
     subst hh1
     refine ⟨?_,hle,(fun h=>absurd rfl h),(fun _=>⟨rfl,rfl⟩),Nat.le_refl _,(fun _=>rfl)⟩
     unfold Instr.sliceBounds
     rcases lows with ⟨_,rfl,rfl⟩ | ⟨v,rfl,hv⟩
     ·simp
     ·simp [(hv _).1]
   | some a =>
    cases hi' with
    | none=>exact hhi.elim
    | some v =>
     obtain ⟨h4,h5⟩:=abound_sound (P:=P) hhi hh1 (if isS then .sliceAcap else .sliceAlen) w
     refine ⟨?_,hle,(fun _=>h5),(fun h=>by cases h),Nat.le_refl _,(fun _=>rfl)⟩
     unfold Instr.sliceBounds
     rcases lows with ⟨_,rfl,rfl⟩ | ⟨v,rfl,hv⟩
     ·simp [h4]
     ·simp [h4,(hv _).1]
 | some a =>
  cases mx' with
  | none=>exact hmx.elim
  | some v =>
   obtain ⟨h6,h7⟩:=abound_sound (P:=P) hmx hm1 (if isS then .slice3Acap else .slice3Alen) w
   cases hi with
   | none=>cases hh1
   | some a =>
    cases hi' with
    | none=>exact hhi.elim
    | some v' =>
     obtain ⟨h4,h5⟩:=abound_sound (P:=P) hhi hh1 .slice3B w
     refine ⟨?_,hle,(fun _=>h5),(fun h=>by cases h),h7,(fun h=>by cases h)⟩
     unfold Instr.sliceBounds
     rcases lows with ⟨_,rfl,rfl⟩ | ⟨v,rfl,hv⟩
     ·simp [h4,h6]
     ·simp [h4,h6,(hv _).1]

theorem extract_toList (b:ByteArray) (l h:Nat):(b.extract l h).data.toList=(b.data.toList.take h).drop l:=by
 rw [ByteArray.data_extract,Array.toList_extract,List.extract_eq_take_drop,List.drop_take]

theorem asliceStr_sound {t : TypeId} {s : List UInt8} {b : ByteArray} {lo hi : Option AV} {lo' hi' : Option Value} {r : AV} (hu : P.underlying t = some .string) (hb : b.data.toList = s)
    (hlo:ORelV S lo lo') (hhi:ORelV S hi hi') (h:asliceStr s lo hi=some r):∃ v',(Instr.slice t (.string b) lo' hi' none).run P S.w=.ok v' S.w∧VRel S r v':=by
 subst hb
 unfold asliceStr at h
 split at h
 ·rename_i l hh m hbd
  injection h with h;subst h
  rw [size_toList] at hbd
  obtain ⟨h1,_⟩:=abounds_sound (P:=P) (isS:=false) (mx:=none) (mx':=none) hlo hhi trivial hbd S.w
  refine ⟨.string (b.extract l hh),?_,.str _ _ (extract_toList b l hh)⟩
  simp [Instr.slice,run_underlying hu,h1]
 ·cases h

theorem getElem?_sub {α:Type} (l:List α) (a h j:Nat) (x:α) (hx:((l.take h).drop a)[j]?=some x):l[a+j]?=some x∧a+j < h:=by
 rw [List.getElem?_drop] at hx
 rcases Nat.lt_or_ge (a+j) h with h' | h'
 ·rw [List.getElem?_take_of_lt h'] at hx
  exact ⟨hx,h'⟩
 ·rw [List.getElem?_eq_none (by simp;omega)] at hx;cases hx

theorem asliceV_sound {t e : TypeId} {size : Nat} {x r : AV} {u : Value} {lo hi mx : Option AV} {lo' hi' mx' : Option Value} (hu : P.underlying t = some (.slice e)) (hs : szT P e = some size)
    (hx:VRel S x u) (hlo:ORelV S lo lo') (hhi:ORelV S hi hi') (hmx:ORelV S mx mx') (h:asliceV size x lo hi mx=some r) :
    ∃ v',(Instr.slice t u lo' hi' mx').run P S.w=.ok v' S.w∧VRel S r v':=by
 unfold asliceV at h
 split at h
 ·split at h
  ·rename_i q hq
   injection h with h;subst h
   obtain ⟨a,hh,m⟩:=q
   cases hx with | nils =>
   obtain ⟨h1,h2,h3,h4,h5,h6⟩:=abounds_sound (P:=P) (isS:=true) hlo hhi hmx hq S.w
   have hm:m=0:=by omega
   have hh0:hh=0:=by
    cases hi with
    | none=>exact (h4 rfl).1
    | some _=>have:=h3 (by simp);omega
   have ha:a=0:=by omega
   subst hm hh0 ha
   exact ⟨.slice none 0 0,by simp [Instr.slice,run_underlying hu,h1,run_szT hs],.nils⟩
  ·cases h
 ·rename_i k tok l
  split at h
  ·rename_i hk
   subst hk
   split at h
   ·rename_i a hh m hq
    injection h with h;subst h
    cases hx with | vs _ _ _ b off cap f hcap hke h1 h2 ht sp hsp =>
    -- the same bounds against the true capacity
    have hq':∃ m',abounds l.length cap lo hi mx=some (a,hh,m')∧(mx ≠ none→m'=m)∧(mx=none→m'=cap∧m=l.length):=by
     unfold abounds at hq ⊢
     cases mx with
     | none =>
      simp only at hq ⊢
      cases hi with
      | none =>
       simp only at hq ⊢
       split at hq
       ·cases hq
       ·rename_i l1 hl1
        injection hq with hq
        simp only [Prod.mk.injEq] at hq
        obtain ⟨rfl,rfl,rfl⟩:=hq
        try rw [hl1]
        exact ⟨cap,rfl,fun h=>absurd rfl h,fun _=>⟨rfl,rfl⟩⟩
      | some v =>
       simp only at hq ⊢
       split at hq
       ·cases hq
       ·rename_i h1' hh1
        have hh1':abound v cap=some h1':=by
         unfold abound at hh1 ⊢
         split at hh1
         ·split at hh1
          ·rename_i hc;injection hh1 with hh1;subst hh1
           rw [if_pos ⟨hc.1,by omega⟩]
          ·cases hh1
         ·cases hh1
        rw [hh1']
        try simp only
        split at hq
        ·cases hq
        ·rename_i l1 hl1
         injection hq with hq
         simp only [Prod.mk.injEq] at hq
         obtain ⟨rfl,rfl,rfl⟩:=hq
         try rw [hl1]
         exact ⟨cap,rfl,fun h=>absurd rfl h,fun _=>⟨rfl,rfl⟩⟩
     | some v =>
      simp only at hq ⊢
      split at hq
      ·cases hq
      ·rename_i m1 hm1
       have hm1':abound v cap=some m1:=by
        unfold abound at hm1 ⊢
        split at hm1
        ·split at hm1
         ·rename_i hc;injection hm1 with hm1;subst hm1
          rw [if_pos ⟨hc.1,by omega⟩]
         ·cases hm1
        ·cases hm1
       rw [hm1']
       try simp only
       split at hq
       ·cases hq
       ·rename_i h1' hh1
        try rw [hh1]
        try simp only
        split at hq
        ·cases hq
        ·rename_i l1 hl1
         injection hq with hq
         simp only [Prod.mk.injEq] at hq
         obtain ⟨rfl,rfl,rfl⟩:=hq
         try rw [hl1]
         exact ⟨m1,rfl,fun _=>rfl,fun h=>by cases h⟩
    obtain ⟨m',hq2,hm1,hm2⟩:=hq'
    obtain ⟨_,g2,g3,g4,g5,g6⟩:=abounds_sound (P:=P) (isS:=true) hlo hhi hmx hq S.w
    obtain ⟨e1,e2,e3,e4,e5,e6⟩:=abounds_sound (P:=P) (isS:=true) hlo hhi hmx hq2 S.w
    have hhl:hh≤l.length:=by
     cases hi with
     | none=>exact Nat.le_of_eq (g4 rfl).1
     | some _=>have:=g3 (by simp);omega
    have hlen:((l.take hh).drop a).length=hh - a:=by simp;omega
    have hhm:hh≤m':=by
     cases hi with
     | none=>obtain ⟨p,q⟩:=e4 rfl;have:=(hm2 q).1;omega
     | some _=>exact e3 (by simp)
    have hsp2:¬ m'=a→sp=none:=fun hne=>hsp.resolve_right (by omega)
    refine ⟨.slice (some ⟨b,if m'=a then off else off+a * k,sp⟩) (hh - a) (m' - a),?_,?_⟩
    ·simp [Instr.slice,run_underlying hu,e1,run_szT hs]
     by_cases hc:m'=a
     ·simp [hc]
     ·obtain rfl:=hsp2 hc
      simp [hc,add_spot]
    ·rw [← hlen]
     refine .vs k _ _ b _ (m' - a) (fun j i=>f (a+j) i) (by rw [hlen];omega) (fun e he=>hke e (List.mem_of_mem_take (List.mem_of_mem_drop he))) (fun j i hj hi=>?_) (fun j e i c he hc=>?_) ?_ sp (if hc:m'=a then .inr (by omega) else .inl (hsp2 hc))
     ·rw [hlen] at hj
      have hc:¬ m'=a:=by omega
      rw [if_neg hc]
      have:=h1 (a+j) i (by omega) hi
      rwa [show off+(a+j) * k+i=off+a * k+j * k+i by rw [Nat.add_mul];omega] at this
     ·exact h2 (a+j) e i c (getElem?_sub l a hh j e he).1 hc
     ·cases mx with
      | some v =>
       have hmm:m'=m:=hm1 (by simp)
       try simp only
       split
       ·simp only [TokOk,hlen];omega
       ·trivial
      | none =>
       obtain ⟨rfl,hml⟩:=hm2 rfl
       try simp only
       split
       ·rename_i hhe
        cases tok with
        | no=>trivial
        | clip=>simp only [TokOk] at ht ⊢;rw [hlen];omega
        | own tt ee =>
         obtain ⟨e0,b0,hw0,sz0,q1,q2,q3⟩:=ht
         refine ⟨e0,b0,hw0,sz0,q1,q2,fun he hlt=>?_⟩
         rw [hlen] at hlt
         obtain ⟨p1,p2,p3⟩:=q3 he (by omega)
         rw [if_neg (by omega),hlen]
         have:hh * k=a * k+(hh - a) * k:=by rw [← Nat.add_mul];congr 1;omega
         have:m' * k=a * k+(m' - a) * k:=by rw [← Nat.add_mul];congr 1;omega
         subst hhe
         refine ⟨p1,by omega,by omega⟩
       ·trivial
   ·cases h
  ·cases h
 ·rename_i ag k o off len cap
  split at h
  ·rename_i a hh m hq
   injection h with h;subst h
   cases hx with | rs _ _ _ _ _ _ b hb hlen =>
   obtain ⟨e1,e2,e3,e4,e5,e6⟩:=abounds_sound (P:=P) (isS:=true) hlo hhi hmx hq S.w
   refine ⟨.slice (some ⟨b,if m=a then off else off+a * size,none⟩) (hh - a) (m - a),?_,.rs _ _ _ _ _ _ b hb ?_⟩
   ·simp [Instr.slice,run_underlying hu,e1,run_szT hs]
    by_cases hc:m=a
    ·simp [hc]
    ·simp [hc,add_spot]
   ·cases hi with
    | none=>obtain ⟨p,q⟩:=e4 rfl;have:=e6 q;omega
    | some _=>have:=e3 (by simp);omega
  ·cases h
 ·rename_i ag k o e' len
  split at h
  ·rename_i v
   split at h
   ·rename_i hh hq0
    split at h
    ·rename_i hk
     subst hk
     injection h with h;subst h
     cases hx with | ws _ _ _ _ _ cap b hb hlen =>
     have hhl:hh≤len:=by
      unfold abound at hq0
      split at hq0
      ·split at hq0
       ·injection hq0 with hq0;omega
       ·cases hq0
      ·cases hq0
     have hq1:abound v cap=some hh:=by
      unfold abound at hq0 ⊢
      split at hq0
      ·split at hq0
       ·rename_i hc;injection hq0 with hq0;subst hq0
        rw [if_pos ⟨hc.1,by omega⟩]
       ·cases hq0
      ·cases hq0
     have hq:abounds len cap none (some v) none=some (0,hh,cap):=by
      unfold abounds
      simp [hq1]
     obtain ⟨e1,e2,e3,e4,e5,e6⟩:=abounds_sound (P:=P) (isS:=true) hlo hhi hmx hq S.w
     obtain ⟨e0,b0,hw0,sz0,q1,q2,q3⟩:=hb
     refine ⟨.slice (some ⟨b,0,none⟩) hh cap,?_,.ws _ _ _ _ _ _ _ ⟨e0,b0,hw0,sz0,q1,q2,fun he=>?_⟩ (by omega)⟩
     ·simp [Instr.slice,run_underlying hu,e1,run_szT hs]
      by_cases hc:cap=0
      ·simp [hc]
      ·simp [hc,add_spot]
     ·obtain ⟨p1,p2,p3⟩:=q3 he
      exact ⟨p1,Nat.le_trans (Nat.mul_le_mul_right k hhl) p2,p3⟩
    ·cases h
   ·cases h
  ·cases h
 ·cases h
end
end Go.Am
namespace Go.Am
open RowKit

section
variable {P:Program} {S:Snap} {W0:World} {H:Hp}

theorem ofConst_sound:∀ (n:Nat) (v:Value),VRel S (ofConst n v) v:=by
 intro n
 induction n with
 | zero =>
  intro v
  unfold ofConst
  split <;> first
   | exact .undef _
   | exact .bool _
   | exact .int _ _
   | exact .str _ _ rfl
   | exact .nilp
   | exact .nils
   | exact .nilm
   | exact .nilf
   | exact .nili
   | (rename_i h;cases h)
 | succ n ih =>
  have hl:∀ (cs:Array Value) (i:Nat) (c:AV) (v:Value),(cs.toList.map (ofConst n))[i]?=some c→cs[i]?=some v→VRel S c v:=by
   intro cs i c v hi hv
   rw [List.getElem?_map,Array.getElem?_toList,hv] at hi
   simp at hi;subst hi
   exact ih v
  intro v
  unfold ofConst
  split <;> first
   | exact .undef _
   | exact .bool _
   | exact .int _ _
   | exact .str _ _ rfl
   | exact .nilp
   | exact .nils
   | exact .nilm
   | exact .nilf
   | exact .nili
   | (rename_i n' cs h;injection h with h;subst h;split <;> first | exact .agg _ _ ‹_› (by simp) (hl cs) | exact .undef _)
   | (rename_i n' cs h;injection h with h;subst h;exact .tuple _ _ (by simp) (hl cs))
   | (rename_i n' t v h;injection h with h;subst h;exact .iface t _ _ (ih v))
   | (rename_i n' fn f c h;injection h with h;subst h;exact .fn fn _ _ _ _ (by simp) (by simp) (hl f) (hl c))

theorem zeroT_sound {t:TypeId} {z:AV} (h:zeroT P t=some z):∃ zc,(∀ w:World,(zeroValue t).run P w=.ok zc w)∧∀ S:Snap,VRel S z zc:=by
 unfold zeroT at h
 cases hi:P.info? t with
 | none=>simp [hi] at h
 | some i =>
  simp only [hi] at h
  cases hz:i.zero with
  | none=>simp [hz] at h
  | some zc =>
   simp [hz] at h
   subst h
   exact ⟨zc,fun w=>by simp [zeroValue,typeInfo,hi,hz],fun S=>ofConst_sound 3 zc⟩

theorem run_mapM_list {α β:Type} {f:α→Option β} {g:α→Sem β} {w:World} (hfg:∀ a b,f a=some b→(g a).run P w=.ok b w):∀ {l:List α} {r:List β},l.mapM f=some r→(l.mapM g).run P w=.ok r w:=by
 intro l
 induction l with
 | nil=>intro r h;simp at h;subst h;rfl
 | cons x l ih =>
  intro r h
  rw [List.mapM_cons] at h
  cases hx:f x with
  | none=>simp [hx] at h
  | some b =>
   cases hl:l.mapM f with
   | none=>simp [hx,hl] at h
   | some bs =>
    simp [hx,hl] at h
    subst h
    rw [List.mapM_cons]
    simp [hfg x b hx,ih hl]
theorem run_mapM_array {α β : Type} {f : α → Option β} {g : α → Sem β} {w : World} (hfg : ∀ a b, f a = some b → (g a).run P w = .ok b w) {l : Array α} {r : List β} (h : l.toList.mapM f = some r) :
    (l.mapM g).run P w=.ok r.toArray w:=by
 rw [Array.mapM_eq_mapM_toList,Sem.run_map,run_mapM_list hfg h]
 rfl

theorem parts_rel {ps : Array (Nat × Operand)} {ev : Operand → AV} {ρ : Operand → Value} (hev : ∀ x, VRel S (ev x) (ρ x)) (j : Nat) (p : Nat × AV) (q : Nat × Value)
    (hp:(ps.toList.map fun p=>(p.1,ev p.2))[j]?=some p) (hq:((ps.map fun (i,x)=>(i,ρ x)).toList)[j]?=some q):p.1=q.1∧VRel S p.2 q.2:=by
 simp only [Array.toList_map,List.getElem?_map,Option.map_eq_some_iff] at hp hq
 obtain ⟨a,ha,rfl⟩:=hp
 obtain ⟨b,hb,rfl⟩:=hq
 rw [ha] at hb
 injection hb with hb
 subst hb
 exact ⟨rfl,hev _⟩

theorem abuild_sound {t : TypeId} {ps : Array (Nat × Operand)} {ev : Operand → AV} {ρ : Operand → Value} (hev : ∀ x, VRel S (ev x) (ρ x)) {r : AV}
    (h:abuild P t (ps.toList.map fun p=>(p.1,ev p.2))=some r):∃ v',(Instr.build t (ps.map fun (i,x)=>(i,ρ x))).run P S.w=.ok v' S.w∧VRel S r v':=by
 unfold abuild at h
 split at h
 ·rename_i zero fs hz hu
  obtain ⟨zc,hzr,hzv⟩:=zeroT_sound hz
  have hzc:=hzv S
  cases hzc with | agg _ zarr hz0 hz1 hz2 =>
  split at h
  ·rename_i places hpl
   split at h
   ·rename_i pss hpss
    cases hf:afill pss zero with
    | none=>simp [hf] at h
    | some cells =>
     simp [hf] at h
     subst h
     have hrun:=run_mapM_array (P:=P) (w:=S.w) (g:=fun f:Field=>do pure (f.offset,← sizeOf f.type)) (fun f b hb=>by
      cases hs:szT P f.type with
      | none=>simp [hs] at hb
      | some n=>simp [hs] at hb;subst hb;simp [run_szT hs]) hpl
     obtain ⟨q1,q2⟩:=mapM_some hpss
     obtain ⟨d,hd1,hd2⟩:=afill_sound (S:=S) (place:=fun i=>places.toArray[i]?) _ _ pss zero cells zarr (by simp) q1 (parts_rel hev) (fun j p hp=>by
      obtain ⟨b,hb1,hb2⟩:=q2 j p hp
      simp only [Option.map_eq_some_iff] at hb1
      obtain ⟨o,ho,rfl⟩:=hb1
      exact ⟨o,by simpa using ho,hb2⟩) ⟨hz1,hz2,hz0⟩ hf
     exact ⟨.agg d,by unfold Instr.build;simp only [Sem.run_bind,hzr,Result.andThen_ok,run_underlying hu,hrun,Value.cells,hd1,Sem.run_pure],.agg _ _ hd2.cell hd2.size hd2.rel⟩
   ·cases h
  ·cases h
 ·rename_i zero n e hz hu
  obtain ⟨zc,hzr,hzv⟩:=zeroT_sound hz
  have hzc:=hzv S
  cases hzc with | agg _ zarr hz0 hz1 hz2 =>
  split at h
  ·rename_i size hs
   cases hf:afill (List.map (fun p=>(p.1 * size,size,p.2)) (ps.toList.map fun p=>(p.1,ev p.2))) zero with
   | none=>simp only [hf] at h;cases h
   | some cells =>
    simp only [hf,Option.map_some,Option.some.injEq] at h
    subst h
    obtain ⟨d,hd1,hd2⟩:=afill_sound (S:=S) (place:=fun i=>some (i * size,size)) _ (ps.map fun (i,x)=>(i,ρ x)).toList _ zero cells zarr (by simp) (by simp) (parts_rel hev) (fun j p hp=>by
     refine ⟨_,rfl,?_⟩
     rw [List.getElem?_map,hp];rfl) ⟨hz1,hz2,hz0⟩ hf
    exact ⟨.agg d,by unfold Instr.build;simp only [Sem.run_bind,hzr,Result.andThen_ok,run_underlying hu,run_szT hs,Value.cells,hd1,Sem.run_pure],.agg _ _ hd2.cell hd2.size hd2.rel⟩
  ·cases h
 ·cases h

def flat (l:List AV):List AV:=(l.map AV.cells).flatten

theorem flat_length {k:Nat}:∀ {l:List AV},(∀ e ∈ l,e.cells.length=k)→(flat l).length=l.length * k:=by
 intro l
 induction l with
 | nil=>intro _;simp [flat]
 | cons e l ih =>
  intro h
  have h1:=h e (by simp)
  have h2:=ih (fun e he=>h e (by simp [he]))
  simp only [flat,List.map_cons,List.flatten_cons,List.length_append,List.length_cons] at h2 ⊢
  rw [h1,h2,Nat.add_mul];omega
theorem flat_get {k:Nat}:∀ {l:List AV},(∀ e ∈ l,e.cells.length=k)→∀ (j i:Nat) (e:AV),l[j]?=some e→i < k→(flat l)[j * k+i]?=e.cells[i]?:=by
 intro l
 induction l with
 | nil=>intro _ j i e h;simp at h
 | cons a l ih =>
  intro h j i e hj hi
  have h1:=h a (by simp)
  have hf:flat (a :: l)=a.cells++flat l:=by simp [flat]
  rw [hf]
  cases j with
  | zero =>
   simp at hj;subst hj
   rw [List.getElem?_append_left (by omega)]
   simp
  | succ j =>
   rw [List.getElem?_append_right (by rw [h1,Nat.add_mul];omega)]
   rw [show (j+1) * k+i - a.cells.length=j * k+i by rw [h1,Nat.add_mul];omega]
   exact ih (fun e he=>h e (by simp [he])) j i e (by simpa using hj) hi
theorem flat_set {k:Nat} {l:List AV} (h:∀ e ∈ l,e.cells.length=k) {j:Nat} {v:AV} (hj:j < l.length) (hv:v.cells.length=k):flat (l.set j v)=splice (flat l) (j * k) v.cells:=by
 have hs:∀ e ∈ l.set j v,e.cells.length=k:=fun e he=>by
  rcases List.mem_or_eq_of_mem_set he with h' | rfl
  ·exact h e h'
  ·exact hv
 have hjk:j * k+k≤l.length * k:=by
  have:(j+1) * k≤l.length * k:=Nat.mul_le_mul_right k hj
  rw [Nat.add_mul] at this;omega
 apply List.ext_getElem?
 intro i
 rw [splice_get _ _ _ (by rw [flat_length h,hv];exact hjk)]
 rcases Nat.eq_zero_or_pos k with rfl | hk
 ·have h1:(flat (l.set j v))=[]:=List.eq_nil_of_length_eq_zero (by rw [flat_length hs];simp)
  have h2:(flat l)=[]:=List.eq_nil_of_length_eq_zero (by rw [flat_length h];simp)
  rw [h1,h2,hv]
  simp
 ·by_cases hlt:i < l.length * k
  ·obtain ⟨q,r,hr,rfl⟩:∃ q r,r < k∧i=q * k+r:=⟨i / k,i % k,Nat.mod_lt _ hk,by rw [Nat.mul_comm];exact (Nat.div_add_mod i k).symm⟩
   have hq:q < l.length:=by
    rcases Nat.lt_or_ge q l.length with h' | h'
    ·exact h'
    ·have:=Nat.mul_le_mul_right k h';omega
   by_cases hqj:q=j
   ·subst hqj
    rw [flat_get hs q r v (by simp [hq]) hr,if_pos (by omega)]
    congr 1;omega
   ·have hne : ¬ (j * k ≤ q * k + r ∧ q * k + r < j * k + v.cells.length) := by
       rintro ⟨h1,h2⟩
       rw [hv] at h2
       rcases Nat.lt_or_gt_of_ne hqj with h' | h'
       ·have:=Nat.mul_le_mul_right k (Nat.succ_le_of_lt h');rw [Nat.succ_mul] at this;omega
       ·have:=Nat.mul_le_mul_right k (Nat.succ_le_of_lt h');rw [Nat.succ_mul] at this;omega
    rw [if_neg hne,flat_get hs q r l[q] (by rw [List.getElem?_set_ne (Ne.symm hqj)];simp [hq]) hr,flat_get h q r l[q] (by simp [hq]) hr]
  ·have h2:¬ (j * k≤i∧i < j * k+v.cells.length):=by rw [hv];omega
   rw [if_neg h2,List.getElem?_eq_none (by rw [flat_length hs];simpa using hlt),List.getElem?_eq_none (by rw [flat_length h];omega)]

theorem flat_cell {l:List AV} (h:(flat l).all AV.isCell=true) {e:AV} (he:e ∈ l):e.cells.all AV.isCell=true:=by
 rw [List.all_eq_true] at h ⊢
 exact fun x hx=>h x (List.mem_flatten.2 ⟨e.cells,List.mem_map.2 ⟨e,he,rfl⟩,hx⟩)
theorem cell_flat {l:List AV} (h:∀ e ∈ l,e.cells.all AV.isCell=true):(flat l).all AV.isCell=true:=by
 rw [List.all_eq_true]
 intro x hx
 obtain ⟨c,hc,hxc⟩:=List.mem_flatten.1 hx
 obtain ⟨e,he,rfl⟩:=List.mem_map.1 hc
 exact List.all_eq_true.1 (h e he) x hxc

theorem vs_of_block {k : Nat} {tok : Tok} {l : List AV} {b off cap : Nat} {c : Array Value} {el : TypeId} {fz : Nat × Nat} (hb : S.w.heap[b]? = some (.cells c el fz)) (hcap : l.length ≤ cap) (hk : ∀ e ∈ l, e.cells.length = k) (hcell : (flat l).all AV.isCell = true)
    (hp:∀ i,i < l.length * k→S.pub b (off+i)) (hsz:off+l.length * k≤c.size) (hr:∀ (i:Nat) (x:AV) (v:Value),(flat l)[i]?=some x→c[off+i]?=some v→VRel S x v)
    (ht:TokOk S k tok l.length b off cap):VRel S (.vs k tok l) (.slice (some ⟨b,off,none⟩) l.length cap):=by
 have hin:∀ j i,j < l.length→i < k→j * k+i < l.length * k:=fun j i hj hi=>by
  have:=Nat.mul_le_mul_right k (Nat.succ_le_of_lt hj);rw [Nat.succ_mul] at this;omega
 refine .vs k tok l b off cap (fun j i=>c.getD (off+(j * k+i)) undef) hcap (fun e he=>⟨hk e he,flat_cell hcell he⟩) (fun j i hj hi=>⟨?_,?_⟩) (fun j e i x he hx=>?_) ht none (.inl rfl)
 ·have:=hin j i hj hi
  rw [show off+j * k+i=off+(j * k+i) by omega]
  have hlt:off+(j * k+i) < c.size:=by omega
  simp [World.cell?,hb,hlt]
 ·rw [show off+j * k+i=off+(j * k+i) by omega]
  exact hp _ (hin j i hj hi)
 ·have hjl : j < l.length := by
     rcases Nat.lt_or_ge j l.length with h' | h'
     ·exact h'
     ·rw [List.getElem?_eq_none h'] at he;cases he
  have hik:i < k:=by
   rw [← hk e (List.mem_of_getElem? he)]
   rcases Nat.lt_or_ge i e.cells.length with h' | h'
   ·exact h'
   ·rw [List.getElem?_eq_none h'] at hx;cases hx
  have:=hin j i hjl hik
  have hlt:off+(j * k+i) < c.size:=by omega
  refine hr (j * k+i) x _ (by rw [flat_get hk j i e he hik];exact hx) ?_
  simp [hlt]

theorem grow_heap (S:Snap) (o:Obj):(S.grow o).w.heap[S.w.heap.size]?=some o:=heap_alloc_new S.w o

theorem setElems_sound {size : Nat} : ∀ (parts : List (Nat × AV)) (vals : List (Nat × Value)) (l r : List AV) (c : Array Value), parts.length = vals.length →
    (∀ (j:Nat) (p:Nat × AV) (q:Nat × Value),parts[j]?=some p→vals[j]?=some q→p.1=q.1∧VRel S p.2 q.2) →
    (∀ e ∈ l,e.cells.length=size)→CellsRel S (flat l) c→setElems size parts l=some r →
    ∃ d,Instr.fill (fun i=>some (i * size,size)) c vals=some d∧CellsRel S (flat r) d∧(∀ e ∈ r,e.cells.length=size)∧r.length=l.length:=by
 intro parts
 induction parts with
 | nil =>
  intro vals l r c hl _ hk hc h
  have h1:vals=[]:=List.eq_nil_of_length_eq_zero (by simpa using hl.symm)
  subst h1
  simp [setElems] at h
  subst h
  exact ⟨c,rfl,hc,hk,rfl⟩
 | cons p parts ih =>
  intro vals l r c hl hrel hk hc h
  cases vals with
  | nil=>simp at hl
  | cons q vals =>
   obtain ⟨h1,h2⟩:=hrel 0 p q rfl rfl
   obtain ⟨i,v⟩:=q
   obtain ⟨i',a⟩:=p
   simp only at h1 h2
   subst h1
   unfold setElems at h
   split at h
   ·rename_i hcond
    obtain ⟨hkn,hsz,hlt⟩:=hcond
    have hv:=h2.cells hkn
    have hs1:v.cells.size=size:=by rw [hv.size];exact hsz
    have hs2:=hc.size
    have hjk:i' * size+size≤l.length * size:=by
     have:=Nat.mul_le_mul_right size (Nat.succ_le_of_lt hlt);rw [Nat.succ_mul] at this;exact this
    rw [flat_length hk] at hs2
    unfold Instr.fill
    simp only
    rw [if_neg (by simp;omega)]
    have hset:∀ e ∈ l.set i' a,e.cells.length=size:=fun e he=>by
     rcases List.mem_or_eq_of_mem_set he with h' | rfl
     ·exact hk e h'
     ·exact hsz
    obtain ⟨d,hd1,hd2,hd3,hd4⟩:=ih vals (l.set i' a) r _ (by simpa using hl) (fun j p q hp hq=>hrel (j+1) p q (by simpa using hp) (by simpa using hq)) hset (by
     rw [flat_set hk hlt hsz]
     exact hc.splice hv (by rw [flat_length hk];omega)) h
    exact ⟨d,hd1,hd2,hd3,by simpa using hd4⟩
   ·cases h

theorem flat_replicate (z:AV):∀ n,flat (List.replicate n z)=(List.replicate n z.cells).flatten:=by
 intro n;simp [flat]
theorem zeroRow_rel {z : AV} {zc : Value} {k : Nat} (hz : VRel S z zc) (hkn : z.known = true) (hk : z.cells.length = k) (h0 : 0 < k) (n : Nat) :
    CellsRel S (flat (List.replicate n z)) ((Array.range (n * k)).map (zc.cells[· % zc.cells.size]!)):=by
 have hc:=hz.cells hkn
 have hall:∀ e ∈ List.replicate n z,e.cells.length=k:=fun e he=>by rw [List.eq_of_mem_replicate he];exact hk
 refine ⟨by simp [flat_length hall],fun i x v hx hv=>?_,cell_flat fun e he=>by rw [List.eq_of_mem_replicate he];exact hc.cell⟩
 have hlt:i < n * k:=by
  rcases Nat.lt_or_ge i (n * k) with h' | h'
  ·exact h'
  ·rw [List.getElem?_eq_none (by rw [flat_length hall];simpa using h')] at hx;cases hx
 obtain ⟨q,r,hr,rfl⟩:∃ q r,r < k∧i=q * k+r:=⟨i / k,i % k,Nat.mod_lt _ h0,by rw [Nat.mul_comm];exact (Nat.div_add_mod i k).symm⟩
 have hq:q < n:=by
  rcases Nat.lt_or_ge q n with h' | h'
  ·exact h'
  ·have:=Nat.mul_le_mul_right k h';omega
 rw [flat_get hall q r z (by simp [hq]) hr] at hx
 have hsz:zc.cells.size=k:=by rw [hc.size,hk]
 have hmod:(q * k+r) % zc.cells.size=r:=by rw [hsz,Nat.mul_comm,Nat.mul_add_mod];exact Nat.mod_eq_of_lt hr
 simp only [Array.getElem?_map,Array.getElem?_range,hlt,Option.map_some,Option.some.injEq,if_true,hmod] at hv
 refine hc.rel r x v hx ?_
 rw [← hv]
 have:r < zc.cells.size:=by omega
 simp [this]

theorem elemT_some {t e:TypeId} (h:elemT P t=some e):P.underlying t=some (.slice e):=by
 unfold elemT at h
 split at h
 ·injection h with h;subst h;assumption
 ·cases h

theorem abuildS_sound {t : TypeId} {n : Nat} {ps : Array (Nat × Operand)} {ev : Operand → AV} {ρ : Operand → Value} (hev : ∀ x, VRel S (ev x) (ρ x)) {r : AV}
    (h:abuildS P t n (ps.toList.map fun p=>(p.1,ev p.2))=some r):Yields P W0 S H (Instr.buildSlice t n (ps.map fun (i,x)=>(i,ρ x))) r H:=by
 intro hI
 unfold abuildS at h
 split at h
 ·rename_i e he
  have hu:=elemT_some he
  split at h
  ·rename_i size z hs hz
   split at h
   ·rename_i hc
    obtain ⟨hc1,hc2,hc3,hc4⟩:=hc
    obtain ⟨zc,hzr,hzv⟩:=zeroT_sound hz
    cases hf:setElems size (ps.toList.map fun p=>(p.1,ev p.2)) (List.replicate n z) with
    | none=>simp [hf] at h
    | some l =>
     simp [hf] at h
     subst h
     obtain ⟨d,hd1,hd2,hd3,hd4⟩:=setElems_sound (S:=S) _ _ (List.replicate n z) l _ (by simp) (parts_rel hev)
      (fun e he=>by rw [List.eq_of_mem_replicate he];exact hc3) (zeroRow_rel (hzv S) hc2 hc3 hc4 n) hf
     simp only [List.length_replicate] at hd4
     refine ⟨.slice (some ⟨S.w.heap.size,0,none⟩) n n,S.grow (.cells d e),?_,Ext.grow hI _,hI.grow _,?_⟩
     ·have h1:¬ (n * size > 2 ^ 24):=by omega
      have hgo : ∀ zr : Array Value, Instr.fill (fun i => some (i * size, size)) ((Array.range (n * size)).map (zr[· % zr.size]!)) (ps.map fun ((i, x) : Nat × Operand) => (i, ρ x)).toList = some d →
          (match Instr.fill (fun i=>some (i * size,size)) ((Array.range (n * size)).map (zr[· % zr.size]!)) (ps.map fun ((i,x):Nat × Operand)=>(i,ρ x)).toList with
           | some cells=>(do pure (.slice (some (← newRow e cells)) n n):Sem Value)
           | _ => stuck "buildSlice: a part of the wrong size").run P S.w = .ok (.slice (some ⟨S.w.heap.size, 0, none⟩) n n) (S.grow (.cells d e)).w := by
       intro zr hz
       rw [hz]
       rfl
      unfold Instr.buildSlice
      simp only [Sem.run_bind,run_underlying hu,Result.andThen_ok,run_szT hs]
      rw [if_neg h1]
      by_cases h0:n * size=0
      ·simp only [h0,if_true,Sem.run_pure,Result.andThen_ok,Sem.run_bind]
       have e1:∀ f:Nat→Value,(Array.range 0).map f=#[]:=fun f=>by simp
       have:=hgo #[] (by rw [h0,e1] at hd1 ⊢;exact hd1)
       rw [h0] at this
       exact this
      ·simp only [h0,if_false,Sem.run_bind,hzr,Sem.run_pure,Result.andThen_ok]
       exact hgo _ hd1
     ·rw [← hd4]
      have hx:=Ext.grow hI (.cells d e)
      refine vs_of_block (S:=S.grow (.cells d e)) (c:=d) (el:=e) (fz:=(0,0)) (grow_heap S _) (Nat.le_refl _) hd3 hd2.cell (fun i _=>.inr rfl) ?_ (fun i x v hi hv=>?_) ?_
      ·have:=hd2.size;rw [flat_length hd3] at this;omega
      ·rw [Nat.zero_add] at hv
       exact (hd2.rel i x v hi hv).mono hx
      ·simp [TokOk]
   ·cases h
  ·cases h
 ·cases h

theorem alen_sound {t:TypeId} {x r:AV} {u:Value} (hx:VRel S x u) (h:alen P t x=some r) (ty:TypeId):∃ v',(Builtin.len_ #[t] ty #[u]).run P S.w=.ok v' S.w∧VRel S r v':=by
 unfold alen at h
 cases hu:P.underlying t with
 | none=>simp [hu] at h
 | some d =>
  rw [hu] at h
  have hun:=run_underlying hu S.w
  simp only at h
  unfold alenD at h
  split at h
  ·split at h
   ·injection h with h;subst h
    cases hx with | str _ b hb =>
    subst hb
    refine ⟨goInt b.size,by simp [Builtin.len_,hun],?_⟩
    rw [size_toList]
    exact .int _ _
   ·cases h
  ·rename_i n e
   injection h with h;subst h
   exact ⟨goInt n,by simp [Builtin.len_,hun],.int _ _⟩
  ·split at h
   ·injection h with h;subst h
    cases hx
    exact ⟨goInt 0,by simp [Builtin.len_,hun],.int _ _⟩
   ·rename_i k tok l
    injection h with h;subst h
    cases hx
    exact ⟨goInt l.length,by simp [Builtin.len_,hun],.int _ _⟩
   ·rename_i ag k o off len cap
    injection h with h;subst h
    cases hx
    exact ⟨goInt len,by simp [Builtin.len_,hun],.int _ _⟩
   ·rename_i ag k o e len
    injection h with h;subst h
    cases hx
    exact ⟨goInt len,by simp [Builtin.len_,hun],.int _ _⟩
   ·cases h
  ·cases h

theorem amin2_sound {x y r:AV} {u v:Value} (hx:VRel S x u) (hy:VRel S y v) (h:amin2 x y=some r) (a:Array TypeId) (ty:TypeId):∃ v',(Builtin.min_ a ty #[u,v]).run P S.w=.ok v' S.w∧VRel S r v':=by
 unfold amin2 at h
 split at h
 ·split at h
  ·rename_i hk;subst hk
   injection h with h;subst h
   cases hx;cases hy
   exact ⟨_,by simp [Builtin.min_,Builtin.min2],.int _ _⟩
  ·cases h
 ·cases h
theorem amax2_sound {x y r:AV} {u v:Value} (hx:VRel S x u) (hy:VRel S y v) (h:amax2 x y=some r) (a:Array TypeId) (ty:TypeId):∃ v',(Builtin.max_ a ty #[u,v]).run P S.w=.ok v' S.w∧VRel S r v':=by
 unfold amax2 at h
 split at h
 ·split at h
  ·rename_i hk;subst hk
   injection h with h;subst h
   cases hx;cases hy
   exact ⟨_,by simp [Builtin.max_,Builtin.max2],.int _ _⟩
  ·cases h
 ·cases h
end
end Go.Am
