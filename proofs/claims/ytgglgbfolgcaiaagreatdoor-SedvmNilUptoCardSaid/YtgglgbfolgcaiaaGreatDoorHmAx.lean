/-
  THE ABSTRACT MACHINE, part A: abstract values (slices that nobody writes are plain lists), abstract objects, and what it means that a concrete value in a concrete world is one of them; what is kept when the world goes on.
-/
import Derived.WalkKit
import Derived.Lib.FrozenHead
namespace Go.Am

inductive Tok where
 | no
 | own (t e:Nat)
 | clip
 deriving DecidableEq

inductive AV where
 | undef
 | bool (b:Bool)
 | int (k:IntKind) (n:Int)
 | str (s:List UInt8)
 | nilp
 | ptr (o off:Nat)
 | vp (cells:List AV)
 | nils
 | vs (k:Nat) (tok:Tok) (l:List AV)
 | rs (ag:Bool) (k o off len cap:Nat)
 | ws (ag:Bool) (k o e len:Nat)
 | wp (o e off:Nat)
 | nilm
 | map (o:Nat)
 | nilf
 | fn (fn:Fn) (first captured:List AV)
 | nili
 | iface (t:TypeId) (v:AV)
 | agg (cells:List AV)
 | tuple (l:List AV)

def AV.cells:AV→List AV
 | .agg cs=>cs
 | v=>[v]

def AV.isCell:AV→Bool
 | .undef | .agg _ | .tuple _=>false
 | _=>true

inductive AObj where
 | cells (l:List AV)
 | bld (T u:TypeId) (l:List UInt8)
 | tok (e:Nat)
 | row (e:Nat) (l:List AV)
 | map (es:List (AV × AV × Nat)) (clock:Nat)
 | siter (s:List UInt8) (pos:Nat)
 | dead
 | free

structure Snap where
 w:World
 phi:Nat→Option Nat
 pub:Nat→Nat→Prop
 tk:Nat→Option (Nat × Nat × Nat × Nat)
 lim:Nat

def TokOk (S:Snap) (k:Nat) (tok:Tok) (len b off cap:Nat):Prop :=
 match tok with
 | .no=>True
 | .clip=>cap=len
 | .own t e=>∃ e0 b0 hw0 sz0,S.tk t=some (e0,b0,hw0,sz0)∧e≤e0∧(e=e0→len < cap→b=b0∧off+len * k=hw0∧off+cap * k≤sz0)

def RowOk (S:Snap) (o e b hw top:Nat):Prop:=∃ e0 b0 hw0 sz0,S.tk o=some (e0,b0,hw0,sz0)∧e≤e0∧(e=e0→b=b0∧hw≤hw0∧top≤sz0)
def RowIn (S:Snap) (o e b:Nat):Prop:=∃ e0 b0 hw0 sz0,S.tk o=some (e0,b0,hw0,sz0)∧e≤e0∧(e=e0→b=b0)

inductive VRel (S:Snap):AV→Value→Prop
 | undef (v:Value):VRel S .undef v
 | bool (b:Bool):VRel S (.bool b) (.bool b)
 | int (k:IntKind) (n:Int):VRel S (.int k n) (.int k n)
 | str (s:List UInt8) (b:ByteArray) (h:b.data.toList=s):VRel S (.str s) (.string b)
 | nilp:VRel S .nilp (.pointer none)
 | ptr (o off b:Nat) (h:S.phi o=some b):VRel S (.ptr o off) (.pointer (some ⟨b,off,none⟩))
 | vp (cells : List AV) (b off : Nat) (f : Nat → Value) (hc : cells.all AV.isCell = true)
     (h1:∀ i,i < cells.length→S.w.cell? ⟨b,off+i,none⟩=some (f i)∧S.pub b (off+i))
     (h2:∀ (i:Nat) (c:AV),cells[i]?=some c→VRel S c (f i)):VRel S (.vp cells) (.pointer (some ⟨b,off,none⟩))
 | nils:VRel S .nils (.slice none 0 0)
 | vs (k : Nat) (tok : Tok) (l : List AV) (b off cap : Nat) (f : Nat → Nat → Value)
     (hcap:l.length≤cap)
     (hk:∀ e,e ∈ l→e.cells.length=k∧e.cells.all AV.isCell=true)
     (h1:∀ j i,j < l.length→i < k→S.w.cell? ⟨b,off+j * k+i,none⟩=some (f j i)∧S.pub b (off+j * k+i))
     (h2:∀ (j:Nat) (e:AV) (i:Nat) (c:AV),l[j]?=some e→e.cells[i]?=some c→VRel S c (f j i))
     (ht:TokOk S k tok l.length b off cap) (sp:Option Nat) (hsp:sp=none ∨ cap=0):VRel S (.vs k tok l) (.slice (some ⟨b,off,sp⟩) l.length cap)
 | rs (ag:Bool) (k o off len cap b:Nat) (h:S.phi o=some b) (hlen:len≤cap):VRel S (.rs ag k o off len cap) (.slice (some ⟨b,off,none⟩) len cap)
 | ws (ag:Bool) (k o e len cap b:Nat) (h:RowOk S o e b (len * k) (cap * k)) (hlen:len≤cap):VRel S (.ws ag k o e len) (.slice (some ⟨b,0,none⟩) len cap)
 | wp (o e off b:Nat) (h:RowIn S o e b):VRel S (.wp o e off) (.pointer (some ⟨b,off,none⟩))
 | nilm:VRel S .nilm (.map none)
 | map (o b:Nat) (h:S.phi o=some b):VRel S (.map o) (.map (some b))
 | nilf:VRel S .nilf .nilFunc
 | fn (fn : Fn) (first captured : List AV) (F C : Array Value) (hF : F.size = first.length) (hC : C.size = captured.length)
     (h1:∀ (i:Nat) (c:AV) (v:Value),first[i]?=some c→F[i]?=some v→VRel S c v)
     (h2:∀ (i:Nat) (c:AV) (v:Value),captured[i]?=some c→C[i]?=some v→VRel S c v):VRel S (.fn fn first captured) (.func fn F C)
 | nili:VRel S .nili .nilIface
 | iface (t:TypeId) (v:AV) (u:Value) (h:VRel S v u):VRel S (.iface t v) (.iface t u)
 | agg (cells:List AV) (vs:Array Value) (hc:cells.all AV.isCell=true) (hs:vs.size=cells.length) (h:∀ (i:Nat) (c:AV) (v:Value),cells[i]?=some c→vs[i]?=some v→VRel S c v):VRel S (.agg cells) (.agg vs)
 | tuple (l:List AV) (vs:Array Value) (hs:vs.size=l.length) (h:∀ (i:Nat) (c:AV) (v:Value),l[i]?=some c→vs[i]?=some v→VRel S c v):VRel S (.tuple l) (.tuple vs)

structure Ext0 (S S':Snap):Prop where
 phi:∀ o b,S.phi o=some b→S'.phi o=some b
 pub:∀ b i,S.pub b i→S'.pub b i∧S'.w.cell? ⟨b,i,none⟩=S.w.cell? ⟨b,i,none⟩
 tk:∀ t e b hw sz,S.tk t=some (e,b,hw,sz)→∃ e' b' hw' sz',S'.tk t=some (e',b',hw',sz')∧e≤e'∧(e'=e→b'=b∧hw'=hw∧sz'=sz)

structure Ext (S S':Snap):Prop extends Ext0 S S' where
 lim:S'.lim=S.lim
 old:∀ b i,S'.pub b i→b < S.lim→S.pub b i
theorem Ext.refl (S:Snap):Ext S S :=
 ⟨⟨fun _ _ h=>h,fun _ _ h=>⟨h,rfl⟩,fun _ e b hw sz h=>⟨e,b,hw,sz,h,Nat.le_refl _,fun _=>⟨rfl,rfl,rfl⟩⟩⟩,rfl,fun _ _ h _=>h⟩

theorem Ext.trans {A B C:Snap} (h:Ext A B) (k:Ext B C):Ext A C:=by
 refine ⟨⟨fun o b e=>k.phi o b (h.phi o b e),fun b i e=>?_,fun t e b hw sz e1=>?_⟩,k.lim.trans h.lim,fun b i hp hl=>h.old b i (k.old b i hp (by rw [h.lim];exact hl)) hl⟩
 ·obtain ⟨p,q⟩:=h.pub b i e
  obtain ⟨p',q'⟩:=k.pub b i p
  exact ⟨p',q'.trans q⟩
 ·obtain ⟨e2,b2,hw2,sz2,h2,hle,heq⟩:=h.tk t e b hw sz e1
  obtain ⟨e3,b3,hw3,sz3,h3,hle3,heq3⟩:=k.tk t e2 b2 hw2 sz2 h2
  refine ⟨e3,b3,hw3,sz3,h3,Nat.le_trans hle hle3,fun he=>?_⟩
  have:e2=e:=by omega
  obtain ⟨rfl,rfl,rfl⟩:=heq this
  have:e3=e2:=by omega
  exact heq3 this

theorem TokOk.mono0 {S S':Snap} (hx:Ext0 S S') {k:Nat} {tok:Tok} {len b off cap:Nat} (h:TokOk S k tok len b off cap):TokOk S' k tok len b off cap:=by
 cases tok with
 | no=>trivial
 | clip=>exact h
 | own t e =>
  obtain ⟨e0,b0,hw0,sz0,h0,hle,hq⟩:=h
  obtain ⟨e1,b1,hw1,sz1,h1,hle1,hq1⟩:=hx.tk t e0 b0 hw0 sz0 h0
  refine ⟨e1,b1,hw1,sz1,h1,by omega,fun he hlt=>?_⟩
  have h10:e1=e0:=by omega
  obtain ⟨rfl,rfl,rfl⟩:=hq1 h10
  exact hq (by omega) hlt

theorem RowOk.mono0 {S S':Snap} (hx:Ext0 S S') {o e b hw top:Nat} (h:RowOk S o e b hw top):RowOk S' o e b hw top:=by
 obtain ⟨e0,b0,hw0,sz0,h0,hle,hq⟩:=h
 obtain ⟨e1,b1,hw1,sz1,h1,hle1,hq1⟩:=hx.tk o e0 b0 hw0 sz0 h0
 refine ⟨e1,b1,hw1,sz1,h1,by omega,fun he=>?_⟩
 have h10:e1=e0:=by omega
 obtain ⟨rfl,rfl,rfl⟩:=hq1 h10
 exact hq (by omega)
theorem RowIn.mono0 {S S':Snap} (hx:Ext0 S S') {o e b:Nat} (h:RowIn S o e b):RowIn S' o e b:=by
 obtain ⟨e0,b0,hw0,sz0,h0,hle,hq⟩:=h
 obtain ⟨e1,b1,hw1,sz1,h1,hle1,hq1⟩:=hx.tk o e0 b0 hw0 sz0 h0
 refine ⟨e1,b1,hw1,sz1,h1,by omega,fun he=>?_⟩
 have h10:e1=e0:=by omega
 obtain ⟨rfl,rfl,rfl⟩:=hq1 h10
 exact hq (by omega)
theorem TokOk.mono {S S':Snap} (hx:Ext S S') {k:Nat} {tok:Tok} {len b off cap:Nat} (h:TokOk S k tok len b off cap):TokOk S' k tok len b off cap:=h.mono0 hx.toExt0
theorem VRel.mono0 {S S':Snap} (hx:Ext0 S S') {a:AV} {v:Value} (h:VRel S a v):VRel S' a v:=by
 induction h with
 | undef v=>exact .undef v
 | bool b=>exact .bool b
 | int k n=>exact .int k n
 | str s b h=>exact .str s b h
 | nilp=>exact .nilp
 | ptr o off b h=>exact .ptr o off b (hx.phi _ _ h)
 | vp cells b off f hc h1 h2 ih =>
  refine .vp cells b off f hc (fun i hi=>?_) ih
  obtain ⟨p,q⟩:=h1 i hi
  obtain ⟨p',q'⟩:=hx.pub _ _ q
  exact ⟨q'.trans p,p'⟩
 | nils=>exact .nils
 | vs k tok l b off cap f hcap hk h1 h2 ht sp hsp ih =>
  refine .vs k tok l b off cap f hcap hk (fun j i hj hi=>?_) ih (ht.mono0 hx) sp hsp
  obtain ⟨p,q⟩:=h1 j i hj hi
  obtain ⟨p',q'⟩:=hx.pub _ _ q
  exact ⟨q'.trans p,p'⟩
 | rs ag k o off len cap b h hlen=>exact .rs ag k o off len cap b (hx.phi _ _ h) hlen
 | ws ag k o e len cap b h hlen=>exact .ws ag k o e len cap b (h.mono0 hx) hlen
 | wp o e off b h=>exact .wp o e off b (h.mono0 hx)
 | nilm=>exact .nilm
 | map o b h=>exact .map o b (hx.phi _ _ h)
 | nilf=>exact .nilf
 | fn fn first captured F C hF hC h1 h2 ih1 ih2=>exact .fn fn first captured F C hF hC ih1 ih2
 | nili=>exact .nili
 | iface t v u h ih=>exact .iface t v u ih
 | agg cells vs hc hs h ih=>exact .agg cells vs hc hs ih
 | tuple l vs hs h ih=>exact .tuple l vs hs ih

theorem VRel.mono {S S':Snap} (hx:Ext S S') {a:AV} {v:Value} (h:VRel S a v):VRel S' a v:=h.mono0 hx.toExt0

def FzOk (n:Nat) (fz:Nat × Nat):Prop:=∀ i,i < n→¬ (fz.1≤i∧i < fz.2)
def ORel (S:Snap) (B0:Nat) (o:Nat):AObj→Prop
 | .cells l => ∃ b c el, S.phi o = some b ∧ B0 ≤ b ∧ S.w.heap[b]? = some (.cells c el (0, 0)) ∧ c.size = l.length ∧
     (∀ (i:Nat) (x:AV) (v:Value),l[i]?=some x→c[i]?=some v→VRel S x v)∧(∀ i,¬ S.pub b i)∧l.all AV.isCell=true
 | .bld T u l => ∃ b, S.phi o = some b ∧ Lib.IsBuilderF T u B0 b (Lib.byteCells l) S.w ∧ T ≠ u ∧ (∀ i, ¬ S.pub b i) ∧
     ∀ v g,S.w.cell? ⟨b,1,none⟩=some v→v.ownBlock=some g→(∃ n hw sz,S.tk o=some (n,g,hw,sz))∧∀ i,¬ S.pub g i
 | .row e l => ∃ b sz c el fz, S.tk o = some (e, b, l.length, sz) ∧ B0 ≤ b ∧ S.w.heap[b]? = some (.cells c el fz) ∧ c.size = sz ∧ l.length ≤ sz ∧
     (∀ (i:Nat) (x:AV) (v:Value),l[i]?=some x→c[i]?=some v→VRel S x v)∧(∀ i,¬ S.pub b i)∧l.all AV.isCell=true∧FzOk c.size fz
 | .tok e => ∃ b hw sz c el fz, S.tk o = some (e, b, hw, sz) ∧ B0 ≤ b ∧ S.w.heap[b]? = some (.cells c el fz) ∧ c.size = sz ∧ hw ≤ sz ∧
     (∀ i,hw≤i→¬ S.pub b i)∧FzOk c.size fz
 | .map es clock => ∃ b es', S.phi o = some b ∧ B0 ≤ b ∧ S.w.heap[b]? = some (.map es' clock) ∧ es'.size = es.length ∧ (∀ i, ¬ S.pub b i) ∧
     (∀ (i:Nat) (k v:AV) (n:Nat) (e:MapEntry),es[i]?=some (k,v,n)→es'[i]?=some e→VRel S k e.key∧VRel S v e.val∧e.born=n)
 | .siter s pos=>∃ b s',S.phi o=some b∧B0≤b∧S.w.heap[b]?=some (.stringIter s' pos)∧s'.data.toList=s∧(∀ i,¬ S.pub b i)
 | .dead=>True
 | .free=>S.phi o=none∧S.tk o=none

structure Inv (W0:World) (S:Snap) (H:List AObj):Prop where
 below:RowKit.Below W0.heap.size W0 S.w
 objs:∀ o x,H[o]?=some x→ORel S W0.heap.size o x
 past:∀ o,H.length≤o→S.phi o=none∧S.tk o=none
 inj:∀ o o' b,S.phi o=some b→S.phi o'=some b→H[o]? ≠ some .dead→H[o']? ≠ some .dead→o=o'
 tinj:∀ t t' e b hw sz e' hw' sz',S.tk t=some (e,b,hw,sz)→S.tk t'=some (e',b,hw',sz')→t=t'
 apart:∀ t e b hw sz o,S.tk t=some (e,b,hw,sz)→S.phi o ≠ some b
 puball:∀ b i,S.pub b i→b < S.w.heap.size
 dom:∀ o b,S.phi o=some b→b < S.w.heap.size
 tdom:∀ t e b hw sz,S.tk t=some (e,b,hw,sz)→b < S.w.heap.size
 lim:S.lim≤W0.heap.size
end Go.Am
