/-
  THE ABSTRACT MACHINE, part B: what it does. Slices that nobody writes are lists; an order that is left open is the order of the text; what it does not know ends in 'none'.
-/
import Derived.Test.YtgglgbfolgcaiaaGreatDoorHmAx
namespace Go.Am

abbrev Hp:=List AObj

inductive ExtK where
 | same
 | indexByte
 | cmp
 | count
 deriving DecidableEq
def indexB (c:UInt8):List UInt8→Nat→Int
 | [],_=>-1
 | b :: l,i=>if b=c then i else indexB c l (i+1)
def cmpB:List UInt8→List UInt8→Int
 | [],[]=>0
 | [],_ :: _=>-1
 | _ :: _,[]=>1
 | a :: l,b :: m=>if a=b then cmpB l m else if a < b then -1 else 1
def countB (c:UInt8):List UInt8→Nat
 | []=>0
 | b :: l=>if b=c then countB c l+1 else countB c l
def extA:ExtK→List AV→Option AV
 | .same,[x]=>some x
 | .indexByte,[.str s,.int .u8 n]=>some (.int .i64 (indexB (UInt8.ofNat n.toNat) s 0))
 | .cmp,[.str a,.str b]=>some (.int .i64 (cmpB a b))
 | .count,[.str s,.int .u8 n]=>some (.int .i64 (countB (UInt8.ofNat n.toNat) s))
 | _,_=>none
def extF:ExtK→Array Value→Sem Value
 | .same=>Extern.AbiNoEscape.same
 | .indexByte=>Extern.BytealgIndexByte.indexByte
 | .cmp=>Extern.BytealgCompare.compare
 | .count=>Extern.BytealgCount.count
def extC (e:ExtK) (args:List AV) (H:List AObj):Option (AV × List AObj) :=
 match extA e args with
 | some v=>some (v,H)
 | none=>none
def Frm {α:Type} (g:Hp→Option (α × Hp)):Prop :=
 ∀ H v H',g H=some (v,H')→H.length≤H'.length∧∀ o,o < H.length→H'[o]?=some .free→H[o]?=some .free∧∀ x,g (H.set o x)=some (v,H'.set o x)
structure EffFn where
 run:List AV→Hp→Option (AV × Hp)
 frm:∀ args,Frm (run args)
structure Cfg where
 P:Program
 glob:Nat→Option (List AV)
 user:FuncId→Bool
 eqok:TypeId→Bool
 pure:FuncId→Bool
 flat:FuncId→Bool
 ext:FuncId→Option ExtK
 sum:FuncId→Option (List AV→Option AV)
 keep:FuncId→Nat→Option (List Nat)
 eff:FuncId→Option EffFn:=fun _=>none
 bld:TypeId→Option TypeId:=fun _=>none
 lin:TypeId→Bool:=fun _=>false
 qk:Nat→List Nat→Bool:=fun _ _=>false
 wrb:TypeId→Bool:=fun _=>false
 ro:FuncId→Bool:=fun _=>false
 rst:TypeId→Nat→Nat→Nat:=fun _ _ _=>0

def isAggT (P:Program) (t:TypeId):Option Bool :=
 match P.underlying t with
 | some (.struct _)=>some true
 | some (.array _ _)=>some true
 | some _=>some false
 | none=>none
def szT (P:Program) (t:TypeId):Option Nat :=
 match P.info? t with
 | some i=>some i.size
 | none=>none
def bytesT (P:Program) (t:TypeId):Option Nat :=
 match P.info? t with
 | some i=>some i.bytes
 | none=>none
def elemT (P:Program) (t:TypeId):Option TypeId :=
 match P.underlying t with
 | some (.slice e)=>some e
 | _=>none
def fieldT (P:Program) (t:TypeId) (f:Nat):Option Field :=
 match P.underlying t with
 | some (.struct fs)=>fs[f]?
 | _=>none

def ofConst:Nat→Value→AV
 | _,.bool b=>.bool b
 | _,.int k n=>.int k n
 | _,.string s=>.str s.data.toList
 | _,.pointer none=>.nilp
 | _,.slice none 0 0=>.nils
 | _,.map none=>.nilm
 | _,.nilFunc=>.nilf
 | _,.nilIface=>.nili
 | n+1,.agg cs=>if (cs.toList.map (ofConst n)).all AV.isCell then .agg (cs.toList.map (ofConst n)) else .undef
 | n+1,.tuple cs=>.tuple (cs.toList.map (ofConst n))
 | n+1,.iface t v=>.iface t (ofConst n v)
 | n+1,.func fn f c=>.fn fn (f.toList.map (ofConst n)) (c.toList.map (ofConst n))
 | _,_=>.undef
def zeroT (P:Program) (t:TypeId):Option AV :=
 match P.info? t with
 | some i=>match i.zero with
  | some z=>some (ofConst 3 z)
  | none=>none
 | none=>none

def eval (C:Cfg) (tm:List AV):Operand→AV
 | .tmp t=>tm.getD t (.tuple [])
 | .const v=>ofConst 4 v
 | .global g=>match C.glob g with
  | some cs=>.vp cs
  | none=>.undef
 | .func f=>.fn (.func f) [] []

def apart (g:Bool) (sz:Nat) (cells:List AV) (off:Nat):Option AV :=
 if g then (if off+sz≤cells.length then some (.agg ((cells.drop off).take sz)) else none) else cells[off]?
def aload (g:Bool) (sz:Nat) (a:AV) (H:Hp):Option AV :=
 match a with
 | .ptr o off=>match H[o]? with
  | some (.cells l)=>apart g sz l off
  | _=>none
 | .vp cells=>apart g sz cells 0
 | .wp o e off=>match H[o]? with
  | some (.row e' l)=>if e'=e then apart g sz l off else none
  | _=>none
 | _=>none
def aloadv (g:Bool) (sz:Nat) (a:AV):Option AV :=
 match a with
 | .vp cells=>apart g sz cells 0
 | _=>none
def AV.known:AV→Bool
 | .undef | .tuple _=>false
 | _=>true
def splice (l:List AV) (off:Nat) (cs:List AV):List AV:=l.take off++cs++l.drop (off+cs.length)
def astore (sz:Nat) (a v:AV) (H:Hp):Option Hp :=
 match a with
 | .ptr o off=>match H[o]? with
  | some (.cells l)=>if v.known=true∧v.cells.length=sz∧off+sz≤l.length then some (H.set o (.cells (splice l off v.cells))) else none
  | _=>none
 | .wp o e off=>match H[o]? with
  | some (.row e' l)=>if e'=e∧v.known=true∧v.cells.length=sz∧off+sz≤l.length then some (H.set o (.row e (splice l off v.cells))) else none
  | _=>none
 | _=>none
def afield (off:Nat) (a:AV):Option AV :=
 match a with
 | .ptr o x=>some (.ptr o (x+off))
 | .wp o e x=>some (.wp o e (x+off))
 | .vp cells=>if off≤cells.length then some (.vp (cells.drop off)) else none
 | _=>none
def aindexS (size:Nat) (x i:AV):Option AV :=
 match x,i with
 | .vs k _ l, .int _ n => if k = size ∧ 0 ≤ n then match l[n.toNat]? with
     | some e=>some (.vp e.cells)
     | none=>none else none
 | .rs _ _ o off len _,.int _ n=>if 0≤n∧n < len then some (.ptr o (off+n.toNat * size)) else none
 | .ws _ _ o e len,.int _ n=>if 0≤n∧n < len then some (.wp o e (n.toNat * size)) else none
 | _,_=>none
def aindexA (len size:Nat) (x i:AV):Option AV :=
 match i with
 | .int _ n=>if 0≤n∧n < len then afield (n.toNat * size) x else none
 | _=>none
def aindexStr (x i:AV):Option AV :=
 match x,i with
 | .str s, .int _ n => if 0 ≤ n then match s[n.toNat]? with
     | some b=>some (.int .u8 b.toNat)
     | none=>none else none
 | _,_=>none
def aindexAgg (g:Bool) (len size:Nat) (x i:AV):Option AV :=
 match x,i with
 | .agg cs,.int _ n=>if 0≤n∧n < len then apart g size cs (n.toNat * size) else none
 | _,_=>none

def intbin (op:BinOp) (k:IntKind) (a b:Int):Option AV :=
 match op with
 | .add=>some (.int k (k.wrap (a+b)))
 | .sub=>some (.int k (k.wrap (a - b)))
 | .mul=>some (.int k (k.wrap (a * b)))
 | .quo=>if b=0 then none else some (.int k (k.wrap (a.tdiv b)))
 | .rem=>if b=0 then none else some (.int k (a.tmod b))
 | .and=>some (.int k (k.wrap ((BitVec.ofInt k.bits a &&& BitVec.ofInt k.bits b).toNat:Int)))
 | .or=>some (.int k (k.wrap ((BitVec.ofInt k.bits a ||| BitVec.ofInt k.bits b).toNat:Int)))
 | .xor=>some (.int k (k.wrap ((BitVec.ofInt k.bits a ^^^ BitVec.ofInt k.bits b).toNat:Int)))
 | .andNot=>some (.int k (k.wrap ((BitVec.ofInt k.bits a &&& ~~~BitVec.ofInt k.bits b).toNat:Int)))
 | .eql=>some (.bool (a == b))
 | .neq=>some (.bool (a != b))
 | .lss=>some (.bool (decide (a < b)))
 | .leq=>some (.bool (decide (a≤b)))
 | .gtr=>some (.bool (decide (a > b)))
 | .geq=>some (.bool (decide (a ≥ b)))
 | _=>none
def strbin (op:BinOp) (a b:List UInt8):Option AV :=
 match op with
 | .add=>if a.length+b.length≤9223372036854775807 then some (.str (a++b)) else none
 | .eql=>some (.bool (a == b))
 | .neq=>some (.bool (!(a == b)))
 | .lss=>some (.bool (Op.bytesLess a b))
 | .leq=>some (.bool (Op.bytesLess a b || a == b))
 | .gtr=>some (.bool (!(Op.bytesLess a b || a == b)))
 | .geq=>some (.bool (!Op.bytesLess a b))
 | _=>none

def aeqS (ds:TypeDesc) (x y:AV):Option Bool :=
 match ds,x,y with
 | .bool,.bool a,.bool b=>some (a == b)
 | .int _,.int k a,.int k' b=>if k=k' then some (a == b) else none
 | .string,.str a,.str b=>some (a == b)
 | .pointer _,.nilp,.nilp=>some true
 | .pointer _,.nilp,.ptr _ _=>some false
 | .pointer _,.nilp,.vp _=>some false
 | .pointer _,.ptr _ _,.nilp=>some false
 | .pointer _,.nilp,.wp _ _ _=>some false
 | .pointer _,.wp _ _ _,.nilp=>some false
 | .pointer _,.vp _,.nilp=>some false
 | .slice _,.nils,.nils=>some true
 | .slice _,.nils,.vs _ _ _=>some false
 | .slice _,.nils,.rs _ _ _ _ _ _=>some false
 | .slice _,.nils,.ws _ _ _ _ _=>some false
 | .slice _,.ws _ _ _ _ _,.nils=>some false
 | .slice _,.vs _ _ _,.nils=>some false
 | .slice _,.rs _ _ _ _ _ _,.nils=>some false
 | .map _ _,.nilm,.nilm=>some true
 | .map _ _,.nilm,.map _=>some false
 | .map _ _,.map _,.nilm=>some false
 | .func _ _ _,.nilf,.nilf=>some true
 | .func _ _ _,.nilf,.fn _ _ _=>some false
 | .func _ _ _,.fn _ _ _,.nilf=>some false
 | _,_,_=>none
def aeqFields (P:Program) (rec:TypeId→AV→AV→Option Bool) (xs ys:List AV):List Field→Option Bool
 | []=>some true
 | f :: fs =>
  if f.name ≠ "_" then
   match isAggT P f.type,szT P f.type with
   | some g,some sz=>match apart g sz xs f.offset,apart g sz ys f.offset with
    | some u,some v=>match rec f.type u v with
     | some true=>aeqFields P rec xs ys fs
     | r=>r
    | _,_=>none
   | _,_=>none
  else aeqFields P rec xs ys fs
def aeqItems (rec:AV→AV→Option Bool) (g:Bool) (sz:Nat) (xs ys:List AV):List Nat→Option Bool
 | []=>some true
 | i :: is=>match apart g sz xs (i * sz),apart g sz ys (i * sz) with
  | some u,some v=>match rec u v with
   | some true=>aeqItems rec g sz xs ys is
   | r=>r
  | _,_=>none
def aeq (P:Program) (ok:TypeId→Bool):Nat→TypeId→AV→AV→Option Bool
 | 0,_,_,_=>none
 | d+1,t,x,y =>
  match P.underlying t with
  | some (.struct fs)=>match x,y with
   | .agg xs,.agg ys=>if ok t then aeqFields P (aeq P ok d) xs ys fs.toList else none
   | _,_=>none
  | some (.array n e)=>match x,y with
   | .agg xs, .agg ys => if ok t then (match isAggT P e, szT P e with
       | some g,some sz=>aeqItems (aeq P ok d e) g sz xs ys (List.range n)
       | _,_=>none) else none
   | _,_=>none
  | some ds=>aeqS ds x y
  | none=>none
def aeqBin (P:Program) (ok:TypeId→Bool) (op:BinOp) (t:TypeId) (x y:AV):Option AV :=
 match op with
 | .eql=>match aeq P ok 20 t x y with
  | some b=>some (.bool b)
  | none=>none
 | .neq=>match aeq P ok 20 t x y with
  | some b=>some (.bool (!b))
  | none=>none
 | _=>none
def ashift (op:BinOp) (k k':IntKind) (a b:Int):Option AV :=
 match op with
 | .shl=>if b < 0 then none else some (.int k (k.wrap (a * 2 ^ (min b.toNat k.bits))))
 | .shr=>if b < 0 then none else some (.int k (a.fdiv (2 ^ (min b.toNat k.bits))))
 | op=>if k=k' then intbin op k a b else none
def ibin (op:BinOp) (x y:AV):Option AV :=
 match x,y with
 | .int k a,.int k' b=>ashift op k k' a b
 | _,_=>none
def sbin (op:BinOp) (x y:AV):Option AV :=
 match x,y with
 | .str a,.str b=>strbin op a b
 | _,_=>none
def ebin (d:TypeDesc) (op:BinOp) (x y:AV):Option AV :=
 match op with
 | .eql=>match aeqS d x y with
  | some b=>some (.bool b)
  | none=>none
 | .neq=>match aeqS d x y with
  | some b=>some (.bool (!b))
  | none=>none
 | _=>none
def abin (P:Program) (ok:TypeId→Bool) (op:BinOp) (t:TypeId) (x y:AV):Option AV :=
 match P.underlying t with
 | some (.int _)=>ibin op x y
 | some .string=>sbin op x y
 | some (.struct _)=>aeqBin P ok op t x y
 | some (.array _ _)=>aeqBin P ok op t x y
 | some d=>ebin d op x y
 | none=>none
def isIfaceT (P:Program) (t:TypeId):Bool :=
 match P.underlying t with
 | some (.interface _)=>true
 | _=>false
def amkI (P:Program) (t:TypeId) (x:AV):Option AV :=
 match P.underlying t with
 | some (.interface _)=>none
 | some _=>some (.iface t x)
 | none=>none
def atyI (P:Program) (ok:Bool) (t:TypeId) (z:AV) (x:AV):Option AV :=
 match P.underlying t with
 | some (.interface _)=>none
 | some _=>match x with
  | .iface t' v=>if t'=t then some (if ok then .tuple [v,.bool true] else v) else if ok then some (.tuple [z,.bool false]) else none
  | .nili=>if ok then some (.tuple [z,.bool false]) else none
  | _=>none
 | none=>none
def methF (P:Program) (t:TypeId) (name:String):Option FuncId :=
 match P.info? t,P.underlying t with
 | some i,some (.pointer _)=>match i.methods.find? (·.name == name) with
  | some m=>match m.path.toList,m.func with
   | [],some (f,true)=>some f
   | _,_=>none
  | none=>none
 | _,_=>none
def constIn (x y:Operand):Bool :=
 match x,y with
 | .const _,_=>true
 | _,.const _=>true
 | _,_=>false
def aeqI:AV→AV→Option Bool
 | .nili,.nili=>some true
 | .nili,.iface _ _=>some false
 | .iface _ _,.nili=>some false
 | _,_=>none
def ebinI (op:BinOp) (x y:AV):Option AV :=
 match op with
 | .eql=>match aeqI x y with
  | some b=>some (.bool b)
  | none=>none
 | .neq=>match aeqI x y with
  | some b=>some (.bool (!b))
  | none=>none
 | _=>none
def aun (op:UnOp) (x:AV):Option AV :=
 match op,x with
 | .not,.bool b=>some (.bool (!b))
 | .neg,.int k n=>some (.int k (k.wrap (0 - n)))
 | .xor,.int k n=>intbin .xor k (if k.signed then -1 else k.max) n
 | _,_=>none

def afill:List (Nat × Nat × AV)→List AV→Option (List AV)
 | [],cells=>some cells
 | (off,size,v) :: rest,cells=>if v.known=true∧v.cells.length=size∧off+size≤cells.length then afill rest (splice cells off v.cells) else none
def abuild (P:Program) (t:TypeId) (parts:List (Nat × AV)):Option AV :=
 match zeroT P t,P.underlying t with
 | some (.agg zero),some (.struct fs) =>
  match fs.toList.mapM fun f=>(szT P f.type).map (f.offset,·) with
  | some places=>match parts.mapM fun p=>(places[p.1]?).map fun (q:Nat × Nat)=>(q.1,q.2,p.2) with
   | some ps=>(afill ps zero).map .agg
   | none=>none
  | none=>none
 | some (.agg zero),some (.array _ e)=>match szT P e with
  | some size=>(afill (parts.map fun p=>(p.1 * size,size,p.2)) zero).map .agg
  | none=>none
 | _,_=>none
def setElems (size:Nat):List (Nat × AV)→List AV→Option (List AV)
 | [],l=>some l
 | (i,v) :: rest,l=>if v.known=true∧v.cells.length=size∧i < l.length then setElems size rest (l.set i v) else none
def abuildS (P:Program) (t:TypeId) (len:Nat) (parts:List (Nat × AV)):Option AV :=
 match elemT P t with
 | some e=>match szT P e,zeroT P e with
  | some size,some z=>if len * size≤16777216∧z.known=true∧z.cells.length=size∧0 < size then (setElems size parts (List.replicate len z)).map (.vs size .clip) else none
  | _,_=>none
 | none=>none

def abound (x:AV) (y:Nat):Option Nat :=
 match x with
 | .int _ n=>if 0≤n∧n≤y then some n.toNat else none
 | _=>none
def abounds (len cap:Nat) (lo hi mx:Option AV):Option (Nat × Nat × Nat) :=
 match (match mx with | some v=>abound v cap | none=>some cap) with
 | none=>none
 | some m=>match (match hi,mx with | some v,_=>abound v m | none,none=>some len | none,some _=>none) with
  | none=>none
  | some h=>match (match lo with | some v=>abound v h | none=>some 0) with
   | none=>none
   | some l=>some (l,h,m)
def asliceStr (s:List UInt8) (lo hi:Option AV):Option AV :=
 match abounds s.length s.length lo hi none with
 | some (l,h,_)=>some (.str ((s.take h).drop l))
 | none=>none
def asliceV (size:Nat) (x:AV) (lo hi mx:Option AV):Option AV :=
 match x with
 | .nils=>match abounds 0 0 lo hi mx with
  | some _=>some .nils
  | none=>none
 | .vs k tok l => if k = size then match abounds l.length l.length lo hi mx with
     | some (a, h, m) => some (.vs k (match mx with
         | some _=>if h=m then .clip else .no
         | none=>if h=l.length then tok else .no) ((l.take h).drop a))
     | none=>none else none
 | .rs ag k o off len cap=>match abounds len cap lo hi mx with
  | some (a,h,m)=>some (.rs ag k o (if m=a then off else off+a * size) (h - a) (m - a))
  | none=>none
 | .ws ag k o e len=>match lo,hi,mx with
  | none,some v,none=>match abound v len with
   | some h=>if k=size then some (.ws ag k o e h) else none
   | none=>none
  | _,_,_=>none
 | _=>none

def chunks (ag:Bool) (k:Nat):Nat→List AV→List AV
 | 0,_=>[]
 | n+1,l=>(if ag then .agg (l.take k) else l.headD .undef) :: chunks ag k n (l.drop k)
def elems (k:Nat) (x:AV) (H:Hp):Option (List AV) :=
 match x with
 | .nils=>some []
 | .vs k' _ l=>if k'=k then some l else none
 | .str s=>if k=1 then some (s.map fun b=>.int .u8 b.toNat) else none
 | .rs ag k' o off len _ => if k' = k ∧ (ag = true ∨ k = 1) then match H[o]? with
     | some (.cells cs)=>if off+len * k≤cs.length then some (chunks ag k len (cs.drop off)) else none
     | _=>none else none
 | .ws ag k' o e len => if k' = k ∧ (ag = true ∨ k = 1) then match H[o]? with
     | some (.row e' cs)=>if e'=e∧len * k≤cs.length then some (chunks ag k len cs) else none
     | _=>none else none
 | _=>none
def keyOk:TypeDesc→AV→Bool
 | .bool,.bool _=>true
 | .int k,.int k' _=>decide (k'=k)
 | .string,.str _=>true
 | _,_=>false
def keySame:AV→AV→Option Bool
 | .int k a,.int k' b=>if k=k' then some (a == b) else none
 | .str a,.str b=>some (a == b)
 | .bool a,.bool b=>some (a == b)
 | _,_=>none
def findK (k:AV):List (AV × AV × Nat)→Nat→Option (Option (Nat × AV))
 | [],_=>some none
 | e :: es,i=>match keySame k e.1 with
  | some true=>some (some (i,e.2.1))
  | some false=>findK k es (i+1)
  | none=>none
def mapT (P:Program) (t:TypeId):Option (TypeDesc × TypeId) :=
 match P.underlying t with
 | some (.map k e)=>match P.underlying k with
  | some d=>some (d,e)
  | none=>none
 | _=>none
def entries (x:AV) (H:Hp):Option (List (AV × AV × Nat)) :=
 match x with
 | .nilm=>some []
 | .map o=>match H[o]? with
  | some (.map es _)=>some es
  | _=>none
 | _=>none
def alookup (d:TypeDesc) (z:AV) (ck:Bool) (x k:AV) (H:Hp):Option AV :=
 if keyOk d k then match entries x H with
  | some es=>match findK k es 0 with
   | some (some (_,v))=>some (if ck then .tuple [v,.bool true] else v)
   | some none=>some (if ck then .tuple [z,.bool false] else z)
   | none=>none
  | none=>none else none
def amapSet (d:TypeDesc) (m k v:AV) (H:Hp):Option (AV × Hp) :=
 match m with
 | .map o=>match H[o]? with
  | some (.map es c) => if keyOk d k then match findK k es 0 with
      | some (some (i,_))=>some (.tuple [],H.set o (.map (es.set i (k,v,(es.getD i (.undef,.undef,0)).2.2)) c))
      | some none=>some (.tuple [],H.set o (.map (es++[(k,v,c)]) (c+1)))
      | none=>none else none
  | _=>none
 | _=>none
def alenM (x:AV) (H:Hp):Option AV :=
 match entries x H with
 | some es=>some (.int .i64 es.length)
 | none=>none
def amapDel (d:TypeDesc) (m k:AV) (H:Hp):Option (AV × Hp) :=
 match m with
 | .map o=>match H[o]? with
  | some (.map es c) => if keyOk d k then match findK k es 0 with
      | some (some (i,_))=>some (.tuple [],H.set o (.map (es.eraseIdx i) c))
      | some none=>some (.tuple [],H.set o (.map es c))
      | none=>none else none
  | _=>none
 | _=>none
def fits (n bytes:Nat):Bool:=decide (n * (bytes+1)≤140737488355328)
def aappend (k bytes:Nat) (s:AV) (xs:List AV) (H:Hp):Option (AV × Hp) :=
 match s with
 | .nils=>if xs=[] then some (.nils,H)
  else if fits xs.length bytes then some (.vs k (.own H.length xs.length) xs,H++[.tok xs.length]) else none
 | .vs k' tok l =>
  if k'=k∧fits (l.length+xs.length) bytes then
   if xs=[] then some (.vs k tok l,H) else
   match tok with
   | .clip=>some (.vs k (.own H.length (l.length+xs.length)) (l++xs),H++[.tok (l.length+xs.length)])
   | .own t e=>match H[t]? with
    | some (.tok e')=>if e'=e then some (.vs k (.own t (e+xs.length)) (l++xs),H.set t (.tok (e+xs.length))) else none
    | _=>none
   | .no=>none
  else none
 | _=>none
def cutL (n:Nat) (l:List AV):List AV:=if l.length≤n then l else l.take n
theorem cutL_eq (n:Nat) (l:List AV):cutL n l=l.take n:=by
 unfold cutL
 split
 ·rw [List.take_of_length_le (by assumption)]
 ·rfl
def aappL (ag:Bool) (k bytes:Nat) (s:AV) (xs:List AV) (H:Hp):Option (AV × Hp) :=
 match s with
 | .nils=>if xs=[] then some (.nils,H)
  else if fits xs.length bytes then some (.ws ag k H.length 0 xs.length,H++[.row 0 (xs.map AV.cells).flatten]) else none
 | .vs k' .clip l =>
  if k'=k∧fits (l.length+xs.length) bytes then
   if xs=[] then some (.vs k .clip l,H) else some (.ws ag k H.length 0 (l.length+xs.length),H++[.row 0 ((l++xs).map AV.cells).flatten])
  else none
 | .ws ag' k' o e len =>
  if ag'=ag∧k'=k∧fits (len+xs.length) bytes then
   if xs=[] then some (.ws ag k o e len,H) else
   match H[o]? with
   | some (.row e' l)=>if e'=e∧len * k≤l.length then some (.ws ag k o (e+1) (len+xs.length),H.set o (.row (e+1) (cutL (len * k) l++(xs.map AV.cells).flatten))) else none
   | _=>none
  else none
 | _=>aappend k bytes s xs H
def acopy (k:Nat) (d x:AV) (H:Hp):Option (AV × Hp) :=
 match elems k x H with
 | some xs=>match d with
  | .nils=>if xs=[] then some (.int .i64 0,H) else none
  | .vs _ _ _=>if xs=[] then some (.int .i64 0,H) else none
  | .rs _ k' o off len _=>if xs=[] then some (.int .i64 0,H) else if k'=k∧xs.length≤len then match H[o]? with
   | some (.cells cs)=>if off+xs.length * k≤cs.length then some (.int .i64 xs.length,H.set o (.cells (splice cs off (xs.map AV.cells).flatten))) else none
   | _=>none else none
  | _=>none
 | none=>none
def amake (k bytes:Nat) (ag:Bool) (z:AV) (len cap:AV) (H:Hp):Option (AV × Hp) :=
 match len,cap with
 | .int .i64 n,.int .i64 c =>
  if 0≤n∧n≤c∧z.known=true∧z.cells.length=k∧0 < k∧fits c.toNat bytes then
   if n=0 then some (.vs k (.own H.length 0) [],H++[.tok 0])
   else some (.rs ag k H.length 0 n.toNat c.toNat,H++[.cells ((List.replicate c.toNat z.cells).flatten)])
  else none
 | _,_=>none
def alenD (d:TypeDesc) (x:AV):Option AV :=
 match d with
 | .string=>match x with
  | .str s=>some (.int .i64 s.length)
  | _=>none
 | .array n _=>some (.int .i64 n)
 | .slice _=>match x with
  | .nils=>some (.int .i64 0)
  | .vs _ _ l=>some (.int .i64 l.length)
  | .rs _ _ _ _ len _=>some (.int .i64 len)
  | .ws _ _ _ _ len=>some (.int .i64 len)
  | _=>none
 | _=>none
def alen (P:Program) (t:TypeId) (x:AV):Option AV :=
 match P.underlying t with
 | some d=>alenD d x
 | none=>none
def amin2:AV→AV→Option AV
 | .int k x,.int k' y=>if k=k' then some (.int k (if y < x then y else x)) else none
 | _,_=>none
def amax2:AV→AV→Option AV
 | .int k x,.int k' y=>if k=k' then some (.int k (if y > x then y else x)) else none
 | _,_=>none
def bytesOf:List AV→Option (List UInt8)
 | []=>some []
 | .int .u8 n :: r=>match bytesOf r with
  | some l=>some (UInt8.ofNat n.toNat :: l)
  | none=>none
 | _=>none
def cvInt (k:IntKind) (x:AV):Option AV :=
 match x with
 | .int _ n=>some (.int k (k.wrap n))
 | _=>none
def cvStr (x:AV):Option AV :=
 match x with
 | .str s=>some (.str s)
 | _=>none
def cvOfBytes (x:AV):Option AV :=
 match x with
 | .nils=>some (.str [])
 | .vs k _ l => if k = 1 then match bytesOf l with
     | some s=>some (.str s)
     | none=>none else none
 | _=>none
def cvToBytes (x:AV):Option AV :=
 match x with
 | .str s=>some (.vs 1 .no (s.map fun b=>.int .u8 b.toNat))
 | _=>none
def isU8:Option TypeDesc→Bool
 | some (.int .u8)=>true
 | _=>false
def aconv (P:Program) (wr:TypeId→Bool) (src dst:TypeId) (x:AV):Option AV :=
 match P.underlying src,P.underlying dst with
 | some (.int _),some (.int k)=>cvInt k x
 | some .string,some .string=>cvStr x
 | some (.slice e),some .string=>if isU8 (P.underlying e) then cvOfBytes x else none
 | some .string,some (.slice e)=>if isU8 (P.underlying e) then (if wr dst then none else cvToBytes x) else none
 | _,_=>none

def apick (c a b:AV):Option AV :=
 match c with
 | .bool t=>some (if t then a else b)
 | _=>none
def anil (x:AV):Option AV :=
 match x with
 | .ptr o off=>some (.ptr o off)
 | .vp cs=>some (.vp cs)
 | .wp o e off=>some (.wp o e off)
 | _=>none
def asliceS (x:AV) (lo hi mx:Option AV):Option AV :=
 match x,mx with
 | .str s,none=>asliceStr s lo hi
 | _,_=>none
def afieldV (g:Bool) (sz off:Nat) (x:AV):Option AV :=
 match x with
 | .agg cs=>apart g sz cs off
 | _=>none
def aext (x:AV) (i:Nat):Option AV :=
 match x with
 | .tuple l=>l[i]?
 | _=>none

def apure (C:Cfg) (ev:Operand→AV):Op→Option AV
 | .move x | .assign x=>some (ev x)
 | .pick c a b=>apick (ev c) (ev a) (ev b)
 | .build t parts=>abuild C.P t (parts.toList.map fun p=>(p.1,ev p.2))
 | .buildSlice t len parts=>abuildS C.P t len (parts.toList.map fun p=>(p.1,ev p.2))
 | .load t a=>match isAggT C.P t,szT C.P t with
  | some g,some sz=>aloadv g sz (ev a)
  | _,_=>none
 | .nilCheck x=>anil (ev x)
 | .binOp op t x y _=>if isIfaceT C.P t then (if constIn x y then ebinI op (ev x) (ev y) else none) else abin C.P C.eqok op t (ev x) (ev y)
 | .unOp op _ x=>aun op (ev x)
 | .convert s d x=>aconv C.P C.wrb s d (ev x)
 | .makeFunc (.func f) first captured=>some (.fn (.func f) (first.toList.map ev) (captured.toList.map ev))
 | .slice t x lo hi mx=>match C.P.underlying t with
  | some .string=>asliceS (ev x) (lo.map ev) (hi.map ev) (mx.map ev)
  | some (.slice e)=>match szT C.P e with
   | some size=>asliceV size (ev x) (lo.map ev) (hi.map ev) (mx.map ev)
   | none=>none
  | _=>none
 | .fieldAddr t x f=>match fieldT C.P t f with
  | some fd=>match szT C.P fd.type with
   | some sz=>if 0 < sz then afield fd.offset (ev x) else none
   | none=>none
  | none=>none
 | .field t x f=>match fieldT C.P t f with
  | some fd=>match isAggT C.P fd.type,szT C.P fd.type with
   | some g,some sz=>afieldV g sz fd.offset (ev x)
   | _,_=>none
  | none=>none
 | .indexAddr t x i=>match C.P.underlying t with
  | some (.slice e)=>match szT C.P e with
   | some size=>aindexS size (ev x) (ev i)
   | none=>none
  | some (.array len e)=>match szT C.P e with
   | some size=>aindexA len size (ev x) (ev i)
   | none=>none
  | _=>none
 | .index t x i=>match C.P.underlying t with
  | some .string=>aindexStr (ev x) (ev i)
  | some (.array len e)=>match isAggT C.P e,szT C.P e with
   | some g,some size=>aindexAgg g len size (ev x) (ev i)
   | _,_=>none
  | _=>none
 | .extract t i=>aext (ev t) i
 | .makeInterface t x=>amkI C.P t (ev x)
 | .typeAssert x _ t ok=>match zeroT C.P t with
  | some z=>atyI C.P ok t z (ev x)
  | none=>none
 | .call { callee:=.builtin .len,args,argTypes }=>match args.toList,argTypes.toList with
  | [x],[t]=>alen C.P t (ev x)
  | _,_=>none
 | .call { callee:=.builtin .min,args,.. }=>match args.toList with
  | [x,y]=>amin2 (ev x) (ev y)
  | _=>none
 | .call { callee:=.builtin .max,args,.. }=>match args.toList with
  | [x,y]=>amax2 (ev x) (ev y)
  | _=>none
 | _=>none

abbrev CallF:=FuncId→List AV→Hp→Option (AV × Hp)

def closeV (H:Hp) (n:Nat):Nat→AV→Option AV
 | 0,_=>none
 | f+1,a=>match a with
  | .ptr o off=>if o < n then some (.ptr o off) else none
  | .map o=>if o < n then some (.map o) else none
  | .vp cells=>match cells.mapM (closeV H n f) with
   | some l=>some (.vp l)
   | none=>none
  | .vs k tok l=>match l.mapM (closeV H n f) with
   | some l=>some (.vs k (match tok with | .own t e=>if t < n then .own t e else .no | tok=>tok) l)
   | none=>none
  | .rs ag k o off len cap => if o < n then some (.rs ag k o off len cap) else
      match elems k (.rs ag k o off len cap) H with
      | some l=>match l.mapM (closeV H n f) with
       | some l=>some (.vs k .no l)
       | none=>none
      | none=>none
  | .ws ag k o e len => if o < n then some (.ws ag k o e len) else
      match elems k (.ws ag k o e len) H with
      | some l=>match l.mapM (closeV H n f) with
       | some l=>some (.vs k .no l)
       | none=>none
      | none=>none
  | .wp o e off=>if o < n then some (.wp o e off) else none
  | .fn fn a b=>match a.mapM (closeV H n f),b.mapM (closeV H n f) with
   | some a,some b=>some (.fn fn a b)
   | _,_=>none
  | .iface t v=>match closeV H n f v with
   | some v=>some (.iface t v)
   | none=>none
  | .agg l=>match l.mapM (closeV H n f) with
   | some l=>some (.agg l)
   | none=>none
  | .tuple l=>match l.mapM (closeV H n f) with
   | some l=>some (.tuple l)
   | none=>none
  | a=>some a

def sumC (g:List AV→Option AV) (args:List AV) (H:List AObj):Option (AV × List AObj) :=
 match g args with
 | some v=>some (v,H)
 | none=>none
def flatV:Nat→AV→Bool
 | _,.bool _=>true
 | _,.int _ _=>true
 | _,.str _=>true
 | _,.nilp=>true
 | _,.nils=>true
 | _,.nilm=>true
 | _,.nilf=>true
 | _,.nili=>true
 | n+1,.agg l=>l.all (flatV n)
 | n+1,.tuple l=>l.all (flatV n)
 | _,_=>false
def flatC (call:List AV→Hp→Option (AV × Hp)) (args:List AV) (H:Hp):Option (AV × Hp) :=
 match args.mapM (closeV [] 0 9) with
 | some args'=>match call args' [] with
  | some (v,H1)=>match closeV H1 0 9 v with
   | some v'=>some (v',H)
   | none=>none
  | none=>none
 | none=>none
mutual
def AV.eqb:AV→AV→Bool
 | .undef,.undef=>true
 | .bool a,.bool b=>a == b
 | .int k a,.int k' b=>decide (k=k') && decide (a=b)
 | .str a,.str b=>decide (a=b)
 | .nilp,.nilp=>true
 | .ptr o f,.ptr o' f'=>Nat.beq o o' && Nat.beq f f'
 | .vp a,.vp b=>AV.eqbL a b
 | .nils,.nils=>true
 | .vs k t l,.vs k' t' l'=>Nat.beq k k' && decide (t=t') && AV.eqbL l l'
 | .rs g k o f n c,.rs g' k' o' f' n' c'=>g == g' && Nat.beq k k' && Nat.beq o o' && Nat.beq f f' && Nat.beq n n' && Nat.beq c c'
 | .ws g k o e n,.ws g' k' o' e' n'=>g == g' && Nat.beq k k' && Nat.beq o o' && Nat.beq e e' && Nat.beq n n'
 | .wp o e f,.wp o' e' f'=>Nat.beq o o' && Nat.beq e e' && Nat.beq f f'
 | .nilm,.nilm=>true
 | .map o,.map o'=>Nat.beq o o'
 | .nilf,.nilf=>true
 | .fn f a b,.fn f' a' b'=>decide (f=f') && AV.eqbL a a' && AV.eqbL b b'
 | .nili,.nili=>true
 | .iface t v,.iface t' v'=>Nat.beq t t' && AV.eqb v v'
 | .agg l,.agg l'=>AV.eqbL l l'
 | .tuple l,.tuple l'=>AV.eqbL l l'
 | _,_=>false
def AV.eqbL:List AV→List AV→Bool
 | [],[]=>true
 | a :: l,b :: m=>AV.eqb a b && AV.eqbL l m
 | _,_=>false
end
def eqbE:List (AV × AV × Nat)→List (AV × AV × Nat)→Bool
 | [],[]=>true
 | (a,b,n) :: l,(a',b',n') :: m=>AV.eqb a a' && AV.eqb b b' && Nat.beq n n' && eqbE l m
 | _,_=>false
def AObj.eqb:AObj→AObj→Bool
 | .cells a,.cells b=>AV.eqbL a b
 | .bld T u l,.bld T' u' l'=>Nat.beq T T' && Nat.beq u u' && decide (l=l')
 | .tok e,.tok e'=>Nat.beq e e'
 | .row e l,.row e' l'=>Nat.beq e e' && AV.eqbL l l'
 | .map es c,.map es' c'=>eqbE es es' && Nat.beq c c'
 | .siter s p,.siter s' p'=>decide (s=s') && Nat.beq p p'
 | .dead,.dead=>true
 | .free,.free=>true
 | _,_=>false
def eqbH:Hp→Hp→Bool
 | [],[]=>true
 | a :: l,b :: m=>AObj.eqb a b && eqbH l m
 | _,_=>false
mutual
theorem AV.eqb_eq:∀ (a b:AV),AV.eqb a b=true→a=b
 | a,b,h=>by
  unfold AV.eqb at h
  split at h
  all_goals first
   | rfl
   | cases h;done
   | skip
  ·rw [beq_iff_eq] at h;rw [h]
  ·simp only [Bool.and_eq_true,decide_eq_true_eq] at h;rw [h.1,h.2]
  ·rw [decide_eq_true_eq] at h;rw [h]
  ·simp only [Bool.and_eq_true,Nat.beq_eq] at h;rw [h.1,h.2]
  ·rw [AV.eqbL_eq _ _ h]
  ·simp only [Bool.and_eq_true,Nat.beq_eq,decide_eq_true_eq] at h;rw [h.1.1,h.1.2,AV.eqbL_eq _ _ h.2]
  ·simp only [Bool.and_eq_true,Nat.beq_eq,beq_iff_eq] at h;obtain ⟨⟨⟨⟨⟨rfl,rfl⟩,rfl⟩,rfl⟩,rfl⟩,rfl⟩:=h;rfl
  ·simp only [Bool.and_eq_true,Nat.beq_eq,beq_iff_eq] at h;obtain ⟨⟨⟨⟨rfl,rfl⟩,rfl⟩,rfl⟩,rfl⟩:=h;rfl
  ·simp only [Bool.and_eq_true,Nat.beq_eq] at h;obtain ⟨⟨rfl,rfl⟩,rfl⟩:=h;rfl
  ·rw [Nat.beq_eq] at h;rw [h]
  ·simp only [Bool.and_eq_true,decide_eq_true_eq] at h;rw [h.1.1,AV.eqbL_eq _ _ h.1.2,AV.eqbL_eq _ _ h.2]
  ·simp only [Bool.and_eq_true,Nat.beq_eq] at h;rw [h.1,AV.eqb_eq _ _ h.2]
  ·rw [AV.eqbL_eq _ _ h]
  ·rw [AV.eqbL_eq _ _ h]
theorem AV.eqbL_eq:∀ (a b:List AV),AV.eqbL a b=true→a=b
 | [],[],_=>rfl
 | a :: l,b :: m,h=>by
  simp only [AV.eqbL,Bool.and_eq_true] at h
  rw [AV.eqb_eq _ _ h.1,AV.eqbL_eq _ _ h.2]
 | [],_ :: _,h=>by simp [AV.eqbL] at h
 | _ :: _,[],h=>by simp [AV.eqbL] at h
end
theorem eqbE_eq:∀ a b,eqbE a b=true→a=b
 | [],[],_=>rfl
 | (a,b,n) :: l,(a',b',n') :: m,h=>by
  simp only [eqbE,Bool.and_eq_true,Nat.beq_eq] at h
  rw [AV.eqb_eq _ _ h.1.1.1,AV.eqb_eq _ _ h.1.1.2,h.1.2,eqbE_eq _ _ h.2]
 | [],_ :: _,h=>by simp [eqbE] at h
 | _ :: _,[],h=>by simp [eqbE] at h
theorem AObj.eqb_eq (a b:AObj) (h:AObj.eqb a b=true):a=b:=by
 unfold AObj.eqb at h
 split at h
 all_goals first
  | rfl
  | cases h;done
  | skip
 ·rw [AV.eqbL_eq _ _ h]
 ·simp only [Bool.and_eq_true,Nat.beq_eq,decide_eq_true_eq] at h;obtain ⟨⟨rfl,rfl⟩,rfl⟩:=h;rfl
 ·rw [Nat.beq_eq] at h;rw [h]
 ·simp only [Bool.and_eq_true,Nat.beq_eq] at h;rw [h.1,AV.eqbL_eq _ _ h.2]
 ·simp only [Bool.and_eq_true,Nat.beq_eq] at h;rw [eqbE_eq _ _ h.1,h.2]
 ·simp only [Bool.and_eq_true,Nat.beq_eq,decide_eq_true_eq] at h;rw [h.1,h.2]
theorem eqbH_eq:∀ a b,eqbH a b=true→a=b
 | [],[],_=>rfl
 | a :: l,b :: m,h=>by
  simp only [eqbH,Bool.and_eq_true] at h
  rw [AObj.eqb_eq _ _ h.1,eqbH_eq _ _ h.2]
 | [],_ :: _,h=>by simp [eqbH] at h
 | _ :: _,[],h=>by simp [eqbH] at h
mutual
theorem AV.eqb_refl:∀ (a:AV),AV.eqb a a=true
 | .undef | .nilp | .nils | .nilm | .nilf | .nili=>by simp [AV.eqb]
 | .bool _ | .int _ _ | .str _ | .ptr _ _ | .rs _ _ _ _ _ _ | .ws _ _ _ _ _ | .wp _ _ _ | .map _=>by simp [AV.eqb]
 | .vp l | .agg l | .tuple l=>by simp [AV.eqb,AV.eqbL_refl l]
 | .vs _ _ l=>by simp [AV.eqb,AV.eqbL_refl l]
 | .fn _ a b=>by simp [AV.eqb,AV.eqbL_refl a,AV.eqbL_refl b]
 | .iface _ v=>by simp [AV.eqb,AV.eqb_refl v]
theorem AV.eqbL_refl:∀ (a:List AV),AV.eqbL a a=true
 | []=>by simp [AV.eqbL]
 | a :: l=>by simp [AV.eqbL,AV.eqb_refl a,AV.eqbL_refl l]
end
theorem eqbE_refl:∀ a,eqbE a a=true
 | []=>rfl
 | (a,b,n) :: l=>by simp [eqbE,AV.eqb_refl a,AV.eqb_refl b,eqbE_refl l]
theorem AObj.eqb_refl (a:AObj):AObj.eqb a a=true:=by
 cases a <;> simp [AObj.eqb,AV.eqbL_refl,eqbE_refl]
theorem eqbH_refl:∀ a,eqbH a a=true
 | []=>rfl
 | a :: l=>by simp [eqbH,AObj.eqb_refl a,eqbH_refl l]
def roC (call:List AV→Hp→Option (AV × Hp)) (args:List AV) (H:Hp):Option (AV × Hp) :=
 match call args H with
 | some (v,H1)=>if eqbH (H1.take H.length) H then match closeV H1 H.length 9 v with
  | some v'=>some (v',H)
  | none=>none else none
 | none=>none
def acallF (C:Cfg) (call:CallF) (id:FuncId) (args:List AV) (H:Hp):Option (AV × Hp) :=
 match C.ext id with
 | some e=>extC e args H
 | none=>match C.sum id with
  | some g=>sumC g args H
  | none=>match C.eff id with
  | some g=>g.run args H
  | none=>if C.user id then (if C.flat id then flatC (call id) args H else if C.ro id then roC (call id) args H else call id args H) else none
def acall (C:Cfg) (call:CallF) (f:AV) (args:List AV) (H:Hp):Option (AV × Hp) :=
 match f with
 | .fn (.func id) first captured=>acallF C call id (first++args++captured) H
 | _=>none

def quiet (C:Cfg) (f:FuncId):Bool:=(C.ext f).isSome || (C.sum f).isSome || (C.user f && C.flat f && (C.eff f).isNone)
def qC (C:Cfg) (g:AV→List AV→Hp→Option (AV × Hp)) (f:AV) (args:List AV) (H:Hp):Option (AV × Hp) :=
 match f with
 | .fn (.func id) first captured=>if quiet C id then g (.fn (.func id) first captured) args H else none
 | _=>none
def acallQ (C:Cfg) (call:CallF):AV→List AV→Hp→Option (AV × Hp):=qC C (acall C call)
def argNo:Operand→Nat
 | .tmp i=>i
 | _=>0
def qcall (C:Cfg) (f:Operand) (args:Array Operand):Bool :=
 match f with
 | .tmp t=>C.qk t (args.toList.map argNo)
 | _=>false

def abox (x:AV) (H:Hp):Option (AV × Hp):=if x.known then some (.ptr H.length 0,H++[.cells x.cells]) else none
def stC (C:Cfg):Op→Nat
 | .store t (.tmp a) (.tmp x)=>C.rst t a x
 | _=>0
def stV (k:Nat) (a:AV):Bool :=
 match k with
 | 0=>true
 | 1=>match a with | .wp _ _ _=>true | _=>false
 | _=>match a with | .ptr _ _=>true | _=>false
def astoreU (sz:Nat) (a v:AV) (H:Hp):Option (AV × Hp) :=
 match astore sz a v H with
 | some H'=>some (.tuple [],H')
 | none=>none
def aappE (k bytes:Nat) (s x:AV) (H:Hp):Option (AV × Hp) :=
 match elems k x H with
 | some xs=>aappend k bytes s xs H
 | none=>none
def aappEL (ag:Bool) (k bytes:Nat) (s x:AV) (H:Hp):Option (AV × Hp) :=
 match elems k x H with
 | some xs=>aappL ag k bytes s xs H
 | none=>none
def bldZ:AV→Bool
 | .agg [.nilp,.nils]=>true
 | _=>false
def linT (C:Cfg) (e:TypeId):Option Bool:=if C.lin e then isAggT C.P e else none
def zeroOk (P:Program) (e:TypeId) (k:Nat):Bool :=
 match zeroT P e with
 | some z=>z.known && z.cells.length == k
 | none=>false
def appendable:TypeDesc→Bool
 | .slice _ | .string=>true
 | _=>false
def elemsS (x:AV) (H:Hp):Option (List AV) :=
 match x with
 | .str _=>none
 | x=>elems 1 x H
def cvStrH (x:AV) (H:Hp):Option (AV × Hp) :=
 match elemsS x H with
 | some l=>match bytesOf l with
  | some s=>some (.str s,H)
  | none=>none
 | none=>none
def cvRow (x:AV) (H:Hp):Option (AV × Hp) :=
 match x with
 | .str s=>some (.ws false 1 H.length 0 s.length,H++[.row 0 (s.map fun b=>.int .u8 b.toNat)])
 | _=>none
def ainv (C:Cfg) (call:CallF) (x:AV) (name:String) (args:List AV) (H:Hp):Option (AV × Hp) :=
 match x with
 | .iface t v=>match methF C.P t name with
  | some f=>acall C call (.fn (.func f) [v] []) args H
  | none=>none
 | _=>none
def aheap (C:Cfg) (call:CallF) (ev:Operand→AV) (H:Hp):Op→Option (AV × Hp)
 | .alloc e=>match zeroT C.P e with
  | some z=>match C.bld e with
   | some u=>if bldZ z && e != u then some (.ptr H.length 0,H++[.bld e u []]) else none
   | none=>if z.known then some (.ptr H.length 0,H++[.cells z.cells]) else none
  | none=>none
 | .box _ x=>abox (ev x) H
 | .load t a=>match isAggT C.P t,szT C.P t with
  | some g,some sz=>(aload g sz (ev a) H).map (·,H)
  | _,_=>none
 | .store t a x=>match szT C.P t with
  | some sz=>if stV (stC C (.store t a x)) (ev a) then astoreU sz (ev a) (ev x) H else none
  | none=>none
 | .makeSlice t l c=>match elemT C.P t with
  | some e=>match szT C.P e,bytesT C.P e,isAggT C.P e,zeroT C.P e with
   | some k,some bytes,some ag,some z=>amake k bytes ag z (ev l) (ev c) H
   | _,_,_,_=>none
  | none=>none
 | .convert s d x=>match C.P.underlying s,C.P.underlying d with
  | some (.slice e),some .string=>if isU8 (C.P.underlying e) then cvStrH (ev x) H else none
  | some .string,some (.slice e)=>if C.wrb d && isU8 (C.P.underlying e) then cvRow (ev x) H else none
  | _,_=>none
 | .makeMap _ none=>some (.map H.length,H++[.map [] 0])
 | .lookup t x k ck=>match mapT C.P t with
  | some (d,e)=>match zeroT C.P e with
   | some z=>(alookup d z ck (ev x) (ev k) H).map (·,H)
   | none=>none
  | none=>none
 | .mapUpdate t m k x=>match mapT C.P t with
  | some (d,_)=>amapSet d (ev m) (ev k) (ev x) H
  | none=>none
 | .insert t m k x=>match mapT C.P t with
  | some (d,_)=>amapSet d (ev m) (ev k) (ev x) H
  | none=>none
 | .call { callee:=.builtin .append,args,argTypes }=>match args.toList,argTypes.toList with
  | [s,x],[st,xt]=>match elemT C.P st,C.P.underlying xt with
   | some e,some xd=>if !appendable xd then none else match szT C.P e,bytesT C.P e with
    | some k,some bytes=>if 0 < k && zeroOk C.P e k then (match linT C e with | some ag=>aappEL ag k bytes (ev s) (ev x) H | none=>aappE k bytes (ev s) (ev x) H) else none
    | _,_=>none
   | _,_=>none
  | _,_=>none
 | .call { callee:=.builtin .len,args,argTypes }=>match args.toList,argTypes.toList with
  | [x],[t]=>match mapT C.P t with
   | some _=>(alenM (ev x) H).map (·,H)
   | none=>none
  | _,_=>none
 | .call { callee:=.builtin .delete,args,argTypes }=>match args.toList,argTypes.toList with
  | [m,k],[t,_]=>match mapT C.P t with
   | some (d,_)=>amapDel d (ev m) (ev k) H
   | none=>none
  | _,_=>none
 | .call { callee:=.builtin .copy,args,argTypes }=>match args.toList,argTypes.toList with
  | [d,x],[dt,_]=>match elemT C.P dt with
   | some e=>match szT C.P e with
    | some k=>if 0 < k then acopy k (ev d) (ev x) H else none
    | none=>none
   | none=>none
  | _,_=>none
 | .call { callee:=.value f,args,.. }=>if qcall C f args then acallQ C call (ev f) (args.toList.map ev) H else acall C call (ev f) (args.toList.map ev) H
 | .call { callee:=.invoke r m,args,.. }=>ainv C call (ev r) m (args.toList.map ev) H
 | _=>none

def aop (C:Cfg) (call:CallF) (ev:Operand→AV) (H:Hp) (fl:Bool) (op:Op):Option (AV × Hp) :=
 match apure C ev op with
 | some v=>some (v,H)
 | none=>if fl then none else aheap C call ev H op

abbrev St:=List AV × Hp
def aput (tm:List AV) (dst:Option Tmp) (v:AV):List AV :=
 match dst with
 | some d=>tm.set d v
 | none=>tm
def awanted (ops:Array Oper) (tm:List AV) (o:Oper):Option Bool :=
 match o.guard with
 | none=>some true
 | some (j,want)=>match (match ops[j]? with | some g=>g.dst | none=>none) with
  | none=>some false
  | some d=>match tm[d]? with
   | some (.bool b)=>some (b == want)
   | some .undef=>none
   | _=>some false
def oVal (C:Cfg) (call:CallF) (ops:Array Oper) (fl:Bool) (o:Oper) (tm:List AV) (H:Hp):Option (AV × Hp) :=
 match awanted ops tm o with
 | none=>none
 | some false=>some (.tuple [],H)
 | some true=>aop C call (eval C tm) H fl o.op
def oStep (C:Cfg) (call:CallF) (ops:Array Oper) (fl:Bool) (o:Oper) (s:St):Option St :=
 match oVal C call ops fl o s.1 s.2 with
 | some (v,H)=>some (aput s.1 o.dst v,H)
 | none=>none

def touch (C:Cfg):Op→Nat
 | .move _ | .assign _ | .pick _ _ _ | .build _ _ | .buildSlice _ _ _ | .nilCheck _ | .binOp _ _ _ _ _ | .unOp _ _ _ | .makeInterface _ _ | .makeFunc _ _ _
 | .slice _ _ _ _ _ | .fieldAddr _ _ _ | .field _ _ _ | .indexAddr _ _ _ | .index _ _ _ | .extract _ _ | .typeAssert _ _ _ _=>0
 | .call { callee:=.builtin .min,.. } | .call { callee:=.builtin .max,.. }=>0
 | .convert _ d _=>if C.wrb d then 2 else 1
 | .load _ _ | .lookup _ _ _ _=>1
 | .call { callee:=.builtin .len,.. }=>1
 | .call { callee:=.value (.func f),.. }=>if quiet C f then 0 else 2
 | .call { callee:=.value f,args,.. }=>if qcall C f args then 0 else 2
 | _=>2
def roOp (C:Cfg):Op→Bool
 | .call { callee:=.value (.func f),.. }=>C.ro f && !C.flat f && (C.ext f).isNone && (C.sum f).isNone && (C.eff f).isNone
 | _=>false
def still (C:Cfg) (x:Op):Bool:=decide (touch C x≤1) || roOp C x
def twoSt (C:Cfg) (x y:Op):Bool:=(decide (stC C x=1) && decide (stC C y=2)) || (decide (stC C x=2) && decide (stC C y=1))
def clash (C:Cfg) (x y:Op):Bool:=!(decide (touch C x=0) || decide (touch C y=0) || (still C x && still C y) || twoSt C x y)
def behind (ops:Array Oper):Nat→Nat→Nat→Bool
 | 0,_,_=>false
 | n+1,j,i=>match ops[j]? with
  | none=>false
  | some o=>o.after.toList.any fun e=>Region.binds .any e && (e.on == i || behind ops n e.on i)
def fresh:Op→Bool
 | .alloc _ | .box _ _ | .makeMap _ none=>true
 | _=>false
def lag (C:Cfg) (ops:Array Oper) (i:Nat):Bool :=
 match ops[i]? with
 | some o=>fresh o.op && o.guard.isNone && (List.range ops.size).any fun j=>decide (j < i) && (match ops[j]? with | some o'=>decide (2≤touch C o'.op) | none=>false) && !behind ops ops.size i j && !behind ops ops.size j i
 | none=>false
def lags (C:Cfg) (ops:Array Oper) (n:Nat):Nat:=(List.range n).countP (lag C ops)
def lagV (C:Cfg) (ev:Operand→AV):Op→Option AObj
 | .alloc e=>match zeroT C.P e with
  | some z=>if z.known && (C.bld e).isNone then some (.cells z.cells) else none
  | none=>none
 | .box _ x=>if (ev x).known then some (.cells (ev x).cells) else none
 | .makeMap _ none=>some (.map [] 0)
 | _=>none
def lagT (x:AObj):Bool :=
 match x with
 | .free=>false
 | _=>true
def lagP (x:AObj) (p:Nat):AV :=
 match x with
 | .map _ _=>.map p
 | _=>.ptr p 0
def alag (p:Nat) (cs:Option AObj) (H:Hp):Option (AV × Hp) :=
 match cs with
 | some l=>match H[p]? with
  | some .free=>if lagT l then some (lagP l p,H.set p l) else none
  | _=>none
 | none=>none
def resvH:Nat→Hp→Hp
 | 0,H=>H
 | n+1,H=>H++List.replicate (n+1) .free
def floats (C:Cfg) (ops:Array Oper) (i:Nat):Bool :=
 match ops[i]? with
 | none=>false
 | some o=>(List.range ops.size).any fun j=>j != i && (match ops[j]? with | some o'=>clash C o.op o'.op && (decide (touch C o.op≤1) || decide (2≤touch C o'.op)) | none=>false) && !(match ops[j]? with | some o'=>decide (touch C o.op≤1) && fresh o'.op && decide (i < j) | none=>false) && !(decide (i < j) && lag C ops j) && !(decide (j < i) && lag C ops i) && !behind ops ops.size i j && !behind ops ops.size j i
def rStep (C:Cfg) (call:CallF) (ops:Array Oper) (draw:Bool) (b i:Nat) (o:Oper) (s:St):Option St :=
 if draw && lag C ops i then (if floats C ops i then none else match alag (b+lags C ops i) (lagV C (eval C s.1) o.op) s.2 with
  | some (v,H)=>some (aput s.1 o.dst v,H)
  | none=>none)
 else oStep C call ops (draw && floats C ops i) o s
def execOps (C:Cfg) (call:CallF) (ops:Array Oper) (draw:Bool) (b:Nat):Nat→List Oper→St→Option St
 | _,[],s=>some s
 | i,o :: rest,s=>match rStep C call ops draw b i o s with
  | some s'=>execOps C call ops draw b (i+1) rest s'
  | none=>none

inductive AExit where
 | normal
 | exit (id:Nat)
 | goto (l:Nat)
 | ret
 deriving DecidableEq

def keepFrom (keep:List Nat):Nat→List AV→List AV
 | _,[]=>[]
 | i,v :: r=>(if keep.contains i then v else .undef) :: keepFrom keep (i+1) r
def firstRegion:Code→Option Nat
 | .region id _ _=>some id
 | .seq a b=>match firstRegion a with
  | some r=>some r
  | none=>firstRegion b
 | .block _ c | .loop c | .scope c=>firstRegion c
 | _=>none
def trim (kp:Nat→Option (List Nat)) (c:Code) (s:St):St :=
 match firstRegion c with
 | none=>s
 | some r=>match kp r with
  | none=>s
  | some keep=>(keepFrom keep 0 s.1,s.2)
def frzV (a:AV) (H:Hp):AV × Hp :=
 match a with
 | .ptr o 0=>match H[o]? with
  | some (.cells l)=>(.vp l,H.set o .dead)
  | some .free=>(a,H.set o .dead)
  | _=>(a,H)
 | _=>(a,H)
def frz1 (s:St) (t:Nat):St:=(s.1.set t (frzV (s.1.getD t (.tuple [])) s.2).1,(frzV (s.1.getD t (.tuple [])) s.2).2)
def frzL (ts:List Nat) (s:St):St:=ts.foldl frz1 s
def frzs (kp:Nat→Option (List Nat)) (id:Nat) (s:St):St :=
 match kp (id+1000000) with
 | none=>s
 | some ts=>frzL ts s
def loopN (f:St→Option (AExit × St)):Nat→St→Option (AExit × St)
 | 0,_=>none
 | n+1,s=>match f s with
  | some (.normal,s')=>loopN f n s'
  | r=>r

def orderOk (ops:Array Oper):Bool :=
 Region.noSelect ops && (List.range ops.size).all fun k =>
  match ops[k]? with
  | none=>false
  | some o=>(o.after.toList.all fun e=>!Region.binds .any e || decide (e.on < k)) &&
   (List.range ops.size).all fun j=>decide (j≤k) || (match ops[j]? with
    | none=>false
    | some o'=>behind ops ops.size j k || o.apart ops o')

def noGoto:Code→Bool
 | .goto _=>false
 | .seq a b=>noGoto a && noGoto b
 | .cond _ x y=>noGoto x && noGoto y
 | .block _ c | .loop c | .scope c=>noGoto c
 | _=>true
def exec (C:Cfg) (call:CallF) (kp:Nat→Option (List Nat)) (n:Nat):Code→St→Option (AExit × St)
 | .skip,s=>some (.normal,s)
 | .region id ops draw,s=>if draw && !orderOk ops then none else match execOps C call ops draw (frzs kp id s).2.length 0 ops.toList ((frzs kp id s).1,resvH (if draw then lags C ops ops.size else 0) (frzs kp id s).2) with
  | some s'=>some (.normal,s')
  | none=>none
 | .seq a b,s=>match exec C call kp n a s with
  | some (.normal,s')=>exec C call kp n b (trim kp b s')
  | r=>r
 | .cond c x y,s=>match eval C s.1 c with
  | .bool t=>if t then exec C call kp n x s else exec C call kp n y s
  | _=>none
 | .block id c,s=>match exec C call kp n c s with
  | some (.exit i,s')=>if i=id then some (.normal,s') else some (.exit i,s')
  | r=>r
 | .loop c,s=>loopN (fun s=>exec C call kp n c (trim kp c s)) n s
 | .scope c,s=>if noGoto c then exec C call kp n c s else none
 | .exit id,s=>some (.exit id,s)
 | .label _,s=>some (.normal,s)
 | .goto l,s=>some (.goto l,s)
 | .ret,s=>some (.ret,s)
 | _,_=>none

def resOne (C:Cfg) (s:St):ResultVar→Option AV
 | .tmp t=>some (s.1.getD t (.tuple []))
 | .cell a t=>match isAggT C.P t,szT C.P t with
  | some g,some sz=>aload g sz (s.1.getD a (.tuple [])) s.2
  | _,_=>none
def resVal (C:Cfg) (fn:Func) (s:St):Option AV :=
 match fn.results.toList.mapM (resOne C s) with
 | some [v]=>some v
 | some l=>some (.tuple l)
 | none=>none

open Classical in
noncomputable def leaveP (H0:Hp) (v:AV) (H:Hp):Option (AV × Hp) :=
 if H.take H0.length=H0 then match closeV H H0.length 9 v with
  | some v'=>some (v',H0)
  | none=>none else none
noncomputable def leave (C:Cfg) (f:FuncId) (H:Hp) (r:AV × Hp):Option (AV × Hp):=if C.pure f then leaveP H r.1 r.2 else some r

noncomputable def body (C:Cfg) (call:CallF) (n:Nat) (f:FuncId) (fn:Func) (c:Code) (args:List AV) (H:Hp):Option (AV × Hp) :=
 match exec C call (C.keep f) n c (args++List.replicate (fn.ntmps - args.length) .undef,H) with
 | some (.normal,s) | some (.ret,s)=>match resVal C fn s with
  | some v=>leave C f H (v,s.2)
  | none=>none
 | _=>none

noncomputable def call (C:Cfg):Nat→CallF
 | 0,_,_,_=>none
 | n+1,f,args,H=>match C.P.funcs[f]? with
  | none=>none
  | some fn=>match fn.body with
   | none=>none
   | some c=>body C (call C n) n f fn c args H
end Go.Am
