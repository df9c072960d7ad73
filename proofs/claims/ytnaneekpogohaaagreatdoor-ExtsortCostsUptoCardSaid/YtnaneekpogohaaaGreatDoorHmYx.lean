/-
  THE ABSTRACT MACHINE, part Y: an evaluator of all code that the kernel runs quickly: code is first laid out, its types looked up once.
-/
import Derived.Test.YtnaneekpogohaaaGreatDoorHmSx
namespace Go.Am
set_option linter.unusedVariables false
noncomputable section

abbrev bR' {α:Type} (c:Bool) (x y:α):α:=@Bool.rec (fun _=>α) y x c
def nthR {α:Type} (l:List α):Nat→Option α:=@List.rec α (fun _=>Nat→Option α) (fun _=>none) (fun a _ ih i=>@Nat.rec (fun _=>Option α) (some a) (fun m _=>ih m) i) l
def hasR {α:Type} (l:List α):Nat→Bool:=@List.rec α (fun _=>Nat→Bool) (fun i=>Nat.beq i 0) (fun _ _ ih i=>@Nat.rec (fun _=>Bool) true (fun m _=>ih m) i) l
def fewR {α:Type} (l:List α):Nat→Bool:=@List.rec α (fun _=>Nat→Bool) (fun _=>true) (fun _ _ ih i=>@Nat.rec (fun _=>Bool) false (fun m _=>ih m) i) l
def isR {α:Type} (l:List α):Nat→Bool:=@List.rec α (fun _=>Nat→Bool) (fun i=>Nat.beq i 0) (fun _ _ ih i=>@Nat.rec (fun _=>Bool) false (fun m _=>ih m) i) l
def lenR {α:Type} (l:List α):Nat:=@List.rec α (fun _=>Nat→Nat) (fun n=>n) (fun _ _ ih n=>ih (Nat.succ n)) l 0
def appR {α:Type} (l m:List α):List α:=@List.rec α (fun _=>List α) m (fun a _ ih=>a :: ih) l
def takeR {α:Type} (l:List α):Nat→List α:=@List.rec α (fun _=>Nat→List α) (fun _=>[]) (fun a _ ih i=>@Nat.rec (fun _=>List α) [] (fun m _=>a :: ih m) i) l
def dropR {α:Type} (l:List α):Nat→List α:=@List.rec α (fun _=>Nat→List α) (fun _=>[]) (fun a l ih i=>@Nat.rec (fun _=>List α) (a :: l) (fun m _=>ih m) i) l
def setR {α:Type} (l:List α) (x:α):Nat→List α:=@List.rec α (fun _=>Nat→List α) (fun _=>[]) (fun a l ih i=>@Nat.rec (fun _=>List α) (x :: l) (fun m _=>a :: ih m) i) l
def splR (l:List AV) (cs:List AV):Nat→List AV:=@List.rec AV (fun _=>Nat→List AV) (fun _=>cs) (fun a l ih i=>@Nat.rec (fun _=>List AV) (appR cs (dropR (a :: l) (lenR cs))) (fun m _=>a :: ih m) i) l
def nilR {α:Type} (l:List α):Bool:=@List.rec α (fun _=>Bool) true (fun _ _ _=>false) l

inductive Bx where
 | mk (v:AV)
def lookB (al:AL):Nat→Bx:=@List.rec (Nat × AV) (fun _=>Nat→Bx) (fun _=>.mk .undef) (fun p _ ih t=>@Prod.rec Nat AV (fun _=>Bx) (fun i v=>bR' (Nat.beq i t) (.mk v) (ih t)) p) al
def lookR (al:AL) (t:Nat):AV:=@Bx.rec (fun _=>AV) (fun v=>v) (lookB al t)
inductive FA where
 | slot (t:Nat)
 | val (v:AV)
def FA.get (a:FA) (al:AL):AV:=@FA.rec (fun _=>AV) (fun t=>lookR al t) (fun v=>v) a
def cA (C:Cfg) (n:Nat) (x:Operand):FA :=
 match x with
 | .tmp t=>bR' (Nat.blt t n) (.slot t) (.val (.tuple []))
 | x=>.val (eval C [] x)
def cAs (C:Cfg) (n:Nat) (l:List Operand):List FA:=@List.rec Operand (fun _=>List FA) [] (fun x _ ih=>cA C n x :: ih) l
def getA (l:List FA) (al:AL):List AV:=@List.rec FA (fun _=>List AV) [] (fun x _ ih=>x.get al :: ih) l
def getO (x:Option FA) (al:AL):Option AV:=@Option.rec FA (fun _=>Option AV) none (fun x=>some (x.get al)) x
inductive FG where
 | no
 | els
 | gd (d:Nat) (want:Bool)
def cG (n:Nat) (ops:Array Oper) (o:Oper):FG :=
 match o.guard with
 | none=>.no
 | some (j,want)=>match (match ops[j]? with | some g=>g.dst | none=>none) with
  | none=>.els
  | some d=>bif Nat.blt d n then .gd d want else .els
def FG.run {α:Type} (g:FG) (al:AL) (els:α) (x:Option α):Option α :=
 @FG.rec (fun _=>Option α) x (some els) (fun d want=>gdv (lookR al d) want els x) g

def ikN (k:IntKind):Nat:=@IntKind.rec (fun _=>Nat) 0 1 2 3 4 5 6 7 k
def ikMax (k:IntKind):Nat:=@IntKind.rec (fun _=>Nat) 128 32768 2147483648 9223372036854775808 256 65536 4294967296 18446744073709551616 k
def fwrap (k:IntKind) (z:Int):Int:=@Int.rec (fun _=>Int) (fun m=>bR' (Nat.blt m (ikMax k)) (.ofNat m) (k.wrap (.ofNat m))) (fun m=>k.wrap (.negSucc m)) z
def fint (a b:AV) (f:IntKind→Int→Int→Option AV):Option AV :=
 match a,b with
 | .int k x,.int k' y=>bR' (Nat.beq (ikN k) (ikN k')) (f k x y) none
 | _,_=>none
def ilt (x y:Int):Bool:=@Int.rec (fun _=>Bool) (fun m=>@Int.rec (fun _=>Bool) (fun n=>Nat.blt m n) (fun n=>false) y) (fun m=>@Int.rec (fun _=>Bool) (fun n=>true) (fun n=>Nat.blt n m) y) x
def ile (x y:Int):Bool:=@Int.rec (fun _=>Bool) (fun m=>@Int.rec (fun _=>Bool) (fun n=>Nat.ble m n) (fun n=>false) y) (fun m=>@Int.rec (fun _=>Bool) (fun n=>true) (fun n=>Nat.ble n m) y) x
def ieq (x y:Int):Bool:=@Int.rec (fun _=>Bool) (fun m=>@Int.rec (fun _=>Bool) (fun n=>Nat.beq m n) (fun n=>false) y) (fun m=>@Int.rec (fun _=>Bool) (fun n=>false) (fun n=>Nat.beq n m) y) x
def iadd (x y:Int):Int:=@Int.rec (fun _=>Int) (fun m=>@Int.rec (fun _=>Int) (fun n=>.ofNat (Nat.add m n)) (fun n=>x+y) y) (fun m=>x+y) x
def isub (x y:Int):Int:=@Int.rec (fun _=>Int) (fun m=>@Int.rec (fun _=>Int) (fun n=>bR' (Nat.ble n m) (.ofNat (Nat.sub m n)) (x - y)) (fun n=>x - y) y) (fun m=>x - y) x
def fib (op:BinOp) (a b:AV):Option AV :=
 match op with
 | .add=>fint a b fun k x y=>some (.int k (fwrap k (iadd x y)))
 | .sub=>fint a b fun k x y=>some (.int k (fwrap k (isub x y)))
 | .eql=>fint a b fun k x y=>some (.bool (ieq x y))
 | .neq=>fint a b fun k x y=>some (.bool (!ieq x y))
 | .lss=>fint a b fun k x y=>some (.bool (ilt x y))
 | .leq=>fint a b fun k x y=>some (.bool (ile x y))
 | .gtr=>fint a b fun k x y=>some (.bool (ilt y x))
 | .geq=>fint a b fun k x y=>some (.bool (ile y x))
 | op=>ibin op a b
def eqU (a b:UInt8):Bool:=Nat.beq a.toNat b.toNat
def eqS (l:List UInt8):List UInt8→Bool:=@List.rec UInt8 (fun _=>List UInt8→Bool) (fun m=>nilR m) (fun a _ ih m=>@List.rec UInt8 (fun _=>Bool) false (fun b m _=>bR' (eqU a b) (ih m) false) m) l
def fsb (op:BinOp) (x y:AV):Option AV :=
 match op,x,y with
 | .add,.str a,.str b=>bR' (fewR a 1000000 && fewR b 1000000) (some (.str (appR a b))) none
 | .eql,.str a,.str b=>some (.bool (eqS a b))
 | .neq,.str a,.str b=>some (.bool (!eqS a b))
 | op,x,y=>sbin op x y

def fpart (g:Bool) (sz:Nat) (cells:List AV) (off:Nat):Option AV :=
 bR' g (bR' (hasR cells (off+sz)) (some (.agg (takeR (dropR cells off) sz))) none) (nthR cells off)
def fload (g:Bool) (sz:Nat) (a:AV) (H:Hp):Option AV :=
 match a with
 | .ptr o off=>match nthR H o with
  | some (.cells l)=>fpart g sz l off
  | _=>none
 | .vp cells=>fpart g sz cells 0
 | .wp o e off=>match nthR H o with
  | some (.row e' l)=>bR' (Nat.beq e' e) (fpart g sz l off) none
  | _=>none
 | _=>none
def okSt (v:AV) (sz:Nat) (l:List AV) (off:Nat):Bool:=v.known && (isR v.cells sz && hasR l (off+sz))
def fstore (sz:Nat) (a v:AV) (H:Hp):Option (AV × Hp) :=
 match a with
 | .ptr o off=>match nthR H o with
  | some (.cells l)=>bR' (okSt v sz l off) (some (.tuple [],setR H (.cells (splR l v.cells off)) o)) none
  | _=>none
 | .wp o e off=>match nthR H o with
  | some (.row e' l)=>bR' (Nat.beq e' e && okSt v sz l off) (some (.tuple [],setR H (.row e (splR l v.cells off)) o)) none
  | _=>none
 | _=>none
def ixR {α:Type} (l:List α) (i:Int) (f:α→AV):Option AV:=@Int.rec (fun _=>Option AV) (fun m=>@Option.rec α (fun _=>Option AV) none (fun e=>some (f e)) (nthR l m)) (fun _=>none) i
def natI (i:Int) (f:Nat→Option AV):Option AV:=@Int.rec (fun _=>Option AV) f (fun _=>none) i
def findex (size:Nat) (x i:AV):Option AV :=
 match x,i with
 | .vs k _ l,.int _ n=>bR' (Nat.beq k size) (ixR l n fun e=>.vp e.cells) none
 | .rs _ _ o off len _,.int _ n=>natI n fun m=>bR' (Nat.blt m len) (some (.ptr o (Nat.add off (Nat.mul m size)))) none
 | .ws _ _ o e len,.int _ n=>natI n fun m=>bR' (Nat.blt m len) (some (.wp o e (Nat.mul m size))) none
 | _,_=>none
def ffield (off:Nat) (a:AV):Option AV :=
 match a with
 | .ptr o x=>some (.ptr o (Nat.add x off))
 | .wp o e x=>some (.wp o e (Nat.add x off))
 | .vp cells=>bR' (hasR cells off) (some (.vp (dropR cells off))) none
 | _=>none
def findexA (len size:Nat) (x i:AV):Option AV :=
 match i with
 | .int _ n=>natI n fun m=>bR' (Nat.blt m len) (ffield (Nat.mul m size) x) none
 | _=>none
def findexG (g:Bool) (len size:Nat) (x i:AV):Option AV :=
 match x,i with
 | .agg cs,.int _ n=>natI n fun m=>bR' (Nat.blt m len) (fpart g size cs (Nat.mul m size)) none
 | _,_=>none
def findexStr (x i:AV):Option AV :=
 match x,i with
 | .str s,.int _ n=>ixR s n fun b=>.int .u8 (.ofNat b.toNat)
 | _,_=>none
def ffill (al:AL) (l:List (Nat × Nat × FA)):List AV→Option (List AV) :=
 @List.rec (Nat × Nat × FA) (fun _=>List AV→Option (List AV)) (fun c=>some c) (fun p _ ih c=>@Prod.rec Nat (Nat × FA) (fun _=>Option (List AV)) (fun off q=>@Prod.rec Nat FA (fun _=>Option (List AV)) (fun sz a=>bR' (okSt (a.get al) sz c off) (ih (splR c (a.get al).cells off)) none) q) p) l
def fsetE (al:AL) (size:Nat) (l:List (Nat × FA)):List AV→Option (List AV) :=
 @List.rec (Nat × FA) (fun _=>List AV→Option (List AV)) (fun c=>some c) (fun p _ ih c=>@Prod.rec Nat FA (fun _=>Option (List AV)) (fun i a=>bR' ((a.get al).known && (isR (a.get al).cells size && hasR c (i+1))) (ih (setR c (a.get al) i)) none) p) l

def fbound (x:AV) (y:Nat):Option Nat :=
 match x with
 | .int _ n=>@Int.rec (fun _=>Option Nat) (fun m=>bR' (Nat.ble m y) (some m) none) (fun _=>none) n
 | _=>none
def fbounds (len cap:Nat) (lo hi mx:Option AV):Option (Nat × Nat × Nat) :=
 match (match mx with | some v=>fbound v cap | none=>some cap) with
 | none=>none
 | some m=>match (match hi,mx with | some v,_=>fbound v m | none,none=>some len | none,some _=>none) with
  | none=>none
  | some h=>match (match lo with | some v=>fbound v h | none=>some 0) with
   | none=>none
   | some l=>some (l,h,m)
def fsliceS (x:AV) (lo hi mx:Option AV):Option AV :=
 match x,mx with
 | .str s,none=>match fbounds (lenR s) (lenR s) lo hi none with
  | some (l,h,_)=>some (.str (dropR (takeR s h) l))
  | none=>none
 | _,_=>none
def fsliceV (size:Nat) (x:AV) (lo hi mx:Option AV):Option AV :=
 match x with
 | .vs k tok l => bR' (Nat.beq k size) (match fbounds (lenR l) (lenR l) lo hi mx with
     | some (a, h, m) => some (.vs k (match mx with
         | some _=>bR' (Nat.beq h m) .clip .no
         | none=>bR' (Nat.beq h (lenR l)) tok .no) (dropR (takeR l h) a))
     | none=>none) none
 | x=>asliceV size x lo hi mx
def felems (k:Nat) (x:AV) (H:Hp):Option (List AV) :=
 match x with
 | .nils=>some []
 | .vs k' _ l=>bR' (Nat.beq k' k) (some l) none
 | x=>elems k x H
def small (bytes:Nat) (l m:List AV):Bool:=Nat.ble bytes 1000000 && (fewR l 1000000 && fewR m 1000000)
def fappend (k bytes:Nat) (s:AV) (xs:List AV) (H:Hp):Option (AV × Hp) :=
 match s with
 | .nils=>bR' (nilR xs) (some (.nils,H)) (bR' (small bytes [] xs) (some (.vs k (.own (lenR H) (lenR xs)) xs,appR H [.tok (lenR xs)])) none)
 | .vs k' tok l =>
  bR' (Nat.beq k' k && small bytes l xs) (bR' (nilR xs) (some (.vs k tok l,H))
   (match tok with
   | .clip=>some (.vs k (.own (lenR H) (lenR l+lenR xs)) (appR l xs),appR H [.tok (lenR l+lenR xs)])
   | .own t e=>match nthR H t with
    | some (.tok e')=>bR' (Nat.beq e' e) (some (.vs k (.own t (e+lenR xs)) (appR l xs),setR H (.tok (e+lenR xs)) t)) none
    | _=>none
   | .no=>none)) none
 | _=>none
def fappE (k bytes:Nat) (s x:AV) (H:Hp):Option (AV × Hp) :=
 match felems k x H with
 | some xs=>fappend k bytes s xs H
 | none=>none
def cellsR (l:List AV):List AV:=@List.rec AV (fun _=>List AV) [] (fun a _ ih=>appR a.cells ih) l
def fcut (n:Nat) (l:List AV):List AV:=bR' (fewR l n) l (takeR l n)
def fappL (ag:Bool) (k bytes:Nat) (s:AV) (xs:List AV) (H:Hp):Option (AV × Hp) :=
 match s with
 | .nils=>bR' (nilR xs) (some (.nils,H)) (bR' (small bytes [] xs) (some (.ws ag k (lenR H) 0 (lenR xs),appR H [.row 0 (cellsR xs)])) none)
 | .ws ag' k' o e len => bR' (bR' ag ag' (!ag') && (Nat.beq k' k && (Nat.ble bytes 1000000 && (Nat.ble len 1000000 && fewR xs 1000000)))) (bR' (nilR xs) (some (.ws ag k o e len, H))
     (match nthR H o with
     | some (.row e' l)=>bR' (Nat.beq e' e && hasR l (Nat.mul len k)) (some (.ws ag k o (Nat.succ e) (Nat.add len (lenR xs)),setR H (.row (Nat.succ e) (appR (fcut (Nat.mul len k) l) (cellsR xs))) o)) none
     | _=>none)) none
 | s=>aappL ag k bytes s xs H
def fappEL (ag:Bool) (k bytes:Nat) (s x:AV) (H:Hp):Option (AV × Hp) :=
 match felems k x H with
 | some xs=>fappL ag k bytes s xs H
 | none=>none
def flen (d:TypeDesc) (x:AV):Option AV :=
 match d with
 | .string=>match x with
  | .str s=>some (.int .i64 (.ofNat (lenR s)))
  | _=>none
 | .slice _=>match x with
  | .nils=>some (.int .i64 (.ofNat 0))
  | .vs _ _ l=>some (.int .i64 (.ofNat (lenR l)))
  | .rs _ _ _ _ len _=>some (.int .i64 (.ofNat len))
  | .ws _ _ _ _ len=>some (.int .i64 (.ofNat len))
  | _=>none
 | d=>alenD d x
def fconv (x:AV) (k:IntKind):Option AV :=
 match x with
 | .int _ n=>some (.int k (fwrap k n))
 | _=>none

inductive FP where
 | mk (f:AL→Option AV)
inductive FR where
 | mk (f:AL→Hp→Option AV)
inductive FH where
 | mk (f:CallF→AL→Hp→Option (AV × Hp))
inductive FO where
 | mv (dst:Option Tmp) (a:FA)
 | p (dst:Option Tmp) (g:FG) (f:FP)
 | r (dst:Option Tmp) (g:FG) (f:FR)
 | h (dst:Option Tmp) (g:FG) (f:FH)
 | lag (dst:Option Tmp) (i:Nat) (f:AL→Option AObj)
 | bad
def cParts (C:Cfg) (n:Nat) (places:List (Nat × Nat)) (l:List (Nat × Operand)):Option (List (Nat × Nat × FA)) :=
 @List.rec (Nat × Operand) (fun _=>Option (List (Nat × Nat × FA))) (some []) (fun p _ ih=>match nthR places p.1,ih with
  | some q,some r=>some ((q.1,q.2,cA C n p.2) :: r)
  | _,_=>none) l
def cBuild (C:Cfg) (n:Nat) (t:TypeId) (parts:List (Nat × Operand)):FP :=
 match zeroT C.P t,C.P.underlying t with
 | some (.agg zero),some (.struct fs) =>
  match fs.toList.mapM fun f=>(szT C.P f.type).map (f.offset,·) with
  | some places=>match cParts C n places parts with
   | some ps=>.mk fun al=>match ffill al ps zero with
    | some l=>some (.agg l)
    | none=>none
   | none=>.mk fun _=>none
  | none=>.mk fun _=>none
 | _,_=>.mk fun al=>abuild C.P t (parts.map fun p=>(p.1,(cA C n p.2).get al))
def cBuildS (C:Cfg) (n:Nat) (t:TypeId) (len:Nat) (parts:List (Nat × Operand)):FP :=
 match elemT C.P t with
 | some e=>match szT C.P e,zeroT C.P e with
  | some size,some z=>match decide (len * size≤16777216) && (z.known && (isR z.cells size && Nat.blt 0 size)) with
   | true=>.mk fun al=>match fsetE al size (parts.map fun p=>(p.1,cA C n p.2)) (List.replicate len z) with
    | some l=>some (.vs size .clip l)
    | none=>none
   | false=>.mk fun _=>none
  | _,_=>.mk fun _=>none
 | none=>.mk fun _=>none
def cPure (C:Cfg) (n:Nat) (op:Op):FP :=
 match op with
 | .binOp op t x y _=>match isIfaceT C.P t with
  | true=>match constIn x y with
   | true=>.mk fun al=>ebinI op ((cA C n x).get al) ((cA C n y).get al)
   | false=>.mk fun _=>none
  | false=>match C.P.underlying t with
   | some (.int _)=>.mk fun al=>fib op ((cA C n x).get al) ((cA C n y).get al)
   | some .string=>.mk fun al=>fsb op ((cA C n x).get al) ((cA C n y).get al)
   | some (.struct _)=>.mk fun al=>aeqBin C.P C.eqok op t ((cA C n x).get al) ((cA C n y).get al)
   | some (.array _ _)=>.mk fun al=>aeqBin C.P C.eqok op t ((cA C n x).get al) ((cA C n y).get al)
   | some d=>.mk fun al=>ebin d op ((cA C n x).get al) ((cA C n y).get al)
   | none=>.mk fun _=>none
 | .build t parts=>cBuild C n t parts.toList
 | .buildSlice t len parts=>cBuildS C n t len parts.toList
 | .fieldAddr t x f=>match fieldT C.P t f with
  | some fd=>match szT C.P fd.type with
   | some sz=>match Nat.blt 0 sz with
    | true=>.mk fun al=>ffield fd.offset ((cA C n x).get al)
    | false=>.mk fun _=>none
   | none=>.mk fun _=>none
  | none=>.mk fun _=>none
 | .field t x f=>match fieldT C.P t f with
  | some fd=>match isAggT C.P fd.type,szT C.P fd.type with
   | some g,some sz=>.mk fun al=>match (cA C n x).get al with
    | .agg cs=>fpart g sz cs fd.offset
    | _=>none
   | _,_=>.mk fun _=>none
  | none=>.mk fun _=>none
 | .indexAddr t x i=>match C.P.underlying t with
  | some (.slice e)=>match szT C.P e with
   | some size=>.mk fun al=>findex size ((cA C n x).get al) ((cA C n i).get al)
   | none=>.mk fun _=>none
  | some (.array len e)=>match szT C.P e with
   | some size=>.mk fun al=>findexA len size ((cA C n x).get al) ((cA C n i).get al)
   | none=>.mk fun _=>none
  | _=>.mk fun _=>none
 | .index t x i=>match C.P.underlying t with
  | some .string=>.mk fun al=>findexStr ((cA C n x).get al) ((cA C n i).get al)
  | some (.array len e)=>match isAggT C.P e,szT C.P e with
   | some g,some size=>.mk fun al=>findexG g len size ((cA C n x).get al) ((cA C n i).get al)
   | _,_=>.mk fun _=>none
  | _=>.mk fun _=>none
 | .slice t x lo hi mx=>match C.P.underlying t with
  | some .string=>.mk fun al=>fsliceS ((cA C n x).get al) (getO (lo.map (cA C n)) al) (getO (hi.map (cA C n)) al) (getO (mx.map (cA C n)) al)
  | some (.slice e)=>match szT C.P e with
   | some size=>.mk fun al=>fsliceV size ((cA C n x).get al) (getO (lo.map (cA C n)) al) (getO (hi.map (cA C n)) al) (getO (mx.map (cA C n)) al)
   | none=>.mk fun _=>none
  | _=>.mk fun _=>none
 | .convert s d x=>match C.P.underlying s,C.P.underlying d with
  | some (.int _),some (.int k)=>.mk fun al=>fconv ((cA C n x).get al) k
  | _,_=>.mk fun al=>aconv C.P C.wrb s d ((cA C n x).get al)
 | .call { callee:=.builtin .len,args,argTypes }=>match args.toList,argTypes.toList with
  | [x],[t]=>match C.P.underlying t with
   | some d=>.mk fun al=>flen d ((cA C n x).get al)
   | none=>.mk fun _=>none
  | _,_=>.mk fun _=>none
 | .extract t i=>.mk fun al=>match (cA C n t).get al with
  | .tuple l=>nthR l i
  | _=>none
 | .pick c a b=>.mk fun al=>apick ((cA C n c).get al) ((cA C n a).get al) ((cA C n b).get al)
 | .unOp op _ x=>.mk fun al=>aun op ((cA C n x).get al)
 | .load t a=>match isAggT C.P t,szT C.P t with
  | some g,some sz=>.mk fun al=>aloadv g sz ((cA C n a).get al)
  | _,_=>.mk fun _=>none
 | .nilCheck x=>.mk fun al=>anil ((cA C n x).get al)
 | op=>.mk fun al=>apure C (evalL C n al) op
def cRead (C:Cfg) (n:Nat) (op:Op):FR :=
 match op with
 | .load t a=>match isAggT C.P t,szT C.P t with
  | some g,some sz=>.mk fun al H=>fload g sz ((cA C n a).get al) H
  | _,_=>.mk fun _ _=>none
 | op=>.mk fun al H=>aread C (evalL C n al) H op
structure Kn where
 fl:FuncId→List AV→Option AV
 ef:FuncId→Option (List AV→Hp→Option (AV × Hp))
def k0:Kn:=⟨fun _ _=>none,fun _=>none⟩
def effK (K:Kn) (f:FuncId) (h:List AV→Hp→Option (AV × Hp)):Kn:=⟨K.fl,fun g=>bR' (Nat.beq g f) (some h) (K.ef g)⟩
def tabK (l:List (Nat × List AV × AV)):Kn:=⟨fun f args=>@List.rec (Nat × List AV × AV) (fun _=>Option AV) none (fun e _ ih=>@Prod.rec Nat (List AV × AV) (fun _=>Option AV) (fun g q=>@Prod.rec (List AV) AV (fun _=>Option AV) (fun as v=>bR' (Nat.beq f g && AV.eqbL args as) (some v) ih) q) e) l,fun _=>none⟩
inductive FC2 where
 | fn (f:FuncId)
 | ext (e:ExtK)
 | sum (g:List AV→Option AV)
 | eff (g:List AV→Hp→Option (AV × Hp))
 | flat (f:FuncId)
 | ro (f:FuncId)
 | no
def cCall (K:Kn) (C:Cfg) (f:FuncId):FC2 :=
 match C.ext f with
 | some e=>.ext e
 | none=>match C.sum f with
  | some g=>.sum g
  | none=>match C.eff f with
   | some g=>match K.ef f with
    | some h=>.eff h
    | none=>.eff g.run
   | none=>match C.user f with
    | true=>match C.flat f with
     | true=>.flat f
     | false=>match C.ro f with
      | true=>.ro f
      | false=>.fn f
    | false=>.no
def FC2.run (K:Kn) (g:FC2) (CL:CallF) (args:List AV) (H:Hp):Option (AV × Hp) :=
 match g with
 | .fn f=>CL f args H
 | .ext e=>extC e args H
 | .sum g=>sumC g args H
 | .eff g=>g args H
 | .flat f=>match K.fl f args with
  | some v=>some (v,H)
  | none=>flatC (CL f) args H
 | .ro f=>roC (CL f) args H
 | .no=>none
def fbox (x:AV) (H:Hp):Option (AV × Hp):=bR' x.known (some (.ptr (lenR H) 0,appR H [.cells x.cells])) none
def cHeap (K:Kn) (C:Cfg) (n:Nat) (op:Op):FH :=
 match op with
 | .store t a x=>match szT C.P t with
  | some sz=>match stC C (.store t a x) with
   | 0=>.mk fun _ al H=>fstore sz ((cA C n a).get al) ((cA C n x).get al) H
   | k+1=>.mk fun _ al H=>bR' (stV (k+1) ((cA C n a).get al)) (fstore sz ((cA C n a).get al) ((cA C n x).get al) H) none
  | none=>.mk fun _ _ _=>none
 | .box _ x=>.mk fun _ al H=>fbox ((cA C n x).get al) H
 | .alloc e=>match zeroT C.P e with
  | some z=>match C.bld e with
   | some u=>.mk fun CL al H=>aheap C CL (evalL C n al) H (.alloc e)
   | none=>.mk fun _ _ H=>fbox z H
  | none=>.mk fun _ _ _=>none
 | .call { callee:=.builtin .append,args,argTypes }=>match args.toList,argTypes.toList with
  | [s,x],[st,xt]=>match elemT C.P st,C.P.underlying xt with
   | some e,some xd=>match appendable xd with
    | false=>.mk fun _ _ _=>none
    | true=>match szT C.P e,bytesT C.P e with
     | some k,some bytes=>match Nat.blt 0 k && zeroOk C.P e k with
      | true=>match linT C e with
       | some ag=>.mk fun _ al H=>fappEL ag k bytes ((cA C n s).get al) ((cA C n x).get al) H
       | none=>.mk fun _ al H=>fappE k bytes ((cA C n s).get al) ((cA C n x).get al) H
      | false=>.mk fun _ _ _=>none
     | _,_=>.mk fun _ _ _=>none
   | _,_=>.mk fun _ _ _=>none
  | _,_=>.mk fun _ _ _=>none
 | .call { callee:=.value (.func f),args,.. }=>.mk fun CL al H=>(cCall K C f).run K CL (getA (cAs C n args.toList) al) H
 | op=>.mk fun CL al H=>aheap C CL (evalL C n al) H op
def cOp (K:Kn) (C:Cfg) (n:Nat) (ops:Array Oper) (fl:Bool) (o:Oper):FO :=
 match o.guard,mvOf o.op with
 | none,some x=>.mv o.dst (cA C n x)
 | _,_=>match (if fl then 0 else kindOf C o.op) with
  | 0=>.p o.dst (cG n ops o) (cPure C n o.op)
  | 1=>.r o.dst (cG n ops o) (cRead C n o.op)
  | _=>.h o.dst (cG n ops o) (cHeap K C n o.op)
def putK (k:AL→Hp→Res) (dst:Option Tmp) (v:AV) (al:AL) (H:Hp):Res:=@Option.rec Tmp (fun _=>Res) (k al H) (fun d=>k ((d,v) :: al) H) dst
def FO.run (o:FO) (CL:CallF) (b:Nat) (k:AL→Hp→Res) (al:AL) (H:Hp):Res :=
 @FO.rec (fun _=>Res) (fun dst a=>putK k dst (a.get al) al H)
  (fun dst g f=>@Option.rec AV (fun _=>Res) none (fun v=>putK k dst v al H) (g.run al (.tuple []) (@FP.rec (fun _=>Option AV) (fun f=>f al) f)))
  (fun dst g f=>@Option.rec AV (fun _=>Res) none (fun v=>putK k dst v al H) (g.run al (.tuple []) (@FR.rec (fun _=>Option AV) (fun f=>f al H) f)))
  (fun dst g f=>@Option.rec (AV × Hp) (fun _=>Res) none (fun r=>@Prod.rec AV Hp (fun _=>Res) (fun v H=>putK k dst v al H) r) (g.run al (.tuple [],H) (@FH.rec (fun _=>Option (AV × Hp)) (fun f=>f CL al H) f)))
  (fun dst i f=>bnd (alag (b+i) (f al) H) fun r=>putK k dst r.1 al r.2)
  none o
def runOs (CL:CallF) (b:Nat) (k:AL→Hp→Res) (l:List FO):AL→Hp→Res:=@List.rec FO (fun _=>AL→Hp→Res) k (fun o _ ih al H=>o.run CL b ih al H) l
def cOps (K:Kn) (C:Cfg) (n:Nat) (ops:Array Oper) (draw:Bool) (l:List Oper):Nat→List FO :=
 @List.rec Oper (fun _=>Nat→List FO) (fun _=>[]) (fun o _ ih i=>cOp K C n ops (draw && floats C ops i) o :: ih (i+1)) l
def cLag (C:Cfg) (n:Nat) (ops:Array Oper) (i:Nat) (o:Oper):FO :=
 match floats C ops i with
 | true=>.bad
 | false=>.lag o.dst (lags C ops i) fun al=>lagV C (evalL C n al) o.op
def cOpsG (K:Kn) (C:Cfg) (n:Nat) (ops:Array Oper) (l:List Oper):Nat→List FO :=
 @List.rec Oper (fun _=>Nat→List FO) (fun _=>[]) (fun o _ ih i=>(match lag C ops i with | true=>cLag C n ops i o | false=>cOp K C n ops (floats C ops i) o) :: ih (i+1)) l

inductive FC where
 | skip
 | reg (fz:List Nat) (ck:List (FA × FA)) (free:Nat) (l:List FO)
 | seq (a:FC) (tr:Option (List Nat)) (b:FC)
 | cond (c:FA) (x y:FC)
 | block (id:Nat) (c:FC)
 | loop (tr:Option (List Nat)) (c:FC)
 | exit (id:Nat)
 | goto (l:Nat)
 | ret
 | bad
def cTrim (kp:Nat→Option (List Nat)) (c:Code):Option (List Nat) :=
 match firstRegion c with
 | none=>none
 | some r=>kp r
def cChk (C:Cfg) (n:Nat) (ops:Array Oper) (draw:Bool):List (FA × FA) :=
 match draw with
 | false=>[]
 | true=>(farL C ops).map fun p=>(cA C n (.tmp p.1),cA C n (.tmp p.2))
def cReg (K:Kn) (C:Cfg) (kp:Nat→Option (List Nat)) (n:Nat) (id:Nat) (ops:Array Oper) (draw:Bool):FC :=
 match draw && !(orderOk ops && farKept C ops) with
 | true=>.bad
 | false=>match lagB C ops draw with
  | true=>.reg (match kp (id+1000000) with | none=>[] | some ts=>ts) (cChk C n ops draw) (lags C ops ops.size) (cOpsG K C n ops ops.toList 0)
  | false=>.reg (match kp (id+1000000) with | none=>[] | some ts=>ts) (cChk C n ops draw) 0 (cOps K C n ops draw ops.toList 0)
def cCode (K:Kn) (C:Cfg) (kp:Nat→Option (List Nat)) (n:Nat) (c:Code):FC :=
 @Code.rec (fun _=>FC) .skip (fun id ops draw=>cReg K C kp n id ops draw) (fun _ b iha ihb=>.seq iha (cTrim kp b) ihb) (fun c _ _ ihx ihy=>.cond (cA C n c) ihx ihy)
  (fun id _ ih=>.block id ih) (fun c ih=>.loop (cTrim kp c) ih) (fun _ _ _ _ _ _=>.bad) (fun id=>.exit id) (fun c ih=>match noGoto c with | true=>ih | false=>.bad) (fun _=>.skip) (fun l=>.goto l) .ret (fun _=>.bad) c
def trimS (al:AL) (l:List Nat):(AL→Res)→Res :=
 @List.rec Nat (fun _=>(AL→Res)→Res) (fun k=>k []) (fun t _ ih k=>@Bx.rec (fun _=>Res) (fun v=>ih fun r=>k ((t,v) :: r)) (lookB al t)) l
def trimK (tr:Option (List Nat)) (al:AL) (k:AL→Res):Res:=@Option.rec (List Nat) (fun _=>Res) (k al) (fun keep=>trimS al keep k) tr
def frzR (n:Nat) (k:AL→Hp→Res) (ts:List Nat):AL→Hp→Res :=
 @List.rec Nat (fun _=>AL→Hp→Res) k (fun t _ ih al H=>frzK (bR' (Nat.blt t n) (lookR al t) (.tuple [])) H fun v H'=>ih ((t,v) :: al) H') ts
def runReg (CL:CallF) (free:Nat) (l:List FO) (k:KL) (al:AL) (H:Hp):Res :=
 @Nat.rec (fun _=>Res) (runOs CL 0 (fun al H=>k .normal al H) l al H) (fun m _=>runOs CL H.length (fun al H=>k .normal al H) l al (H++List.replicate (m+1) .free)) free
abbrev eK (e:AExit) (a:Res) (b:Nat→Res) (c:Nat→Res) (d:Res):Res:=@AExit.rec (fun _=>Res) a b c d e
def loopR (tr:Option (List Nat)) (body:KL→AL→Hp→Res) (fuel:Nat):KL→AL→Hp→Res :=
 @Nat.rec (fun _=>KL→AL→Hp→Res) (fun _ _ _=>none) (fun _ ih k al H=>trimK tr al fun al=>body (fun e al H=>eK e (ih k al H) (fun i=>k (.exit i) al H) (fun l=>k (.goto l) al H) (k .ret al H)) al H) fuel
def ckR (ck:List (FA × FA)) (al:AL) (r:Res):Res :=
 @List.rec (FA × FA) (fun _=>Res) r (fun p _ ih=>bnd (twoQ (p.1.get al) (p.2.get al)) fun _=>ih) ck
def runC (n:Nat) (CL:CallF) (fuel:Nat) (c:FC):KL→AL→Hp→Res :=
 @FC.rec (fun _=>KL→AL→Hp→Res) (fun k al H=>k .normal al H)
  (fun fz ck free l k al H=>frzR n (fun al H=>ckR ck al (runReg CL free l k al H)) fz al H)
  (fun _ tr _ iha ihb k al H=>iha (fun e al H=>eK e (trimK tr al fun al=>ihb k al H) (fun i=>k (.exit i) al H) (fun l=>k (.goto l) al H) (k .ret al H)) al H)
  (fun c _ _ ihx ihy k al H=>match c.get al with | .bool t=>bR' t (ihx k al H) (ihy k al H) | _=>none)
  (fun id _ ih k al H=>ih (fun e al H=>eK e (k .normal al H) (fun i=>bR' (Nat.beq i id) (k .normal al H) (k (.exit i) al H)) (fun l=>k (.goto l) al H) (k .ret al H)) al H)
  (fun tr _ ih k al H=>loopR tr ih fuel k al H)
  (fun id k al H=>k (.exit id) al H) (fun l k al H=>k (.goto l) al H) (fun k al H=>k .ret al H) (fun _ _ _=>none) c
inductive FF where
 | mk (n:Nat) (pure:Bool) (res:List (FA × Option (Bool × Nat))) (c:FC)
 | bad
def cRes (C:Cfg) (n:Nat) (r:ResultVar):Option (FA × Option (Bool × Nat)) :=
 match r with
 | .tmp t=>some (cA C n (.tmp t),none)
 | .cell a t=>match isAggT C.P t,szT C.P t with
  | some g,some sz=>some (cA C n (.tmp a),some (g,sz))
  | _,_=>none
def cFun (K:Kn) (C:Cfg) (f:FuncId):FF :=
 match C.P.funcs[f]? with
 | none=>.bad
 | some fn=>match codeOf C f fn with
  | none=>.bad
  | some c=>match fn.results.toList.mapM (cRes C fn.ntmps) with
   | some rs=>.mk fn.ntmps (C.pure f) rs (cCode K C (C.keep f) fn.ntmps c)
   | none=>.bad
def resR (H:Hp) (al:AL) (k:List AV→Res) (l:List (FA × Option (Bool × Nat))):List AV→Res :=
 @List.rec (FA × Option (Bool × Nat)) (fun _=>List AV→Res) k (fun r _ ih acc=>match r with
  | (a,none)=>ih (appR acc [a.get al])
  | (a,some (g,sz))=>bnd (fload g sz (a.get al) H) fun v=>ih (appR acc [v])) l
def oneR (l:List AV):AV:=match l with
 | [v]=>v
 | l=>.tuple l
def leaveR (pure:Bool) (H0:Hp) (v:AV) (H:Hp):Res:=bR' pure (match eqbH (H.take H0.length) H0 with
 | true=>match closeV H H0.length 9 v with
  | some v'=>some (v',H0)
  | none=>none
 | false=>none) (some (v,H))
def runF (CL:CallF) (fuel:Nat) (g:FF) (args:List AV) (H:Hp):Res :=
 match g with
 | .mk n pu rs c=>bR' (Nat.ble args.length n) (runC n CL fuel c (fun e al H1=>eK e (resR H1 al (fun l=>leaveR pu H (oneR l) H1) rs []) (fun _=>none) (fun _=>none) (resR H1 al (fun l=>leaveR pu H (oneR l) H1) rs [])) (argsL 0 args) H) none
 | .bad=>none
def callR (K:Kn) (C:Cfg) (fuel:Nat):Nat→CallF:=fun d=>@Nat.rec (fun _=>CallF) (fun _ _ _=>none) (fun _ ih f args H=>runF ih fuel (cFun K C f) args H) d
end
end Go.Am
