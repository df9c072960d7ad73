/- THE ABSTRACT MACHINE -/
import Derived.Test.YtnaneekpogohaaaGreatDoorHmSx
open List renaming replicate->zF
open Nat renaming beq->zA,blt->zB,ble->zC,mul->zD,add->zE,succ->zG
namespace Go.Am
noncomputable section
abbrev YA {α:Type}(c:Bool)(x y:α):α:=@Bool.rec (fun _=>α) y x c
def Fc {α:Type}(l:List α):Nat->Option α:=@List.rec α (fun _=>Nat->Option α) (fun _=>none) (fun a _ g i=>@Nat.rec (fun _=>Option α) (some a) (fun m _=>g m) i) l
def Mj {α:Type}(l:List α):Nat->Bool:=@List.rec α (fun _=>Nat->Bool) (fun i=>zA i 0) (fun _ _ g i=>@Nat.rec (fun _=>Bool) true (fun m _=>g m) i) l
def AD {α:Type}(l:List α):Nat->Bool:=@List.rec α (fun _=>Nat->Bool) (fun _=>true) (fun _ _ g i=>@Nat.rec (fun _=>Bool) false (fun m _=>g m) i) l
def isR {α:Type}(l:List α):Nat->Bool:=@List.rec α (fun _=>Nat->Bool) (fun i=>zA i 0) (fun _ _ g i=>@Nat.rec (fun _=>Bool) false (fun m _=>g m) i) l
def WW {α:Type}(l:List α):Nat:=@List.rec α (fun _=>Nat->Nat) (fun n=>n) (fun _ _ g n=>g (zG n)) l 0
def J8 {α:Type}(l m:List α):List α:=@List.rec α (fun _=>List α) m (fun a _ g=>a::g) l
def HU {α:Type}(l:List α):Nat->List α:=@List.rec α (fun _=>Nat->List α) (fun _=>[]) (fun a _ g i=>@Nat.rec (fun _=>List α) [] (fun m _=>a::g m) i) l
def N5 {α:Type}(l:List α):Nat->List α:=@List.rec α (fun _=>Nat->List α) (fun _=>[]) (fun a l g i=>@Nat.rec (fun _=>List α) (a::l) (fun m _=>g m) i) l
def AP {α:Type}(l:List α)(x:α):Nat->List α:=@List.rec α (fun _=>Nat->List α) (fun _=>[]) (fun a l g i=>@Nat.rec (fun _=>List α) (x::l) (fun m _=>a::g m) i) l
def ZgM (l:List AV)(g:List AV):Nat->List AV:=@List.rec AV (fun _=>Nat->List AV) (fun _=>g) (fun a l j i=>@Nat.rec (fun _=>List AV) (J8 g (N5 (a::l) (WW g))) (fun m _=>a::j m) i) l
def Mr {α:Type}(l:List α):Bool:=@List.rec α (fun _=>Bool) true (fun _ _ _=>false) l
inductive Bx where
 |mk (v:AV)
def Zie (g:AL):Nat->Bx:=@List.rec (Nat×AV) (fun _=>Nat->Bx) (fun _=>.mk .undef) (fun p _ j t=>@Prod.rec Nat AV (fun _=>Bx) (fun i v=>YA (zA i t) (.mk v) (j t)) p) g
def HI (g:AL)(t:Nat):AV:=@Bx.rec (fun _=>AV) (fun v=>v) (Zie g t)
inductive FA where
 |slot (t:Nat)
 |val (v:AV)
def FA.get (a:FA)(g:AL):AV:=@FA.rec (fun _=>AV) (fun t=>HI g t) (fun v=>v) a
def cA (C:Cfg)(n:Nat)(x:Operand):FA :=
 match x with
 |.tmp t=>YA (zB t n) (.slot t) (.val (.tuple []))
 |x=>.val (eval C [] x)
def cAs (C:Cfg)(n:Nat)(l:List Operand):List FA:=@List.rec Operand (fun _=>List FA) [] (fun x _ g=>cA C n x::g) l
def ZqR (l:List FA)(g:AL):List AV:=@List.rec FA (fun _=>List AV) [] (fun x _ j=>x.get g::j) l
def Pv (x:Option FA)(g:AL):Option AV:=@Option.rec FA (fun _=>Option AV) none (fun x=>some (x.get g)) x
inductive FG where
 |no
 |els
 |gd (d:Nat) (want:Bool)
def cG (n:Nat)(ops:Array Oper)(o:Oper):FG :=
 match o.guard with
 |none=>.no
 |some (j,want)=>match (match ops[j]? with|some g=>g.dst|none=>none) with
  |none=>.els
  |some d=>bif zB d n then .gd d want else .els
def FG.run {α:Type}(g:FG)(u:AL)(els:α)(x:Option α):Option α :=
 @FG.rec (fun _=>Option α) x (some els) (fun d j=>Z8 (HI u d) j els x) g
def ikN (k:IntKind):Nat:=@IntKind.rec (fun _=>Nat) 0 1 2 3 4 5 6 7 k
def Zi9 (k:IntKind):Nat:=@IntKind.rec (fun _=>Nat) 128 32768 2147483648 9223372036854775808 256 65536 4294967296 18446744073709551616 k
def Zlj (k:IntKind)(z:Int):Int:=@Int.rec (fun _=>Int) (fun m=>YA (zB m (Zi9 k)) (.ofNat m) (k.wrap (.ofNat m))) (fun m=>k.wrap (.negSucc m)) z
def EV (a b:AV)(f:IntKind->Int->Int->Option AV):Option AV :=
 match a,b with
 |.int k x,.int k' y=>YA (zA (ikN k) (ikN k')) (f k x y) none
 |_,_=>none
def ilt (x y:Int):Bool:=@Int.rec (fun _=>Bool) (fun m=>@Int.rec (fun _=>Bool) (fun n=>zB m n) (fun n=>false) y) (fun m=>@Int.rec (fun _=>Bool) (fun n=>true) (fun n=>zB n m) y) x
def ile (x y:Int):Bool:=@Int.rec (fun _=>Bool) (fun m=>@Int.rec (fun _=>Bool) (fun n=>zC m n) (fun n=>false) y) (fun m=>@Int.rec (fun _=>Bool) (fun n=>true) (fun n=>zC n m) y) x
def ieq (x y:Int):Bool:=@Int.rec (fun _=>Bool) (fun m=>@Int.rec (fun _=>Bool) (fun n=>zA m n) (fun n=>false) y) (fun m=>@Int.rec (fun _=>Bool) (fun n=>false) (fun n=>zA n m) y) x
def ZzH (x y:Int):Int:=@Int.rec (fun _=>Int) (fun m=>@Int.rec (fun _=>Int) (fun n=>.ofNat (zE m n)) (fun n=>x+y) y) (fun m=>x+y) x
def ZzM (x y:Int):Int:=@Int.rec (fun _=>Int) (fun m=>@Int.rec (fun _=>Int) (fun n=>YA (zC n m) (.ofNat (Nat.sub m n)) (x-y)) (fun n=>x-y) y) (fun m=>x-y) x
def fib (op:BinOp)(a b:AV):Option AV :=
 match op with
 |.add=>EV a b fun k x y=>some (.int k (Zlj k (ZzH x y)))
 |.sub=>EV a b fun k x y=>some (.int k (Zlj k (ZzM x y)))
 |.eql=>EV a b fun k x y=>some (.bool (ieq x y))
 |.neq=>EV a b fun k x y=>some (.bool (!ieq x y))
 |.lss=>EV a b fun k x y=>some (.bool (ilt x y))
 |.leq=>EV a b fun k x y=>some (.bool (ile x y))
 |.gtr=>EV a b fun k x y=>some (.bool (ilt y x))
 |.geq=>EV a b fun k x y=>some (.bool (ile y x))
 |op=>Z5 op a b
def eqU (a b:UInt8):Bool:=zA a.toNat b.toNat
def eqS (l:List UInt8):List UInt8->Bool:=@List.rec UInt8 (fun _=>List UInt8->Bool) (fun m=>Mr m) (fun a _ g m=>@List.rec UInt8 (fun _=>Bool) false (fun b m _=>YA (eqU a b) (g m) false) m) l
def fsb (op:BinOp)(x y:AV):Option AV :=
 match op,x,y with
 |.add,.str a,.str b=>YA (AD a 1000000&&AD b 1000000) (some (.str (J8 a b))) none
 |.eql,.str a,.str b=>some (.bool (eqS a b))
 |.neq,.str a,.str b=>some (.bool (!eqS a b))
 |op,x,y=>Xb op x y
def Hm (g:Bool)(sz:Nat)(cells:List AV)(off:Nat):Option AV :=
 YA g (YA (Mj cells (off+sz)) (some (.agg (HU (N5 cells off) sz))) none) (Fc cells off)
def Zes (g:Bool)(sz:Nat)(a:AV)(H:Hp):Option AV :=
 match a with
 |.ptr o off=>match Fc H o with
  |some (.cells l)=>Hm g sz l off
  |_=>none
 |.vp cells=>Hm g sz cells 0
 |.wp o e off=>match Fc H o with
  |some (.row e' l)=>YA (zA e' e) (Hm g sz l off) none
  |_=>none
 |_=>none
def ZjB (v:AV)(sz:Nat)(l:List AV)(off:Nat):Bool:=v.known&&(isR v.cells sz&&Mj l (off+sz))
def ID (sz:Nat)(a v:AV)(H:Hp):Option (AV×Hp) :=
 match a with
 |.ptr o off=>match Fc H o with
  |some (.cells l)=>YA (ZjB v sz l off) (some (.tuple [],AP H (.cells (ZgM l v.cells off)) o)) none
  |_=>none
 |.wp o e off=>match Fc H o with
  |some (.row e' l)=>YA (zA e' e&&ZjB v sz l off) (some (.tuple [],AP H (.row e (ZgM l v.cells off)) o)) none
  |_=>none
 |_=>none
def ixR {α:Type}(l:List α)(i:Int)(f:α->AV):Option AV:=@Int.rec (fun _=>Option AV) (fun m=>@Option.rec α (fun _=>Option AV) none (fun e=>some (f e)) (Fc l m)) (fun _=>none) i
def ZmS (i:Int)(f:Nat->Option AV):Option AV:=@Int.rec (fun _=>Option AV) f (fun _=>none) i
def ZhV (size:Nat)(x i:AV):Option AV :=
 match x,i with
 |.vs k _ l,.int _ n=>YA (zA k size) (ixR l n fun e=>.vp e.cells) none
 |.rs _ _ o off len _,.int _ n=>ZmS n fun m=>YA (zB m len) (some (.ptr o (zE off (zD m size)))) none
 |.ws _ _ o e len,.int _ n=>ZmS n fun m=>YA (zB m len) (some (.wp o e (zD m size))) none
 |_,_=>none
def Zdx (off:Nat)(a:AV):Option AV :=
 match a with
 |.ptr o x=>some (.ptr o (zE x off))
 |.wp o e x=>some (.wp o e (zE x off))
 |.vp cells=>YA (Mj cells off) (some (.vp (N5 cells off))) none
 |_=>none
def Zep (len size:Nat)(x i:AV):Option AV :=
 match i with
 |.int _ n=>ZmS n fun m=>YA (zB m len) (Zdx (zD m size) x) none
 |_=>none
def Zeq (g:Bool)(len size:Nat)(x i:AV):Option AV :=
 match x,i with
 |.agg cs,.int _ n=>ZmS n fun m=>YA (zB m len) (Hm g size cs (zD m size)) none
 |_,_=>none
def Hk (x i:AV):Option AV :=
 match x,i with
 |.str s,.int _ n=>ixR s n fun b=>.int .u8 (.ofNat b.toNat)
 |_,_=>none
def Zlh (g:AL)(l:List (Nat×Nat×FA)):List AV->Option (List AV) :=
 @List.rec (Nat×Nat×FA) (fun _=>List AV->Option (List AV)) (fun c=>some c) (fun p _ j c=>@Prod.rec Nat (Nat×FA) (fun _=>Option (List AV)) (fun off q=>@Prod.rec Nat FA (fun _=>Option (List AV)) (fun sz a=>YA (ZjB (a.get g) sz c off) (j (ZgM c (a.get g).cells off)) none) q) p) l
def Zli (g:AL)(size:Nat)(l:List (Nat×FA)):List AV->Option (List AV) :=
 @List.rec (Nat×FA) (fun _=>List AV->Option (List AV)) (fun c=>some c) (fun p _ j c=>@Prod.rec Nat FA (fun _=>Option (List AV)) (fun i a=>YA ((a.get g).known&&(isR (a.get g).cells size&&Mj c (i+1))) (j (AP c (a.get g) i)) none) p) l
def Zdw (x:AV)(y:Nat):Option Nat :=
 match x with
 |.int _ n=>@Int.rec (fun _=>Option Nat) (fun m=>YA (zC m y) (some m) none) (fun _=>none) n
 |_=>none
def IB (len cap:Nat)(lo hi mx:Option AV):Option (Nat×Nat×Nat) :=
 match (match mx with|some v=>Zdw v cap|none=>some cap) with
 |none=>none
 |some m=>match (match hi,mx with|some v,_=>Zdw v m|none,none=>some len|none,some _=>none) with
  |none=>none
  |some h=>match (match lo with|some v=>Zdw v h|none=>some 0) with
   |none=>none
   |some l=>some (l,h,m)
def Zjr (x:AV)(lo hi mx:Option AV):Option AV :=
 match x,mx with
 |.str s,none=>match IB (WW s) (WW s) lo hi none with
  |some (l,h,_)=>some (.str (N5 (HU s h) l))
  |none=>none
 |_,_=>none
def Zeu (size:Nat)(x:AV)(lo hi mx:Option AV):Option AV :=
 match x with
 |.vs k tok l=>YA (zA k size) (match IB (WW l) (WW l) lo hi mx with
  |some (a,h,m)=>some (.vs k (match mx with
   |some _=>YA (zA h m) .clip .no
   |none=>YA (zA h (WW l)) tok .no) (N5 (HU l h) a))
  |none=>none) none
 |x=>Yk size x lo hi mx
def ZhQ (k:Nat)(x:AV)(H:Hp):Option (List AV) :=
 match x with
 |.nils=>some []
 |.vs k' _ l=>YA (zA k' k) (some l) none
 |x=>elems k x H
def ZiD (bytes:Nat)(l m:List AV):Bool:=zC bytes 1000000&&(AD l 1000000&&AD m 1000000)
def Zjn (k bytes:Nat)(s:AV)(xs:List AV)(H:Hp):Option (AV×Hp) :=
 match s with
 |.nils=>YA (Mr xs) (some (.nils,H)) (YA (ZiD bytes [] xs) (some (.vs k (.own (WW H) (WW xs)) xs,J8 H [.tok (WW xs)])) none)
 |.vs k' tok l =>
  YA (zA k' k&&ZiD bytes l xs) (YA (Mr xs) (some (.vs k tok l,H))
   (match tok with
   |.clip=>some (.vs k (.own (WW H) (WW l+WW xs)) (J8 l xs),J8 H [.tok (WW l+WW xs)])
   |.own t e=>match Fc H t with
    |some (.tok e')=>YA (zA e' e) (some (.vs k (.own t (e+WW xs)) (J8 l xs),AP H (.tok (e+WW xs)) t)) none
    |_=>none
   |.no=>none)) none
 |_=>none
def Zlf (k bytes:Nat)(s x:AV)(H:Hp):Option (AV×Hp) :=
 match ZhQ k x H with
 |some xs=>Zjn k bytes s xs H
 |none=>none
def Zd4 (l:List AV):List AV:=@List.rec AV (fun _=>List AV) [] (fun a _ g=>J8 a.cells g) l
def ZqB (n:Nat)(l:List AV):List AV:=YA (AD l n) l (HU l n)
def Zqy (ag:Bool)(k bytes:Nat)(s:AV)(xs:List AV)(H:Hp):Option (AV×Hp) :=
 match s with
 |.nils=>YA (Mr xs) (some (.nils,H)) (YA (ZiD bytes [] xs) (some (.ws ag k (WW H) 0 (WW xs),J8 H [.row 0 (Zd4 xs)])) none)
 |.ws ag' k' o e len=>YA (YA ag ag' (!ag')&&(zA k' k&&(zC bytes 1000000&&(zC len 1000000&&AD xs 1000000)))) (YA (Mr xs) (some (.ws ag k o e len,H))
  (match Fc H o with
  |some (.row e' l)=>YA (zA e' e&&Mj l (zD len k)) (some (.ws ag k o (zG e) (zE len (WW xs)),AP H (.row (zG e) (J8 (ZqB (zD len k) l) (Zd4 xs))) o)) none
  |_=>none)) none
 |s=>VH ag k bytes s xs H
def ZhO (ag:Bool)(k bytes:Nat)(s x:AV)(H:Hp):Option (AV×Hp) :=
 match ZhQ k x H with
 |some xs=>Zqy ag k bytes s xs H
 |none=>none
def ZqJ (d:TypeDesc)(x:AV):Option AV :=
 match d with
 |.string=>match x with
  |.str s=>some (.int .i64 (.ofNat (WW s)))
  |_=>none
 |.slice _=>match x with
  |.nils=>some (.int .i64 (.ofNat 0))
  |.vs _ _ l=>some (.int .i64 (.ofNat (WW l)))
  |.rs _ _ _ _ len _=>some (.int .i64 (.ofNat len))
  |.ws _ _ _ _ len=>some (.int .i64 (.ofNat len))
  |_=>none
 |d=>Zl d x
def Zlg (x:AV)(k:IntKind):Option AV :=
 match x with
 |.int _ n=>some (.int k (Zlj k n))
 |_=>none
inductive FP where
 |mk (f:AL->Option AV)
inductive FR where
 |mk (f:AL->Hp->Option AV)
inductive FH where
 |mk (f:Zw->AL->Hp->Option (AV×Hp))
inductive FO where
 |mv (dst:Option Tmp) (a:FA)
 |p (dst:Option Tmp) (g:FG) (f:FP)
 |r (dst:Option Tmp) (g:FG) (f:FR)
 |h (dst:Option Tmp) (g:FG) (f:FH)
 |lag (dst:Option Tmp) (i:Nat) (f:AL->Option AObj)
 |bad
def ZlK (C:Cfg)(n:Nat)(g:List (Nat×Nat))(l:List (Nat×Operand)):Option (List (Nat×Nat×FA)) :=
 @List.rec (Nat×Operand) (fun _=>Option (List (Nat×Nat×FA))) (some []) (fun p _ j=>match Fc g p.1,j with
  |some q,some r=>some ((q.1,q.2,cA C n p.2)::r)
  |_,_=>none) l
def ZlH (C:Cfg)(n:Nat)(t:TypeId)(parts:List (Nat×Operand)):FP :=
 match VT C.P t,C.P.underlying t with
 |some (.agg zero),some (.struct fs) =>
  match fs.toList.mapM fun f=>(YB C.P f.type).map (f.offset,·) with
  |some g=>match ZlK C n g parts with
   |some u=>.mk fun j=>match Zlh j u zero with
    |some l=>some (.agg l)
    |none=>none
   |none=>.mk fun _=>none
  |none=>.mk fun _=>none
 |_,_=>.mk fun j=>Es C.P t (parts.map fun p=>(p.1,(cA C n p.2).get j))
def Zjg (C:Cfg)(n:Nat)(t:TypeId)(len:Nat)(parts:List (Nat×Operand)):FP :=
 match CZ C.P t with
 |some e=>match YB C.P e,VT C.P e with
  |some size,some z=>match decide (len*size<=16777216)&&(z.known&&(isR z.cells size&&zB 0 size)) with
   |true=>.mk fun g=>match Zli g size (parts.map fun p=>(p.1,cA C n p.2)) (zF len z) with
    |some l=>some (.vs size .clip l)
    |none=>none
   |false=>.mk fun _=>none
  |_,_=>.mk fun _=>none
 |none=>.mk fun _=>none
def Zq5 (C:Cfg)(n:Nat)(op:Op):FP :=
 match op with
 |.binOp op t x y _=>match Za8 C.P t with
  |true=>match Iw x y with
   |true=>.mk fun j=>OU op ((cA C n x).get j) ((cA C n y).get j)
   |false=>.mk fun _=>none
  |false=>match C.P.underlying t with
   |some (.int _)=>.mk fun j=>fib op ((cA C n x).get j) ((cA C n y).get j)
   |some .string=>.mk fun j=>fsb op ((cA C n x).get j) ((cA C n y).get j)
   |some (.struct _)=>.mk fun j=>JL C.P C.eqok op t ((cA C n x).get j) ((cA C n y).get j)
   |some (.array _ _)=>.mk fun j=>JL C.P C.eqok op t ((cA C n x).get j) ((cA C n y).get j)
   |some d=>.mk fun j=>Ys d op ((cA C n x).get j) ((cA C n y).get j)
   |none=>.mk fun _=>none
 |.build t parts=>ZlH C n t parts.toList
 |.buildSlice t len parts=>Zjg C n t len parts.toList
 |.fieldAddr t x f=>match Nx C.P t f with
  |some u=>match YB C.P u.type with
   |some sz=>match zB 0 sz with
    |true=>.mk fun j=>Zdx u.offset ((cA C n x).get j)
    |false=>.mk fun _=>none
   |none=>.mk fun _=>none
  |none=>.mk fun _=>none
 |.field t x f=>match Nx C.P t f with
  |some u=>match YN C.P u.type,YB C.P u.type with
   |some g,some sz=>.mk fun j=>match (cA C n x).get j with
    |.agg cs=>Hm g sz cs u.offset
    |_=>none
   |_,_=>.mk fun _=>none
  |none=>.mk fun _=>none
 |.indexAddr t x i=>match C.P.underlying t with
  |some (.slice e)=>match YB C.P e with
   |some size=>.mk fun j=>ZhV size ((cA C n x).get j) ((cA C n i).get j)
   |none=>.mk fun _=>none
  |some (.array len e)=>match YB C.P e with
   |some size=>.mk fun j=>Zep len size ((cA C n x).get j) ((cA C n i).get j)
   |none=>.mk fun _=>none
  |_=>.mk fun _=>none
 |.index t x i=>match C.P.underlying t with
  |some .string=>.mk fun j=>Hk ((cA C n x).get j) ((cA C n i).get j)
  |some (.array len e)=>match YN C.P e,YB C.P e with
   |some g,some size=>.mk fun j=>Zeq g len size ((cA C n x).get j) ((cA C n i).get j)
   |_,_=>.mk fun _=>none
  |_=>.mk fun _=>none
 |.slice t x lo hi mx=>match C.P.underlying t with
  |some .string=>.mk fun j=>Zjr ((cA C n x).get j) (Pv (lo.map (cA C n)) j) (Pv (hi.map (cA C n)) j) (Pv (mx.map (cA C n)) j)
  |some (.slice e)=>match YB C.P e with
   |some size=>.mk fun j=>Zeu size ((cA C n x).get j) (Pv (lo.map (cA C n)) j) (Pv (hi.map (cA C n)) j) (Pv (mx.map (cA C n)) j)
   |none=>.mk fun _=>none
  |_=>.mk fun _=>none
 |.convert s d x=>match C.P.underlying s,C.P.underlying d with
  |some (.int _),some (.int k)=>.mk fun j=>Zlg ((cA C n x).get j) k
  |_,_=>.mk fun j=>CN C.P C.wrb s d ((cA C n x).get j)
 |.call { callee:=.builtin .len,args,argTypes }=>match args.toList,argTypes.toList with
  |[x],[t]=>match C.P.underlying t with
   |some d=>.mk fun j=>ZqJ d ((cA C n x).get j)
   |none=>.mk fun _=>none
  |_,_=>.mk fun _=>none
 |.extract t i=>.mk fun j=>match (cA C n t).get j with
  |.tuple l=>Fc l i
  |_=>none
 |.pick c a b=>.mk fun j=>Zj ((cA C n c).get j) ((cA C n a).get j) ((cA C n b).get j)
 |.unOp op _ x=>.mk fun j=>Xv op ((cA C n x).get j)
 |.load t a=>match YN C.P t,YB C.P t with
  |some g,some sz=>.mk fun j=>XE g sz ((cA C n a).get j)
  |_,_=>.mk fun _=>none
 |.nilCheck x=>.mk fun j=>Zu ((cA C n x).get j)
 |op=>.mk fun j=>ZK C (Yx C n j) op
def Zq6 (C:Cfg)(n:Nat)(op:Op):FR :=
 match op with
 |.load t a=>match YN C.P t,YB C.P t with
  |some g,some sz=>.mk fun j H=>Zes g sz ((cA C n a).get j) H
  |_,_=>.mk fun _ _=>none
 |op=>.mk fun j H=>Gk C (Yx C n j) H op
structure Kn where
 fl:FuncId->List AV->Option AV
 ef:FuncId->Option (List AV->Hp->Option (AV×Hp))
def k0:Kn:=⟨fun _ _=>none,fun _=>none⟩
inductive FC2 where
 |fn (f:FuncId)
 |ext (e:ExtK)
 |sum (g:List AV->Option AV)
 |eff (g:List AV->Hp->Option (AV×Hp))
 |flat (f:FuncId)
 |ro (f:FuncId)
 |no
def Zld (K:Kn)(C:Cfg)(f:FuncId):FC2 :=
 match C.ext f with
 |some e=>.ext e
 |none=>match C.sum f with
  |some g=>.sum g
  |none=>match C.eff f with
   |some g=>match K.ef f with
    |some h=>.eff h
    |none=>.eff g.run
   |none=>match C.user f with
    |true=>match C.flat f with
     |true=>.flat f
     |false=>match C.ro f with
      |true=>.ro f
      |false=>.fn f
    |false=>.no
def FC2.run (K:Kn)(g:FC2)(CL:Zw)(args:List AV)(H:Hp):Option (AV×Hp) :=
 match g with
 |.fn f=>CL f args H
 |.ext e=>AC e args H
 |.sum g=>I1 g args H
 |.eff g=>g args H
 |.flat f=>match K.fl f args with
  |some v=>some (v,H)
  |none=>Ze (CL f) args H
 |.ro f=>QW (CL f) args H
 |.no=>none
def Zml (x:AV)(H:Hp):Option (AV×Hp):=YA x.known (some (.ptr (WW H) 0,J8 H [.cells x.cells])) none
def Zq3 (K:Kn)(C:Cfg)(n:Nat)(op:Op):FH :=
 match op with
 |.store t a x=>match YB C.P t with
  |some sz=>match stC C (.store t a x) with
   |0=>.mk fun _ g H=>ID sz ((cA C n a).get g) ((cA C n x).get g) H
   |k+1=>.mk fun _ g H=>YA (stV (k+1) ((cA C n a).get g)) (ID sz ((cA C n a).get g) ((cA C n x).get g) H) none
  |none=>.mk fun _ _ _=>none
 |.box _ x=>.mk fun _ g H=>Zml ((cA C n x).get g) H
 |.alloc e=>match VT C.P e with
  |some z=>match C.bld e with
   |some u=>.mk fun CL g H=>ZC C CL (Yx C n g) H (.alloc e)
   |none=>.mk fun _ _ H=>Zml z H
  |none=>.mk fun _ _ _=>none
 |.call { callee:=.builtin .append,args,argTypes }=>match args.toList,argTypes.toList with
  |[s,x],[st,xt]=>match CZ C.P st,C.P.underlying xt with
   |some e,some xd=>match YY xd with
    |false=>.mk fun _ _ _=>none
    |true=>match YB C.P e,JM C.P e with
     |some k,some bytes=>match zB 0 k&&Znz C.P e k with
      |true=>match ZzS C e with
       |some ag=>.mk fun _ g H=>ZhO ag k bytes ((cA C n s).get g) ((cA C n x).get g) H
       |none=>.mk fun _ g H=>Zlf k bytes ((cA C n s).get g) ((cA C n x).get g) H
      |false=>.mk fun _ _ _=>none
     |_,_=>.mk fun _ _ _=>none
   |_,_=>.mk fun _ _ _=>none
  |_,_=>.mk fun _ _ _=>none
 |.call { callee:=.value (.func f),args,.. }=>.mk fun CL g H=>(Zld K C f).run K CL (ZqR (cAs C n args.toList) g) H
 |op=>.mk fun CL g H=>ZC C CL (Yx C n g) H op
def cOp (K:Kn)(C:Cfg)(n:Nat)(ops:Array Oper)(fl:Bool)(o:Oper):FO :=
 match o.guard,Zrg o.op with
 |none,some x=>.mv o.dst (cA C n x)
 |_,_=>match (if fl then 0 else Xp C o.op) with
  |0=>.p o.dst (cG n ops o) (Zq5 C n o.op)
  |1=>.r o.dst (cG n ops o) (Zq6 C n o.op)
  |_=>.h o.dst (cG n ops o) (Zq3 K C n o.op)
def Sr (k:AL->Hp->Z4)(g:Option Tmp)(v:AV)(j:AL)(H:Hp):Z4:=@Option.rec Tmp (fun _=>Z4) (k j H) (fun d=>k ((d,v)::j) H) g
def FO.run (o:FO)(CL:Zw)(b:Nat)(k:AL->Hp->Z4)(u:AL)(H:Hp):Z4 :=
 @FO.rec (fun _=>Z4) (fun j a=>Sr k j (a.get u) u H)
  (fun j g f=>@Option.rec AV (fun _=>Z4) none (fun v=>Sr k j v u H) (g.run u (.tuple []) (@FP.rec (fun _=>Option AV) (fun f=>f u) f)))
  (fun j g f=>@Option.rec AV (fun _=>Z4) none (fun v=>Sr k j v u H) (g.run u (.tuple []) (@FR.rec (fun _=>Option AV) (fun f=>f u H) f)))
  (fun j g f=>@Option.rec (AV×Hp) (fun _=>Z4) none (fun r=>@Prod.rec AV Hp (fun _=>Z4) (fun v H=>Sr k j v u H) r) (g.run u (.tuple [],H) (@FH.rec (fun _=>Option (AV×Hp)) (fun f=>f CL u H) f)))
  (fun j i f=>Z0 (KV (b+i) (f u) H) fun r=>Sr k j r.1 u r.2)
  none o
def Zar (CL:Zw)(b:Nat)(k:AL->Hp->Z4)(l:List FO):AL->Hp->Z4:=@List.rec FO (fun _=>AL->Hp->Z4) k (fun o _ j g H=>o.run CL b j g H) l
def Zq4 (K:Kn)(C:Cfg)(n:Nat)(ops:Array Oper)(draw:Bool)(l:List Oper):Nat->List FO :=
 @List.rec Oper (fun _=>Nat->List FO) (fun _=>[]) (fun o _ g i=>cOp K C n ops (draw&&YF C ops i) o::g (i+1)) l
def Zvy (C:Cfg)(n:Nat)(ops:Array Oper)(i:Nat)(o:Oper):FO :=
 match YF C ops i with
 |true=>.bad
 |false=>.lag o.dst (XI C ops i) fun g=>T0 C (Yx C n g) o.op
def Zhy (K:Kn)(C:Cfg)(n:Nat)(ops:Array Oper)(l:List Oper):Nat->List FO :=
 @List.rec Oper (fun _=>Nat->List FO) (fun _=>[]) (fun o _ g i=>(match lag C ops i with|true=>Zvy C n ops i o|false=>cOp K C n ops (YF C ops i) o)::g (i+1)) l
inductive FC where
 |skip
 |reg (fz:List Nat) (ck:List (FA×FA)) (free:Nat) (l:List FO)
 |seq (a:FC) (tr:Option (List Nat)) (b:FC)
 |cond (c:FA) (x y:FC)
 |block (id:Nat) (c:FC)
 |loop (tr:Option (List Nat)) (c:FC)
 |exit (id:Nat)
 |goto (l:Nat)
 |ret
 |bad
def N0 (kp:Nat->Option (List Nat))(c:Code):Option (List Nat) :=
 match Yp c with
 |none=>none
 |some r=>kp r
def ZlI (C:Cfg)(n:Nat)(ops:Array Oper)(draw:Bool):List (FA×FA) :=
 match draw with
 |false=>[]
 |true=>(Po C ops).map fun p=>(cA C n (.tmp p.1),cA C n (.tmp p.2))
def ZvC (K:Kn)(C:Cfg)(kp:Nat->Option (List Nat))(n:Nat)(id:Nat)(ops:Array Oper)(draw:Bool):FC :=
 match draw&&!(W7 ops&&K2 C ops) with
 |true=>.bad
 |false=>match ZmI C ops draw with
  |true=>.reg (match kp (id+1000000) with|none=>[]|some ts=>ts) (ZlI C n ops draw) (XI C ops ops.size) (Zhy K C n ops ops.toList 0)
  |false=>.reg (match kp (id+1000000) with|none=>[]|some ts=>ts) (ZlI C n ops draw) 0 (Zq4 K C n ops draw ops.toList 0)
def F0 (K:Kn)(C:Cfg)(kp:Nat->Option (List Nat))(n:Nat)(c:Code):FC :=
 @Code.rec (fun _=>FC) .skip (fun id ops draw=>ZvC K C kp n id ops draw) (fun _ b j u=>.seq j (N0 kp b) u) (fun c _ _ w y=>.cond (cA C n c) w y)
  (fun id _ g=>.block id g) (fun c g=>.loop (N0 kp c) g) (fun _ _ _ _ _ _=>.bad) (fun id=>.exit id) (fun c g=>match Xf c with|true=>g|false=>.bad) (fun _=>.skip) (fun l=>.goto l) .ret (fun _=>.bad) c
def ZrO (g:AL)(l:List Nat):(AL->Z4)->Z4 :=
 @List.rec Nat (fun _=>(AL->Z4)->Z4) (fun k=>k []) (fun t _ j k=>@Bx.rec (fun _=>Z4) (fun v=>j fun r=>k ((t,v)::r)) (Zie g t)) l
def ZiI (tr:Option (List Nat))(g:AL)(k:AL->Z4):Z4:=@Option.rec (List Nat) (fun _=>Z4) (k g) (fun keep=>ZrO g keep k) tr
def Zjq (n:Nat)(k:AL->Hp->Z4)(u:List Nat):AL->Hp->Z4 :=
 @List.rec Nat (fun _=>AL->Hp->Z4) k (fun t _ j g H=>XG (YA (zB t n) (HI g t) (.tuple [])) H fun v H'=>j ((t,v)::g) H') u
def Znc (CL:Zw)(free:Nat)(l:List FO)(k:KL)(g:AL)(H:Hp):Z4 :=
 @Nat.rec (fun _=>Z4) (Zar CL 0 (fun g H=>k .normal g H) l g H) (fun m _=>Zar CL H.length (fun g H=>k .normal g H) l g (H++zF (m+1) .free)) free
abbrev eK (e:AExit)(a:Z4)(b:Nat->Z4)(c:Nat->Z4)(d:Z4):Z4:=@AExit.rec (fun _=>Z4) a b c d e
def Zif (tr:Option (List Nat))(body:KL->AL->Hp->Z4)(j:Nat):KL->AL->Hp->Z4 :=
 @Nat.rec (fun _=>KL->AL->Hp->Z4) (fun _ _ _=>none) (fun _ u k g H=>ZiI tr g fun g=>body (fun e g H=>eK e (u k g H) (fun i=>k (.exit i) g H) (fun l=>k (.goto l) g H) (k .ret g H)) g H) j
def ckR (j:List (FA×FA))(g:AL)(r:Z4):Z4 :=
 @List.rec (FA×FA) (fun _=>Z4) r (fun p _ u=>Z0 (C3 (p.1.get g) (p.2.get g)) fun _=>u) j
def PO (n:Nat)(CL:Zw)(j:Nat)(c:FC):KL->AL->Hp->Z4 :=
 @FC.rec (fun _=>KL->AL->Hp->Z4) (fun k g H=>k .normal g H)
  (fun fz B free l k g H=>Zjq n (fun g H=>ckR B g (Znc CL free l k g H)) fz g H)
  (fun _ tr _ w y k g H=>w (fun e g H=>eK e (ZiI tr g fun g=>y k g H) (fun i=>k (.exit i) g H) (fun l=>k (.goto l) g H) (k .ret g H)) g H)
  (fun c _ _ z A k g H=>match c.get g with|.bool t=>YA t (z k g H) (A k g H)|_=>none)
  (fun id _ u k g H=>u (fun e g H=>eK e (k .normal g H) (fun i=>YA (zA i id) (k .normal g H) (k (.exit i) g H)) (fun l=>k (.goto l) g H) (k .ret g H)) g H)
  (fun tr _ u k g H=>Zif tr u j k g H)
  (fun id k g H=>k (.exit id) g H) (fun l k g H=>k (.goto l) g H) (fun k g H=>k .ret g H) (fun _ _ _=>none) c
inductive FF where
 |mk (n:Nat) (pure:Bool) (res:List (FA×Option (Bool×Nat))) (c:FC)
 |bad
def ZlL (C:Cfg)(n:Nat)(r:ResultVar):Option (FA×Option (Bool×Nat)) :=
 match r with
 |.tmp t=>some (cA C n (.tmp t),none)
 |.cell a t=>match YN C.P t,YB C.P t with
  |some g,some sz=>some (cA C n (.tmp a),some (g,sz))
  |_,_=>none
def Zvw (K:Kn)(C:Cfg)(f:FuncId):FF :=
 match C.P.funcs[f]? with
 |none=>.bad
 |some fn=>match Di C f fn with
  |none=>.bad
  |some c=>match fn.results.toList.mapM (ZlL C fn.ntmps) with
   |some rs=>.mk fn.ntmps (C.pure f) rs (F0 K C (C.keep f) fn.ntmps c)
   |none=>.bad
def ZgA (H:Hp)(u:AL)(k:List AV->Z4)(l:List (FA×Option (Bool×Nat))):List AV->Z4 :=
 @List.rec (FA×Option (Bool×Nat)) (fun _=>List AV->Z4) k (fun r _ w j=>match r with
  |(a,none)=>w (J8 j [a.get u])
  |(a,some (g,sz))=>Z0 (Zes g sz (a.get u) H) fun v=>w (J8 j [v])) l
def Zgt (l:List AV):AV:=match l with
 |[v]=>v
 |l=>.tuple l
def IE (pure:Bool)(g:Hp)(v:AV)(H:Hp):Z4:=YA pure (match AB (H.take g.length) g with
 |true=>match Zb H g.length 9 v with
  |some v'=>some (v',g)
  |none=>none
 |false=>none) (some (v,H))
def ZA6 (CL:Zw)(j:Nat)(g:FF)(args:List AV)(H:Hp):Z4 :=
 match g with
 |.mk n pu rs c=>YA (zC args.length n) (PO n CL j c (fun e u H1=>eK e (ZgA H1 u (fun l=>IE pu H (Zgt l) H1) rs []) (fun _=>none) (fun _=>none) (ZgA H1 u (fun l=>IE pu H (Zgt l) H1) rs [])) (Lm 0 args) H) none
 |.bad=>none
def Zq7 (K:Kn)(C:Cfg)(g:Nat):Nat->Zw:=fun d=>@Nat.rec (fun _=>Zw) (fun _ _ _=>none) (fun _ j f args H=>ZA6 j g (Zvw K C f) args H) d
end
end Go.Am
