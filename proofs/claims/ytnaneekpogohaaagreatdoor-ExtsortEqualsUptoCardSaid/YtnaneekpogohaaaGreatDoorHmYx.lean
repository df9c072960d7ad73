/- THE ABSTRACT MACHINE -/
import Derived.Test.YtnaneekpogohaaaGreatDoorHmSx
open List renaming replicate->zF
open Nat renaming beq->zA,blt->zB,ble->zC,mul->zD,add->zE,succ->zG
namespace Go.Am
noncomputable section
abbrev Ys {α:Type}(c:Bool)(x y:α):α:=@Bool.rec (fun _=>α) y x c
def DQ {α:Type}(l:List α):Nat->Option α:=@List.rec α (fun _=>Nat->Option α) (fun _=>none) (fun a _ g i=>@Nat.rec (fun _=>Option α) (some a) (fun m _=>g m) i) l
def NJ {α:Type}(l:List α):Nat->Bool:=@List.rec α (fun _=>Nat->Bool) (fun i=>zA i 0) (fun _ _ g i=>@Nat.rec (fun _=>Bool) true (fun m _=>g m) i) l
def HN {α:Type}(l:List α):Nat->Bool:=@List.rec α (fun _=>Nat->Bool) (fun _=>true) (fun _ _ g i=>@Nat.rec (fun _=>Bool) false (fun m _=>g m) i) l
def isR {α:Type}(l:List α):Nat->Bool:=@List.rec α (fun _=>Nat->Bool) (fun i=>zA i 0) (fun _ _ g i=>@Nat.rec (fun _=>Bool) false (fun m _=>g m) i) l
def WT {α:Type}(l:List α):Nat:=@List.rec α (fun _=>Nat->Nat) (fun n=>n) (fun _ _ g n=>g (zG n)) l 0
def J2 {α:Type}(l m:List α):List α:=@List.rec α (fun _=>List α) m (fun a _ g=>a::g) l
def CT {α:Type}(l:List α):Nat->List α:=@List.rec α (fun _=>Nat->List α) (fun _=>[]) (fun a _ g i=>@Nat.rec (fun _=>List α) [] (fun m _=>a::g m) i) l
def PB {α:Type}(l:List α):Nat->List α:=@List.rec α (fun _=>Nat->List α) (fun _=>[]) (fun a l g i=>@Nat.rec (fun _=>List α) (a::l) (fun m _=>g m) i) l
def HX {α:Type}(l:List α)(x:α):Nat->List α:=@List.rec α (fun _=>Nat->List α) (fun _=>[]) (fun a l g i=>@Nat.rec (fun _=>List α) (x::l) (fun m _=>a::g m) i) l
def ZfK (l:List AV)(g:List AV):Nat->List AV:=@List.rec AV (fun _=>Nat->List AV) (fun _=>g) (fun a l j i=>@Nat.rec (fun _=>List AV) (J2 g (PB (a::l) (WT g))) (fun m _=>a::j m) i) l
def NR {α:Type}(l:List α):Bool:=@List.rec α (fun _=>Bool) true (fun _ _ _=>false) l
inductive Bx where
 |mk (v:AV)
def Zhh (g:AL):Nat->Bx:=@List.rec (Nat×AV) (fun _=>Nat->Bx) (fun _=>.mk .undef) (fun p _ j t=>@Prod.rec Nat AV (fun _=>Bx) (fun i v=>Ys (zA i t) (.mk v) (j t)) p) g
def CI (g:AL)(t:Nat):AV:=@Bx.rec (fun _=>AV) (fun v=>v) (Zhh g t)
inductive FA where
 |slot (t:Nat)
 |val (v:AV)
def FA.get (a:FA)(g:AL):AV:=@FA.rec (fun _=>AV) (fun t=>CI g t) (fun v=>v) a
def cA (C:Cfg)(n:Nat)(x:Operand):FA :=
 match x with
 |.tmp t=>Ys (zB t n) (.slot t) (.val (.tuple []))
 |x=>.val (eval C [] x)
def cAs (C:Cfg)(n:Nat)(l:List Operand):List FA:=@List.rec Operand (fun _=>List FA) [] (fun x _ g=>cA C n x::g) l
def Zqh (l:List FA)(g:AL):List AV:=@List.rec FA (fun _=>List AV) [] (fun x _ j=>x.get g::j) l
def TU (x:Option FA)(g:AL):Option AV:=@Option.rec FA (fun _=>Option AV) none (fun x=>some (x.get g)) x
inductive FG where
 |no
 |els
 |gd (d:Nat) (want:Bool)
def cG (n:Nat)(ops:Array Oper)(o:Oper):FG :=
 match o.guard with
 |none=>.no
 |some (j,want)=>match (match ops[j]? with|some g=>g.dst|none=>none) with
  |none=>.els
  |some d=>bif zB d n then .gd d want else .els
def FG.run {α:Type}(g:FG)(u:AL)(els:α)(x:Option α):Option α :=
 @FG.rec (fun _=>Option α) x (some els) (fun d j=>Z8 (CI u d) j els x) g
def ikN (k:IntKind):Nat:=@IntKind.rec (fun _=>Nat) 0 1 2 3 4 5 6 7 k
def Zha (k:IntKind):Nat:=@IntKind.rec (fun _=>Nat) 128 32768 2147483648 9223372036854775808 256 65536 4294967296 18446744073709551616 k
def Zkv (k:IntKind)(z:Int):Int:=@Int.rec (fun _=>Int) (fun m=>Ys (zB m (Zha k)) (.ofNat m) (k.wrap (.ofNat m))) (fun m=>k.wrap (.negSucc m)) z
def Eh (a b:AV)(f:IntKind->Int->Int->Option AV):Option AV :=
 match a,b with
 |.int k x,.int k' y=>Ys (zA (ikN k) (ikN k')) (f k x y) none
 |_,_=>none
def ilt (x y:Int):Bool:=@Int.rec (fun _=>Bool) (fun m=>@Int.rec (fun _=>Bool) (fun n=>zB m n) (fun n=>false) y) (fun m=>@Int.rec (fun _=>Bool) (fun n=>true) (fun n=>zB n m) y) x
def ile (x y:Int):Bool:=@Int.rec (fun _=>Bool) (fun m=>@Int.rec (fun _=>Bool) (fun n=>zC m n) (fun n=>false) y) (fun m=>@Int.rec (fun _=>Bool) (fun n=>true) (fun n=>zC n m) y) x
def ieq (x y:Int):Bool:=@Int.rec (fun _=>Bool) (fun m=>@Int.rec (fun _=>Bool) (fun n=>zA m n) (fun n=>false) y) (fun m=>@Int.rec (fun _=>Bool) (fun n=>false) (fun n=>zA n m) y) x
def ZzN (x y:Int):Int:=@Int.rec (fun _=>Int) (fun m=>@Int.rec (fun _=>Int) (fun n=>.ofNat (zE m n)) (fun n=>x+y) y) (fun m=>x+y) x
def ZzS (x y:Int):Int:=@Int.rec (fun _=>Int) (fun m=>@Int.rec (fun _=>Int) (fun n=>Ys (zC n m) (.ofNat (Nat.sub m n)) (x-y)) (fun n=>x-y) y) (fun m=>x-y) x
def fib (op:BinOp)(a b:AV):Option AV :=
 match op with
 |.add=>Eh a b fun k x y=>some (.int k (Zkv k (ZzN x y)))
 |.sub=>Eh a b fun k x y=>some (.int k (Zkv k (ZzS x y)))
 |.eql=>Eh a b fun k x y=>some (.bool (ieq x y))
 |.neq=>Eh a b fun k x y=>some (.bool (!ieq x y))
 |.lss=>Eh a b fun k x y=>some (.bool (ilt x y))
 |.leq=>Eh a b fun k x y=>some (.bool (ile x y))
 |.gtr=>Eh a b fun k x y=>some (.bool (ilt y x))
 |.geq=>Eh a b fun k x y=>some (.bool (ile y x))
 |op=>Z5 op a b
def eqU (a b:UInt8):Bool:=zA a.toNat b.toNat
def eqS (l:List UInt8):List UInt8->Bool:=@List.rec UInt8 (fun _=>List UInt8->Bool) (fun m=>NR m) (fun a _ g m=>@List.rec UInt8 (fun _=>Bool) false (fun b m _=>Ys (eqU a b) (g m) false) m) l
def fsb (op:BinOp)(x y:AV):Option AV :=
 match op,x,y with
 |.add,.str a,.str b=>Ys (HN a 1000000&&HN b 1000000) (some (.str (J2 a b))) none
 |.eql,.str a,.str b=>some (.bool (eqS a b))
 |.neq,.str a,.str b=>some (.bool (!eqS a b))
 |op,x,y=>YK op x y
def Cq (g:Bool)(sz:Nat)(cells:List AV)(off:Nat):Option AV :=
 Ys g (Ys (NJ cells (off+sz)) (some (.agg (CT (PB cells off) sz))) none) (DQ cells off)
def Zdq (g:Bool)(sz:Nat)(a:AV)(H:Hp):Option AV :=
 match a with
 |.ptr o off=>match DQ H o with
  |some (.cells l)=>Cq g sz l off
  |_=>none
 |.vp cells=>Cq g sz cells 0
 |.wp o e off=>match DQ H o with
  |some (.row e' l)=>Ys (zA e' e) (Cq g sz l off) none
  |_=>none
 |_=>none
def ZiJ (v:AV)(sz:Nat)(l:List AV)(off:Nat):Bool:=v.known&&(isR v.cells sz&&NJ l (off+sz))
def AN (sz:Nat)(a v:AV)(H:Hp):Option (AV×Hp) :=
 match a with
 |.ptr o off=>match DQ H o with
  |some (.cells l)=>Ys (ZiJ v sz l off) (some (.tuple [],HX H (.cells (ZfK l v.cells off)) o)) none
  |_=>none
 |.wp o e off=>match DQ H o with
  |some (.row e' l)=>Ys (zA e' e&&ZiJ v sz l off) (some (.tuple [],HX H (.row e (ZfK l v.cells off)) o)) none
  |_=>none
 |_=>none
def ixR {α:Type}(l:List α)(i:Int)(f:α->AV):Option AV:=@Int.rec (fun _=>Option AV) (fun m=>@Option.rec α (fun _=>Option AV) none (fun e=>some (f e)) (DQ l m)) (fun _=>none) i
def Zm4 (i:Int)(f:Nat->Option AV):Option AV:=@Int.rec (fun _=>Option AV) f (fun _=>none) i
def ZgW (size:Nat)(x i:AV):Option AV :=
 match x,i with
 |.vs k _ l,.int _ n=>Ys (zA k size) (ixR l n fun e=>.vp e.cells) none
 |.rs _ _ o off len _,.int _ n=>Zm4 n fun m=>Ys (zB m len) (some (.ptr o (zE off (zD m size)))) none
 |.ws _ _ o e len,.int _ n=>Zm4 n fun m=>Ys (zB m len) (some (.wp o e (zD m size))) none
 |_,_=>none
def Zcv (off:Nat)(a:AV):Option AV :=
 match a with
 |.ptr o x=>some (.ptr o (zE x off))
 |.wp o e x=>some (.wp o e (zE x off))
 |.vp cells=>Ys (NJ cells off) (some (.vp (PB cells off))) none
 |_=>none
def Zdn (len size:Nat)(x i:AV):Option AV :=
 match i with
 |.int _ n=>Zm4 n fun m=>Ys (zB m len) (Zcv (zD m size) x) none
 |_=>none
def Zdo (g:Bool)(len size:Nat)(x i:AV):Option AV :=
 match x,i with
 |.agg cs,.int _ n=>Zm4 n fun m=>Ys (zB m len) (Cq g size cs (zD m size)) none
 |_,_=>none
def Co (x i:AV):Option AV :=
 match x,i with
 |.str s,.int _ n=>ixR s n fun b=>.int .u8 (.ofNat b.toNat)
 |_,_=>none
def Zkt (g:AL)(l:List (Nat×Nat×FA)):List AV->Option (List AV) :=
 @List.rec (Nat×Nat×FA) (fun _=>List AV->Option (List AV)) (fun c=>some c) (fun p _ j c=>@Prod.rec Nat (Nat×FA) (fun _=>Option (List AV)) (fun off q=>@Prod.rec Nat FA (fun _=>Option (List AV)) (fun sz a=>Ys (ZiJ (a.get g) sz c off) (j (ZfK c (a.get g).cells off)) none) q) p) l
def Zku (g:AL)(size:Nat)(l:List (Nat×FA)):List AV->Option (List AV) :=
 @List.rec (Nat×FA) (fun _=>List AV->Option (List AV)) (fun c=>some c) (fun p _ j c=>@Prod.rec Nat FA (fun _=>Option (List AV)) (fun i a=>Ys ((a.get g).known&&(isR (a.get g).cells size&&NJ c (i+1))) (j (HX c (a.get g) i)) none) p) l
def Zcu (x:AV)(y:Nat):Option Nat :=
 match x with
 |.int _ n=>@Int.rec (fun _=>Option Nat) (fun m=>Ys (zC m y) (some m) none) (fun _=>none) n
 |_=>none
def AK (len cap:Nat)(lo hi mx:Option AV):Option (Nat×Nat×Nat) :=
 match (match mx with|some v=>Zcu v cap|none=>some cap) with
 |none=>none
 |some m=>match (match hi,mx with|some v,_=>Zcu v m|none,none=>some len|none,some _=>none) with
  |none=>none
  |some h=>match (match lo with|some v=>Zcu v h|none=>some 0) with
   |none=>none
   |some l=>some (l,h,m)
def Ziz (x:AV)(lo hi mx:Option AV):Option AV :=
 match x,mx with
 |.str s,none=>match AK (WT s) (WT s) lo hi none with
  |some (l,h,_)=>some (.str (PB (CT s h) l))
  |none=>none
 |_,_=>none
def Zds (size:Nat)(x:AV)(lo hi mx:Option AV):Option AV :=
 match x with
 |.vs k tok l=>Ys (zA k size) (match AK (WT l) (WT l) lo hi mx with
  |some (a,h,m)=>some (.vs k (match mx with
   |some _=>Ys (zA h m) .clip .no
   |none=>Ys (zA h (WT l)) tok .no) (PB (CT l h) a))
  |none=>none) none
 |x=>Yn size x lo hi mx
def ZgR (k:Nat)(x:AV)(H:Hp):Option (List AV) :=
 match x with
 |.nils=>some []
 |.vs k' _ l=>Ys (zA k' k) (some l) none
 |x=>elems k x H
def ZhF (bytes:Nat)(l m:List AV):Bool:=zC bytes 1000000&&(HN l 1000000&&HN m 1000000)
def Ziv (k bytes:Nat)(s:AV)(xs:List AV)(H:Hp):Option (AV×Hp) :=
 match s with
 |.nils=>Ys (NR xs) (some (.nils,H)) (Ys (ZhF bytes [] xs) (some (.vs k (.own (WT H) (WT xs)) xs,J2 H [.tok (WT xs)])) none)
 |.vs k' tok l =>
  Ys (zA k' k&&ZhF bytes l xs) (Ys (NR xs) (some (.vs k tok l,H))
   (match tok with
   |.clip=>some (.vs k (.own (WT H) (WT l+WT xs)) (J2 l xs),J2 H [.tok (WT l+WT xs)])
   |.own t e=>match DQ H t with
    |some (.tok e')=>Ys (zA e' e) (some (.vs k (.own t (e+WT xs)) (J2 l xs),HX H (.tok (e+WT xs)) t)) none
    |_=>none
   |.no=>none)) none
 |_=>none
def Zkr (k bytes:Nat)(s x:AV)(H:Hp):Option (AV×Hp) :=
 match ZgR k x H with
 |some xs=>Ziv k bytes s xs H
 |none=>none
def Zc2 (l:List AV):List AV:=@List.rec AV (fun _=>List AV) [] (fun a _ g=>J2 a.cells g) l
def ZpY (n:Nat)(l:List AV):List AV:=Ys (HN l n) l (CT l n)
def ZpV (ag:Bool)(k bytes:Nat)(s:AV)(xs:List AV)(H:Hp):Option (AV×Hp) :=
 match s with
 |.nils=>Ys (NR xs) (some (.nils,H)) (Ys (ZhF bytes [] xs) (some (.ws ag k (WT H) 0 (WT xs),J2 H [.row 0 (Zc2 xs)])) none)
 |.ws ag' k' o e len=>Ys (Ys ag ag' (!ag')&&(zA k' k&&(zC bytes 1000000&&(zC len 1000000&&HN xs 1000000)))) (Ys (NR xs) (some (.ws ag k o e len,H))
  (match DQ H o with
  |some (.row e' l)=>Ys (zA e' e&&NJ l (zD len k)) (some (.ws ag k o (zG e) (zE len (WT xs)),HX H (.row (zG e) (J2 (ZpY (zD len k) l) (Zc2 xs))) o)) none
  |_=>none)) none
 |s=>Ql ag k bytes s xs H
def ZgP (ag:Bool)(k bytes:Nat)(s x:AV)(H:Hp):Option (AV×Hp) :=
 match ZgR k x H with
 |some xs=>ZpV ag k bytes s xs H
 |none=>none
def Zq9 (d:TypeDesc)(x:AV):Option AV :=
 match d with
 |.string=>match x with
  |.str s=>some (.int .i64 (.ofNat (WT s)))
  |_=>none
 |.slice _=>match x with
  |.nils=>some (.int .i64 (.ofNat 0))
  |.vs _ _ l=>some (.int .i64 (.ofNat (WT l)))
  |.rs _ _ _ _ len _=>some (.int .i64 (.ofNat len))
  |.ws _ _ _ _ len=>some (.int .i64 (.ofNat len))
  |_=>none
 |d=>Zk d x
def Zks (x:AV)(k:IntKind):Option AV :=
 match x with
 |.int _ n=>some (.int k (Zkv k n))
 |_=>none
inductive FP where
 |mk (f:AL->Option AV)
inductive FR where
 |mk (f:AL->Hp->Option AV)
inductive FH where
 |mk (f:Zx->AL->Hp->Option (AV×Hp))
inductive FO where
 |mv (dst:Option Tmp) (a:FA)
 |p (dst:Option Tmp) (g:FG) (f:FP)
 |r (dst:Option Tmp) (g:FG) (f:FR)
 |h (dst:Option Tmp) (g:FG) (f:FH)
 |lag (dst:Option Tmp) (i:Nat) (f:AL->Option AObj)
 |bad
def ZkW (C:Cfg)(n:Nat)(g:List (Nat×Nat))(l:List (Nat×Operand)):Option (List (Nat×Nat×FA)) :=
 @List.rec (Nat×Operand) (fun _=>Option (List (Nat×Nat×FA))) (some []) (fun p _ j=>match DQ g p.1,j with
  |some q,some r=>some ((q.1,q.2,cA C n p.2)::r)
  |_,_=>none) l
def ZkT (C:Cfg)(n:Nat)(t:TypeId)(parts:List (Nat×Operand)):FP :=
 match VO C.P t,C.P.underlying t with
 |some (.agg zero),some (.struct fs) =>
  match fs.toList.mapM fun f=>(YD C.P f.type).map (f.offset,·) with
  |some g=>match ZkW C n g parts with
   |some u=>.mk fun j=>match Zkt j u zero with
    |some l=>some (.agg l)
    |none=>none
   |none=>.mk fun _=>none
  |none=>.mk fun _=>none
 |_,_=>.mk fun j=>LQ C.P t (parts.map fun p=>(p.1,(cA C n p.2).get j))
def Zin (C:Cfg)(n:Nat)(t:TypeId)(len:Nat)(parts:List (Nat×Operand)):FP :=
 match Cb C.P t with
 |some e=>match YD C.P e,VO C.P e with
  |some size,some z=>match decide (len*size<=16777216)&&(z.known&&(isR z.cells size&&zB 0 size)) with
   |true=>.mk fun g=>match Zku g size (parts.map fun p=>(p.1,cA C n p.2)) (zF len z) with
    |some l=>some (.vs size .clip l)
    |none=>none
   |false=>.mk fun _=>none
  |_,_=>.mk fun _=>none
 |none=>.mk fun _=>none
def Zpv (C:Cfg)(n:Nat)(op:Op):FP :=
 match op with
 |.binOp op t x y _=>match Oh C.P t with
  |true=>match AF x y with
   |true=>.mk fun j=>O4 op ((cA C n x).get j) ((cA C n y).get j)
   |false=>.mk fun _=>none
  |false=>match C.P.underlying t with
   |some (.int _)=>.mk fun j=>fib op ((cA C n x).get j) ((cA C n y).get j)
   |some .string=>.mk fun j=>fsb op ((cA C n x).get j) ((cA C n y).get j)
   |some (.struct _)=>.mk fun j=>JD C.P C.eqok op t ((cA C n x).get j) ((cA C n y).get j)
   |some (.array _ _)=>.mk fun j=>JD C.P C.eqok op t ((cA C n x).get j) ((cA C n y).get j)
   |some d=>.mk fun j=>YC d op ((cA C n x).get j) ((cA C n y).get j)
   |none=>.mk fun _=>none
 |.build t parts=>ZkT C n t parts.toList
 |.buildSlice t len parts=>Zin C n t len parts.toList
 |.fieldAddr t x f=>match PZ C.P t f with
  |some u=>match YD C.P u.type with
   |some sz=>match zB 0 sz with
    |true=>.mk fun j=>Zcv u.offset ((cA C n x).get j)
    |false=>.mk fun _=>none
   |none=>.mk fun _=>none
  |none=>.mk fun _=>none
 |.field t x f=>match PZ C.P t f with
  |some u=>match YO C.P u.type,YD C.P u.type with
   |some g,some sz=>.mk fun j=>match (cA C n x).get j with
    |.agg cs=>Cq g sz cs u.offset
    |_=>none
   |_,_=>.mk fun _=>none
  |none=>.mk fun _=>none
 |.indexAddr t x i=>match C.P.underlying t with
  |some (.slice e)=>match YD C.P e with
   |some size=>.mk fun j=>ZgW size ((cA C n x).get j) ((cA C n i).get j)
   |none=>.mk fun _=>none
  |some (.array len e)=>match YD C.P e with
   |some size=>.mk fun j=>Zdn len size ((cA C n x).get j) ((cA C n i).get j)
   |none=>.mk fun _=>none
  |_=>.mk fun _=>none
 |.index t x i=>match C.P.underlying t with
  |some .string=>.mk fun j=>Co ((cA C n x).get j) ((cA C n i).get j)
  |some (.array len e)=>match YO C.P e,YD C.P e with
   |some g,some size=>.mk fun j=>Zdo g len size ((cA C n x).get j) ((cA C n i).get j)
   |_,_=>.mk fun _=>none
  |_=>.mk fun _=>none
 |.slice t x lo hi mx=>match C.P.underlying t with
  |some .string=>.mk fun j=>Ziz ((cA C n x).get j) (TU (lo.map (cA C n)) j) (TU (hi.map (cA C n)) j) (TU (mx.map (cA C n)) j)
  |some (.slice e)=>match YD C.P e with
   |some size=>.mk fun j=>Zds size ((cA C n x).get j) (TU (lo.map (cA C n)) j) (TU (hi.map (cA C n)) j) (TU (mx.map (cA C n)) j)
   |none=>.mk fun _=>none
  |_=>.mk fun _=>none
 |.convert s d x=>match C.P.underlying s,C.P.underlying d with
  |some (.int _),some (.int k)=>.mk fun j=>Zks ((cA C n x).get j) k
  |_,_=>.mk fun j=>C0 C.P C.wrb s d ((cA C n x).get j)
 |.call { callee:=.builtin .len,args,argTypes }=>match args.toList,argTypes.toList with
  |[x],[t]=>match C.P.underlying t with
   |some d=>.mk fun j=>Zq9 d ((cA C n x).get j)
   |none=>.mk fun _=>none
  |_,_=>.mk fun _=>none
 |.extract t i=>.mk fun j=>match (cA C n t).get j with
  |.tuple l=>DQ l i
  |_=>none
 |.pick c a b=>.mk fun j=>Zi ((cA C n c).get j) ((cA C n a).get j) ((cA C n b).get j)
 |.unOp op _ x=>.mk fun j=>Xo op ((cA C n x).get j)
 |.load t a=>match YO C.P t,YD C.P t with
  |some g,some sz=>.mk fun j=>U6 g sz ((cA C n a).get j)
  |_,_=>.mk fun _=>none
 |.nilCheck x=>.mk fun j=>Zu ((cA C n x).get j)
 |op=>.mk fun j=>ZI C (Yy C n j) op
def Zpw (C:Cfg)(n:Nat)(op:Op):FR :=
 match op with
 |.load t a=>match YO C.P t,YD C.P t with
  |some g,some sz=>.mk fun j H=>Zdq g sz ((cA C n a).get j) H
  |_,_=>.mk fun _ _=>none
 |op=>.mk fun j H=>G7 C (Yy C n j) H op
structure Kn where
 fl:FuncId->List AV->Option AV
 ef:FuncId->Option (List AV->Hp->Option (AV×Hp))
def k0:Kn:=⟨fun _ _=>none,fun _=>none⟩
def ZzD (K:Kn)(f:FuncId)(h:List AV->Hp->Option (AV×Hp)):Kn:=⟨K.fl,fun g=>Ys (zA g f) (some h) (K.ef g)⟩
def Yf (l:List (Nat×List AV×AV)):Kn:=⟨fun f args=>@List.rec (Nat×List AV×AV) (fun _=>Option AV) none (fun e _ u=>@Prod.rec Nat (List AV×AV) (fun _=>Option AV) (fun g q=>@Prod.rec (List AV) AV (fun _=>Option AV) (fun j v=>Ys (zA f g&&AV.eqbL args j) (some v) u) q) e) l,fun _=>none⟩
inductive FC2 where
 |fn (f:FuncId)
 |ext (e:ExtK)
 |sum (g:List AV->Option AV)
 |eff (g:List AV->Hp->Option (AV×Hp))
 |flat (f:FuncId)
 |ro (f:FuncId)
 |no
def Zkp (K:Kn)(C:Cfg)(f:FuncId):FC2 :=
 match C.ext f with
 |some e=>.ext e
 |none=>match C.sum f with
  |some g=>.sum g
  |none=>match C.eff f with
   |some g=>match K.ef f with
    |some h=>.eff h
    |none=>.eff g.run
   |none=>match C.user f with
    |true=>match C.flat f with
     |true=>.flat f
     |false=>match C.ro f with
      |true=>.ro f
      |false=>.fn f
    |false=>.no
def FC2.run (K:Kn)(g:FC2)(CL:Zx)(args:List AV)(H:Hp):Option (AV×Hp) :=
 match g with
 |.fn f=>CL f args H
 |.ext e=>HM e args H
 |.sum g=>Ae g args H
 |.eff g=>g args H
 |.flat f=>match K.fl f args with
  |some v=>some (v,H)
  |none=>Zf (CL f) args H
 |.ro f=>QN (CL f) args H
 |.no=>none
def Zlu (x:AV)(H:Hp):Option (AV×Hp):=Ys x.known (some (.ptr (WT H) 0,J2 H [.cells x.cells])) none
def Zpt (K:Kn)(C:Cfg)(n:Nat)(op:Op):FH :=
 match op with
 |.store t a x=>match YD C.P t with
  |some sz=>match stC C (.store t a x) with
   |0=>.mk fun _ g H=>AN sz ((cA C n a).get g) ((cA C n x).get g) H
   |k+1=>.mk fun _ g H=>Ys (stV (k+1) ((cA C n a).get g)) (AN sz ((cA C n a).get g) ((cA C n x).get g) H) none
  |none=>.mk fun _ _ _=>none
 |.box _ x=>.mk fun _ g H=>Zlu ((cA C n x).get g) H
 |.alloc e=>match VO C.P e with
  |some z=>match C.bld e with
   |some u=>.mk fun CL g H=>ZA C CL (Yy C n g) H (.alloc e)
   |none=>.mk fun _ _ H=>Zlu z H
  |none=>.mk fun _ _ _=>none
 |.call { callee:=.builtin .append,args,argTypes }=>match args.toList,argTypes.toList with
  |[s,x],[st,xt]=>match Cb C.P st,C.P.underlying xt with
   |some e,some xd=>match YZ xd with
    |false=>.mk fun _ _ _=>none
    |true=>match YD C.P e,JE C.P e with
     |some k,some bytes=>match zB 0 k&&ZmO C.P e k with
      |true=>match ZzY C e with
       |some ag=>.mk fun _ g H=>ZgP ag k bytes ((cA C n s).get g) ((cA C n x).get g) H
       |none=>.mk fun _ g H=>Zkr k bytes ((cA C n s).get g) ((cA C n x).get g) H
      |false=>.mk fun _ _ _=>none
     |_,_=>.mk fun _ _ _=>none
   |_,_=>.mk fun _ _ _=>none
  |_,_=>.mk fun _ _ _=>none
 |.call { callee:=.value (.func f),args,.. }=>.mk fun CL g H=>(Zkp K C f).run K CL (Zqh (cAs C n args.toList) g) H
 |op=>.mk fun CL g H=>ZA C CL (Yy C n g) H op
def cOp (K:Kn)(C:Cfg)(n:Nat)(ops:Array Oper)(fl:Bool)(o:Oper):FO :=
 match o.guard,ZqH o.op with
 |none,some x=>.mv o.dst (cA C n x)
 |_,_=>match (if fl then 0 else Xl C o.op) with
  |0=>.p o.dst (cG n ops o) (Zpv C n o.op)
  |1=>.r o.dst (cG n ops o) (Zpw C n o.op)
  |_=>.h o.dst (cG n ops o) (Zpt K C n o.op)
def Ez (k:AL->Hp->Z3)(g:Option Tmp)(v:AV)(j:AL)(H:Hp):Z3:=@Option.rec Tmp (fun _=>Z3) (k j H) (fun d=>k ((d,v)::j) H) g
def FO.run (o:FO)(CL:Zx)(b:Nat)(k:AL->Hp->Z3)(u:AL)(H:Hp):Z3 :=
 @FO.rec (fun _=>Z3) (fun j a=>Ez k j (a.get u) u H)
  (fun j g f=>@Option.rec AV (fun _=>Z3) none (fun v=>Ez k j v u H) (g.run u (.tuple []) (@FP.rec (fun _=>Option AV) (fun f=>f u) f)))
  (fun j g f=>@Option.rec AV (fun _=>Z3) none (fun v=>Ez k j v u H) (g.run u (.tuple []) (@FR.rec (fun _=>Option AV) (fun f=>f u H) f)))
  (fun j g f=>@Option.rec (AV×Hp) (fun _=>Z3) none (fun r=>@Prod.rec AV Hp (fun _=>Z3) (fun v H=>Ez k j v u H) r) (g.run u (.tuple [],H) (@FH.rec (fun _=>Option (AV×Hp)) (fun f=>f CL u H) f)))
  (fun j i f=>Z0 (KO (b+i) (f u) H) fun r=>Ez k j r.1 u r.2)
  none o
def OA (CL:Zx)(b:Nat)(k:AL->Hp->Z3)(l:List FO):AL->Hp->Z3:=@List.rec FO (fun _=>AL->Hp->Z3) k (fun o _ j g H=>o.run CL b j g H) l
def Zpu (K:Kn)(C:Cfg)(n:Nat)(ops:Array Oper)(draw:Bool)(l:List Oper):Nat->List FO :=
 @List.rec Oper (fun _=>Nat->List FO) (fun _=>[]) (fun o _ g i=>cOp K C n ops (draw&&YF C ops i) o::g (i+1)) l
def Zvd (C:Cfg)(n:Nat)(ops:Array Oper)(i:Nat)(o:Oper):FO :=
 match YF C ops i with
 |true=>.bad
 |false=>.lag o.dst (XD C ops i) fun g=>Rw C (Yy C n g) o.op
def Zgz (K:Kn)(C:Cfg)(n:Nat)(ops:Array Oper)(l:List Oper):Nat->List FO :=
 @List.rec Oper (fun _=>Nat->List FO) (fun _=>[]) (fun o _ g i=>(match lag C ops i with|true=>Zvd C n ops i o|false=>cOp K C n ops (YF C ops i) o)::g (i+1)) l
inductive FC where
 |skip
 |reg (fz:List Nat) (ck:List (FA×FA)) (free:Nat) (l:List FO)
 |seq (a:FC) (tr:Option (List Nat)) (b:FC)
 |cond (c:FA) (x y:FC)
 |block (id:Nat) (c:FC)
 |loop (tr:Option (List Nat)) (c:FC)
 |exit (id:Nat)
 |goto (l:Nat)
 |ret
 |bad
def Pw (kp:Nat->Option (List Nat))(c:Code):Option (List Nat) :=
 match Yq c with
 |none=>none
 |some r=>kp r
def ZkU (C:Cfg)(n:Nat)(ops:Array Oper)(draw:Bool):List (FA×FA) :=
 match draw with
 |false=>[]
 |true=>(TP C ops).map fun p=>(cA C n (.tmp p.1),cA C n (.tmp p.2))
def Zvh (K:Kn)(C:Cfg)(kp:Nat->Option (List Nat))(n:Nat)(id:Nat)(ops:Array Oper)(draw:Bool):FC :=
 match draw&&!(XZ ops&&JW C ops) with
 |true=>.bad
 |false=>match ZlR C ops draw with
  |true=>.reg (match kp (id+1000000) with|none=>[]|some ts=>ts) (ZkU C n ops draw) (XD C ops ops.size) (Zgz K C n ops ops.toList 0)
  |false=>.reg (match kp (id+1000000) with|none=>[]|some ts=>ts) (ZkU C n ops draw) 0 (Zpu K C n ops draw ops.toList 0)
def DE (K:Kn)(C:Cfg)(kp:Nat->Option (List Nat))(n:Nat)(c:Code):FC :=
 @Code.rec (fun _=>FC) .skip (fun id ops draw=>Zvh K C kp n id ops draw) (fun _ b j u=>.seq j (Pw kp b) u) (fun c _ _ w y=>.cond (cA C n c) w y)
  (fun id _ g=>.block id g) (fun c g=>.loop (Pw kp c) g) (fun _ _ _ _ _ _=>.bad) (fun id=>.exit id) (fun c g=>match Xc c with|true=>g|false=>.bad) (fun _=>.skip) (fun l=>.goto l) .ret (fun _=>.bad) c
def Zrh (g:AL)(l:List Nat):(AL->Z3)->Z3 :=
 @List.rec Nat (fun _=>(AL->Z3)->Z3) (fun k=>k []) (fun t _ j k=>@Bx.rec (fun _=>Z3) (fun v=>j fun r=>k ((t,v)::r)) (Zhh g t)) l
def ZhK (tr:Option (List Nat))(g:AL)(k:AL->Z3):Z3:=@Option.rec (List Nat) (fun _=>Z3) (k g) (fun keep=>Zrh g keep k) tr
def Ziy (n:Nat)(k:AL->Hp->Z3)(u:List Nat):AL->Hp->Z3 :=
 @List.rec Nat (fun _=>AL->Hp->Z3) k (fun t _ j g H=>V8 (Ys (zB t n) (CI g t) (.tuple [])) H fun v H'=>j ((t,v)::g) H') u
def Zmq (CL:Zx)(free:Nat)(l:List FO)(k:KL)(g:AL)(H:Hp):Z3 :=
 @Nat.rec (fun _=>Z3) (OA CL 0 (fun g H=>k .normal g H) l g H) (fun m _=>OA CL H.length (fun g H=>k .normal g H) l g (H++zF (m+1) .free)) free
abbrev eK (e:AExit)(a:Z3)(b:Nat->Z3)(c:Nat->Z3)(d:Z3):Z3:=@AExit.rec (fun _=>Z3) a b c d e
def Zhi (tr:Option (List Nat))(body:KL->AL->Hp->Z3)(fuel:Nat):KL->AL->Hp->Z3 :=
 @Nat.rec (fun _=>KL->AL->Hp->Z3) (fun _ _ _=>none) (fun _ j k g H=>ZhK tr g fun g=>body (fun e g H=>eK e (j k g H) (fun i=>k (.exit i) g H) (fun l=>k (.goto l) g H) (k .ret g H)) g H) fuel
def ckR (j:List (FA×FA))(g:AL)(r:Z3):Z3 :=
 @List.rec (FA×FA) (fun _=>Z3) r (fun p _ u=>Z0 (Sb (p.1.get g) (p.2.get g)) fun _=>u) j
def Pf (n:Nat)(CL:Zx)(fuel:Nat)(c:FC):KL->AL->Hp->Z3 :=
 @FC.rec (fun _=>KL->AL->Hp->Z3) (fun k g H=>k .normal g H)
  (fun fz A free l k g H=>Ziy n (fun g H=>ckR A g (Zmq CL free l k g H)) fz g H)
  (fun _ tr _ u w k g H=>u (fun e g H=>eK e (ZhK tr g fun g=>w k g H) (fun i=>k (.exit i) g H) (fun l=>k (.goto l) g H) (k .ret g H)) g H)
  (fun c _ _ y z k g H=>match c.get g with|.bool t=>Ys t (y k g H) (z k g H)|_=>none)
  (fun id _ j k g H=>j (fun e g H=>eK e (k .normal g H) (fun i=>Ys (zA i id) (k .normal g H) (k (.exit i) g H)) (fun l=>k (.goto l) g H) (k .ret g H)) g H)
  (fun tr _ j k g H=>Zhi tr j fuel k g H)
  (fun id k g H=>k (.exit id) g H) (fun l k g H=>k (.goto l) g H) (fun k g H=>k .ret g H) (fun _ _ _=>none) c
inductive FF where
 |mk (n:Nat) (pure:Bool) (res:List (FA×Option (Bool×Nat))) (c:FC)
 |bad
def ZkX (C:Cfg)(n:Nat)(r:ResultVar):Option (FA×Option (Bool×Nat)) :=
 match r with
 |.tmp t=>some (cA C n (.tmp t),none)
 |.cell a t=>match YO C.P t,YD C.P t with
  |some g,some sz=>some (cA C n (.tmp a),some (g,sz))
  |_,_=>none
def Zvb (K:Kn)(C:Cfg)(f:FuncId):FF :=
 match C.P.funcs[f]? with
 |none=>.bad
 |some fn=>match BZ C f fn with
  |none=>.bad
  |some c=>match fn.results.toList.mapM (ZkX C fn.ntmps) with
   |some rs=>.mk fn.ntmps (C.pure f) rs (DE K C (C.keep f) fn.ntmps c)
   |none=>.bad
def Zfy (H:Hp)(u:AL)(k:List AV->Z3)(l:List (FA×Option (Bool×Nat))):List AV->Z3 :=
 @List.rec (FA×Option (Bool×Nat)) (fun _=>List AV->Z3) k (fun r _ w j=>match r with
  |(a,none)=>w (J2 j [a.get u])
  |(a,some (g,sz))=>Z0 (Zdq g sz (a.get u) H) fun v=>w (J2 j [v])) l
def Zfs (l:List AV):AV:=match l with
 |[v]=>v
 |l=>.tuple l
def AO (pure:Bool)(g:Hp)(v:AV)(H:Hp):Z3:=Ys pure (match HL (H.take g.length) g with
 |true=>match Zb H g.length 9 v with
  |some v'=>some (v',g)
  |none=>none
 |false=>none) (some (v,H))
def ZAc (CL:Zx)(fuel:Nat)(g:FF)(args:List AV)(H:Hp):Z3 :=
 match g with
 |.mk n pu rs c=>Ys (zC args.length n) (Pf n CL fuel c (fun e j H1=>eK e (Zfy H1 j (fun l=>AO pu H (Zfs l) H1) rs []) (fun _=>none) (fun _=>none) (Zfy H1 j (fun l=>AO pu H (Zfs l) H1) rs [])) (MI 0 args) H) none
 |.bad=>none
def C6 (K:Kn)(C:Cfg)(fuel:Nat):Nat->Zx:=fun d=>@Nat.rec (fun _=>Zx) (fun _ _ _=>none) (fun _ g f args H=>ZAc g fuel (Zvb K C f) args H) d
end
end Go.Am
