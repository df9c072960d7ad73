/- THE ABSTRACT MACHINE -/
import Derived.Test.YtnaneekpogohaaaGreatDoorHmSx
open List renaming replicate->zF
open Nat renaming beq->zA,blt->zB,ble->zC,mul->zD,add->zE,succ->zG
namespace Go.Am
noncomputable section
abbrev Yt {α:Type}(c:Bool)(x y:α):α:=@Bool.rec (fun _=>α) y x c
def DT {α:Type}(l:List α):Nat->Option α:=@List.rec α (fun _=>Nat->Option α) (fun _=>none) (fun a _ g i=>@Nat.rec (fun _=>Option α) (some a) (fun m _=>g m) i) l
def NG {α:Type}(l:List α):Nat->Bool:=@List.rec α (fun _=>Nat->Bool) (fun i=>zA i 0) (fun _ _ g i=>@Nat.rec (fun _=>Bool) true (fun m _=>g m) i) l
def HR {α:Type}(l:List α):Nat->Bool:=@List.rec α (fun _=>Nat->Bool) (fun _=>true) (fun _ _ g i=>@Nat.rec (fun _=>Bool) false (fun m _=>g m) i) l
def isR {α:Type}(l:List α):Nat->Bool:=@List.rec α (fun _=>Nat->Bool) (fun i=>zA i 0) (fun _ _ g i=>@Nat.rec (fun _=>Bool) false (fun m _=>g m) i) l
def WT {α:Type}(l:List α):Nat:=@List.rec α (fun _=>Nat->Nat) (fun n=>n) (fun _ _ g n=>g (zG n)) l 0
def J5 {α:Type}(l m:List α):List α:=@List.rec α (fun _=>List α) m (fun a _ g=>a::g) l
def H9 {α:Type}(l:List α):Nat->List α:=@List.rec α (fun _=>Nat->List α) (fun _=>[]) (fun a _ g i=>@Nat.rec (fun _=>List α) [] (fun m _=>a::g m) i) l
def Px {α:Type}(l:List α):Nat->List α:=@List.rec α (fun _=>Nat->List α) (fun _=>[]) (fun a l g i=>@Nat.rec (fun _=>List α) (a::l) (fun m _=>g m) i) l
def A0 {α:Type}(l:List α)(x:α):Nat->List α:=@List.rec α (fun _=>Nat->List α) (fun _=>[]) (fun a l g i=>@Nat.rec (fun _=>List α) (x::l) (fun m _=>a::g m) i) l
def ZfV (l:List AV)(g:List AV):Nat->List AV:=@List.rec AV (fun _=>Nat->List AV) (fun _=>g) (fun a l j i=>@Nat.rec (fun _=>List AV) (J5 g (Px (a::l) (WT g))) (fun m _=>a::j m) i) l
def NP {α:Type}(l:List α):Bool:=@List.rec α (fun _=>Bool) true (fun _ _ _=>false) l
inductive Bx where
 |mk (v:AV)
def Zhs (g:AL):Nat->Bx:=@List.rec (Nat×AV) (fun _=>Nat->Bx) (fun _=>.mk .undef) (fun p _ j t=>@Prod.rec Nat AV (fun _=>Bx) (fun i v=>Yt (zA i t) (.mk v) (j t)) p) g
def CP (g:AL)(t:Nat):AV:=@Bx.rec (fun _=>AV) (fun v=>v) (Zhs g t)
inductive FA where
 |slot (t:Nat)
 |val (v:AV)
def FA.get (a:FA)(g:AL):AV:=@FA.rec (fun _=>AV) (fun t=>CP g t) (fun v=>v) a
def cA (C:Cfg)(n:Nat)(x:Operand):FA :=
 match x with
 |.tmp t=>Yt (zB t n) (.slot t) (.val (.tuple []))
 |x=>.val (eval C [] x)
def cAs (C:Cfg)(n:Nat)(l:List Operand):List FA:=@List.rec Operand (fun _=>List FA) [] (fun x _ g=>cA C n x::g) l
def Zql (l:List FA)(g:AL):List AV:=@List.rec FA (fun _=>List AV) [] (fun x _ j=>x.get g::j) l
def TU (x:Option FA)(g:AL):Option AV:=@Option.rec FA (fun _=>Option AV) none (fun x=>some (x.get g)) x
inductive FG where
 |no
 |els
 |gd (d:Nat) (want:Bool)
def cG (n:Nat)(ops:Array Oper)(o:Oper):FG :=
 match o.guard with
 |none=>.no
 |some (j,want)=>match (match ops[j]? with|some g=>g.dst|none=>none) with
  |none=>.els
  |some d=>bif zB d n then .gd d want else .els
def FG.run {α:Type}(g:FG)(u:AL)(els:α)(x:Option α):Option α :=
 @FG.rec (fun _=>Option α) x (some els) (fun d j=>Z8 (CP u d) j els x) g
def ikN (k:IntKind):Nat:=@IntKind.rec (fun _=>Nat) 0 1 2 3 4 5 6 7 k
def Zhl (k:IntKind):Nat:=@IntKind.rec (fun _=>Nat) 128 32768 2147483648 9223372036854775808 256 65536 4294967296 18446744073709551616 k
def Zky (k:IntKind)(z:Int):Int:=@Int.rec (fun _=>Int) (fun m=>Yt (zB m (Zhl k)) (.ofNat m) (k.wrap (.ofNat m))) (fun m=>k.wrap (.negSucc m)) z
def Ei (a b:AV)(f:IntKind->Int->Int->Option AV):Option AV :=
 match a,b with
 |.int k x,.int k' y=>Yt (zA (ikN k) (ikN k')) (f k x y) none
 |_,_=>none
def ilt (x y:Int):Bool:=@Int.rec (fun _=>Bool) (fun m=>@Int.rec (fun _=>Bool) (fun n=>zB m n) (fun n=>false) y) (fun m=>@Int.rec (fun _=>Bool) (fun n=>true) (fun n=>zB n m) y) x
def ile (x y:Int):Bool:=@Int.rec (fun _=>Bool) (fun m=>@Int.rec (fun _=>Bool) (fun n=>zC m n) (fun n=>false) y) (fun m=>@Int.rec (fun _=>Bool) (fun n=>true) (fun n=>zC n m) y) x
def ieq (x y:Int):Bool:=@Int.rec (fun _=>Bool) (fun m=>@Int.rec (fun _=>Bool) (fun n=>zA m n) (fun n=>false) y) (fun m=>@Int.rec (fun _=>Bool) (fun n=>false) (fun n=>zA n m) y) x
def ZzP (x y:Int):Int:=@Int.rec (fun _=>Int) (fun m=>@Int.rec (fun _=>Int) (fun n=>.ofNat (zE m n)) (fun n=>x+y) y) (fun m=>x+y) x
def ZzU (x y:Int):Int:=@Int.rec (fun _=>Int) (fun m=>@Int.rec (fun _=>Int) (fun n=>Yt (zC n m) (.ofNat (Nat.sub m n)) (x-y)) (fun n=>x-y) y) (fun m=>x-y) x
def fib (op:BinOp)(a b:AV):Option AV :=
 match op with
 |.add=>Ei a b fun k x y=>some (.int k (Zky k (ZzP x y)))
 |.sub=>Ei a b fun k x y=>some (.int k (Zky k (ZzU x y)))
 |.eql=>Ei a b fun k x y=>some (.bool (ieq x y))
 |.neq=>Ei a b fun k x y=>some (.bool (!ieq x y))
 |.lss=>Ei a b fun k x y=>some (.bool (ilt x y))
 |.leq=>Ei a b fun k x y=>some (.bool (ile x y))
 |.gtr=>Ei a b fun k x y=>some (.bool (ilt y x))
 |.geq=>Ei a b fun k x y=>some (.bool (ile y x))
 |op=>Z5 op a b
def eqU (a b:UInt8):Bool:=zA a.toNat b.toNat
def eqS (l:List UInt8):List UInt8->Bool:=@List.rec UInt8 (fun _=>List UInt8->Bool) (fun m=>NP m) (fun a _ g m=>@List.rec UInt8 (fun _=>Bool) false (fun b m _=>Yt (eqU a b) (g m) false) m) l
def fsb (op:BinOp)(x y:AV):Option AV :=
 match op,x,y with
 |.add,.str a,.str b=>Yt (HR a 1000000&&HR b 1000000) (some (.str (J5 a b))) none
 |.eql,.str a,.str b=>some (.bool (eqS a b))
 |.neq,.str a,.str b=>some (.bool (!eqS a b))
 |op,x,y=>Xe op x y
def Cx (g:Bool)(sz:Nat)(cells:List AV)(off:Nat):Option AV :=
 Yt g (Yt (NG cells (off+sz)) (some (.agg (H9 (Px cells off) sz))) none) (DT cells off)
def ZdD (g:Bool)(sz:Nat)(a:AV)(H:Hp):Option AV :=
 match a with
 |.ptr o off=>match DT H o with
  |some (.cells l)=>Cx g sz l off
  |_=>none
 |.vp cells=>Cx g sz cells 0
 |.wp o e off=>match DT H o with
  |some (.row e' l)=>Yt (zA e' e) (Cx g sz l off) none
  |_=>none
 |_=>none
def ZiP (v:AV)(sz:Nat)(l:List AV)(off:Nat):Bool:=v.known&&(isR v.cells sz&&NG l (off+sz))
def AQ (sz:Nat)(a v:AV)(H:Hp):Option (AV×Hp) :=
 match a with
 |.ptr o off=>match DT H o with
  |some (.cells l)=>Yt (ZiP v sz l off) (some (.tuple [],A0 H (.cells (ZfV l v.cells off)) o)) none
  |_=>none
 |.wp o e off=>match DT H o with
  |some (.row e' l)=>Yt (zA e' e&&ZiP v sz l off) (some (.tuple [],A0 H (.row e (ZfV l v.cells off)) o)) none
  |_=>none
 |_=>none
def ixR {α:Type}(l:List α)(i:Int)(f:α->AV):Option AV:=@Int.rec (fun _=>Option AV) (fun m=>@Option.rec α (fun _=>Option AV) none (fun e=>some (f e)) (DT l m)) (fun _=>none) i
def Zm2 (i:Int)(f:Nat->Option AV):Option AV:=@Int.rec (fun _=>Option AV) f (fun _=>none) i
def Zh7 (size:Nat)(x i:AV):Option AV :=
 match x,i with
 |.vs k _ l,.int _ n=>Yt (zA k size) (ixR l n fun e=>.vp e.cells) none
 |.rs _ _ o off len _,.int _ n=>Zm2 n fun m=>Yt (zB m len) (some (.ptr o (zE off (zD m size)))) none
 |.ws _ _ o e len,.int _ n=>Zm2 n fun m=>Yt (zB m len) (some (.wp o e (zD m size))) none
 |_,_=>none
def ZcI (off:Nat)(a:AV):Option AV :=
 match a with
 |.ptr o x=>some (.ptr o (zE x off))
 |.wp o e x=>some (.wp o e (zE x off))
 |.vp cells=>Yt (NG cells off) (some (.vp (Px cells off))) none
 |_=>none
def ZdA (len size:Nat)(x i:AV):Option AV :=
 match i with
 |.int _ n=>Zm2 n fun m=>Yt (zB m len) (ZcI (zD m size) x) none
 |_=>none
def ZdB (g:Bool)(len size:Nat)(x i:AV):Option AV :=
 match x,i with
 |.agg cs,.int _ n=>Zm2 n fun m=>Yt (zB m len) (Cx g size cs (zD m size)) none
 |_,_=>none
def Cv (x i:AV):Option AV :=
 match x,i with
 |.str s,.int _ n=>ixR s n fun b=>.int .u8 (.ofNat b.toNat)
 |_,_=>none
def Zkw (g:AL)(l:List (Nat×Nat×FA)):List AV->Option (List AV) :=
 @List.rec (Nat×Nat×FA) (fun _=>List AV->Option (List AV)) (fun c=>some c) (fun p _ j c=>@Prod.rec Nat (Nat×FA) (fun _=>Option (List AV)) (fun off q=>@Prod.rec Nat FA (fun _=>Option (List AV)) (fun sz a=>Yt (ZiP (a.get g) sz c off) (j (ZfV c (a.get g).cells off)) none) q) p) l
def Zkx (g:AL)(size:Nat)(l:List (Nat×FA)):List AV->Option (List AV) :=
 @List.rec (Nat×FA) (fun _=>List AV->Option (List AV)) (fun c=>some c) (fun p _ j c=>@Prod.rec Nat FA (fun _=>Option (List AV)) (fun i a=>Yt ((a.get g).known&&(isR (a.get g).cells size&&NG c (i+1))) (j (A0 c (a.get g) i)) none) p) l
def ZcH (x:AV)(y:Nat):Option Nat :=
 match x with
 |.int _ n=>@Int.rec (fun _=>Option Nat) (fun m=>Yt (zC m y) (some m) none) (fun _=>none) n
 |_=>none
def AP (len cap:Nat)(lo hi mx:Option AV):Option (Nat×Nat×Nat) :=
 match (match mx with|some v=>ZcH v cap|none=>some cap) with
 |none=>none
 |some m=>match (match hi,mx with|some v,_=>ZcH v m|none,none=>some len|none,some _=>none) with
  |none=>none
  |some h=>match (match lo with|some v=>ZcH v h|none=>some 0) with
   |none=>none
   |some l=>some (l,h,m)
def ZiF (x:AV)(lo hi mx:Option AV):Option AV :=
 match x,mx with
 |.str s,none=>match AP (WT s) (WT s) lo hi none with
  |some (l,h,_)=>some (.str (Px (H9 s h) l))
  |none=>none
 |_,_=>none
def ZdF (size:Nat)(x:AV)(lo hi mx:Option AV):Option AV :=
 match x with
 |.vs k tok l=>Yt (zA k size) (match AP (WT l) (WT l) lo hi mx with
  |some (a,h,m)=>some (.vs k (match mx with
   |some _=>Yt (zA h m) .clip .no
   |none=>Yt (zA h (WT l)) tok .no) (Px (H9 l h) a))
  |none=>none) none
 |x=>Yo size x lo hi mx
def Zh2 (k:Nat)(x:AV)(H:Hp):Option (List AV) :=
 match x with
 |.nils=>some []
 |.vs k' _ l=>Yt (zA k' k) (some l) none
 |x=>elems k x H
def ZhQ (bytes:Nat)(l m:List AV):Bool:=zC bytes 1000000&&(HR l 1000000&&HR m 1000000)
def ZiB (k bytes:Nat)(s:AV)(xs:List AV)(H:Hp):Option (AV×Hp) :=
 match s with
 |.nils=>Yt (NP xs) (some (.nils,H)) (Yt (ZhQ bytes [] xs) (some (.vs k (.own (WT H) (WT xs)) xs,J5 H [.tok (WT xs)])) none)
 |.vs k' tok l =>
  Yt (zA k' k&&ZhQ bytes l xs) (Yt (NP xs) (some (.vs k tok l,H))
   (match tok with
   |.clip=>some (.vs k (.own (WT H) (WT l+WT xs)) (J5 l xs),J5 H [.tok (WT l+WT xs)])
   |.own t e=>match DT H t with
    |some (.tok e')=>Yt (zA e' e) (some (.vs k (.own t (e+WT xs)) (J5 l xs),A0 H (.tok (e+WT xs)) t)) none
    |_=>none
   |.no=>none)) none
 |_=>none
def Zku (k bytes:Nat)(s x:AV)(H:Hp):Option (AV×Hp) :=
 match Zh2 k x H with
 |some xs=>ZiB k bytes s xs H
 |none=>none
def Zcb (l:List AV):List AV:=@List.rec AV (fun _=>List AV) [] (fun a _ g=>J5 a.cells g) l
def Zq2 (n:Nat)(l:List AV):List AV:=Yt (HR l n) l (H9 l n)
def ZpZ (ag:Bool)(k bytes:Nat)(s:AV)(xs:List AV)(H:Hp):Option (AV×Hp) :=
 match s with
 |.nils=>Yt (NP xs) (some (.nils,H)) (Yt (ZhQ bytes [] xs) (some (.ws ag k (WT H) 0 (WT xs),J5 H [.row 0 (Zcb xs)])) none)
 |.ws ag' k' o e len=>Yt (Yt ag ag' (!ag')&&(zA k' k&&(zC bytes 1000000&&(zC len 1000000&&HR xs 1000000)))) (Yt (NP xs) (some (.ws ag k o e len,H))
  (match DT H o with
  |some (.row e' l)=>Yt (zA e' e&&NG l (zD len k)) (some (.ws ag k o (zG e) (zE len (WT xs)),A0 H (.row (zG e) (J5 (Zq2 (zD len k) l) (Zcb xs))) o)) none
  |_=>none)) none
 |s=>Qk ag k bytes s xs H
def Zh0 (ag:Bool)(k bytes:Nat)(s x:AV)(H:Hp):Option (AV×Hp) :=
 match Zh2 k x H with
 |some xs=>ZpZ ag k bytes s xs H
 |none=>none
def Zqd (d:TypeDesc)(x:AV):Option AV :=
 match d with
 |.string=>match x with
  |.str s=>some (.int .i64 (.ofNat (WT s)))
  |_=>none
 |.slice _=>match x with
  |.nils=>some (.int .i64 (.ofNat 0))
  |.vs _ _ l=>some (.int .i64 (.ofNat (WT l)))
  |.rs _ _ _ _ len _=>some (.int .i64 (.ofNat len))
  |.ws _ _ _ _ len=>some (.int .i64 (.ofNat len))
  |_=>none
 |d=>Zl d x
def Zkv (x:AV)(k:IntKind):Option AV :=
 match x with
 |.int _ n=>some (.int k (Zky k n))
 |_=>none
inductive FP where
 |mk (f:AL->Option AV)
inductive FR where
 |mk (f:AL->Hp->Option AV)
inductive FH where
 |mk (f:Zw->AL->Hp->Option (AV×Hp))
inductive FO where
 |mv (dst:Option Tmp) (a:FA)
 |p (dst:Option Tmp) (g:FG) (f:FP)
 |r (dst:Option Tmp) (g:FG) (f:FR)
 |h (dst:Option Tmp) (g:FG) (f:FH)
 |lag (dst:Option Tmp) (i:Nat) (f:AL->Option AObj)
 |bad
def ZkX (C:Cfg)(n:Nat)(g:List (Nat×Nat))(l:List (Nat×Operand)):Option (List (Nat×Nat×FA)) :=
 @List.rec (Nat×Operand) (fun _=>Option (List (Nat×Nat×FA))) (some []) (fun p _ j=>match DT g p.1,j with
  |some q,some r=>some ((q.1,q.2,cA C n p.2)::r)
  |_,_=>none) l
def ZkU (C:Cfg)(n:Nat)(t:TypeId)(parts:List (Nat×Operand)):FP :=
 match VP C.P t,C.P.underlying t with
 |some (.agg zero),some (.struct fs) =>
  match fs.toList.mapM fun f=>(YE C.P f.type).map (f.offset,·) with
  |some g=>match ZkX C n g parts with
   |some u=>.mk fun j=>match Zkw j u zero with
    |some l=>some (.agg l)
    |none=>none
   |none=>.mk fun _=>none
  |none=>.mk fun _=>none
 |_,_=>.mk fun j=>LQ C.P t (parts.map fun p=>(p.1,(cA C n p.2).get j))
def Zit (C:Cfg)(n:Nat)(t:TypeId)(len:Nat)(parts:List (Nat×Operand)):FP :=
 match Ca C.P t with
 |some e=>match YE C.P e,VP C.P e with
  |some size,some z=>match decide (len*size<=16777216)&&(z.known&&(isR z.cells size&&zB 0 size)) with
   |true=>.mk fun g=>match Zkx g size (parts.map fun p=>(p.1,cA C n p.2)) (zF len z) with
    |some l=>some (.vs size .clip l)
    |none=>none
   |false=>.mk fun _=>none
  |_,_=>.mk fun _=>none
 |none=>.mk fun _=>none
def ZpA (C:Cfg)(n:Nat)(op:Op):FP :=
 match op with
 |.binOp op t x y _=>match Ok C.P t with
  |true=>match AJ x y with
   |true=>.mk fun j=>O5 op ((cA C n x).get j) ((cA C n y).get j)
   |false=>.mk fun _=>none
  |false=>match C.P.underlying t with
   |some (.int _)=>.mk fun j=>fib op ((cA C n x).get j) ((cA C n y).get j)
   |some .string=>.mk fun j=>fsb op ((cA C n x).get j) ((cA C n y).get j)
   |some (.struct _)=>.mk fun j=>JA C.P C.eqok op t ((cA C n x).get j) ((cA C n y).get j)
   |some (.array _ _)=>.mk fun j=>JA C.P C.eqok op t ((cA C n x).get j) ((cA C n y).get j)
   |some d=>.mk fun j=>Yy d op ((cA C n x).get j) ((cA C n y).get j)
   |none=>.mk fun _=>none
 |.build t parts=>ZkU C n t parts.toList
 |.buildSlice t len parts=>Zit C n t len parts.toList
 |.fieldAddr t x f=>match PX C.P t f with
  |some u=>match YE C.P u.type with
   |some sz=>match zB 0 sz with
    |true=>.mk fun j=>ZcI u.offset ((cA C n x).get j)
    |false=>.mk fun _=>none
   |none=>.mk fun _=>none
  |none=>.mk fun _=>none
 |.field t x f=>match PX C.P t f with
  |some u=>match YO C.P u.type,YE C.P u.type with
   |some g,some sz=>.mk fun j=>match (cA C n x).get j with
    |.agg cs=>Cx g sz cs u.offset
    |_=>none
   |_,_=>.mk fun _=>none
  |none=>.mk fun _=>none
 |.indexAddr t x i=>match C.P.underlying t with
  |some (.slice e)=>match YE C.P e with
   |some size=>.mk fun j=>Zh7 size ((cA C n x).get j) ((cA C n i).get j)
   |none=>.mk fun _=>none
  |some (.array len e)=>match YE C.P e with
   |some size=>.mk fun j=>ZdA len size ((cA C n x).get j) ((cA C n i).get j)
   |none=>.mk fun _=>none
  |_=>.mk fun _=>none
 |.index t x i=>match C.P.underlying t with
  |some .string=>.mk fun j=>Cv ((cA C n x).get j) ((cA C n i).get j)
  |some (.array len e)=>match YO C.P e,YE C.P e with
   |some g,some size=>.mk fun j=>ZdB g len size ((cA C n x).get j) ((cA C n i).get j)
   |_,_=>.mk fun _=>none
  |_=>.mk fun _=>none
 |.slice t x lo hi mx=>match C.P.underlying t with
  |some .string=>.mk fun j=>ZiF ((cA C n x).get j) (TU (lo.map (cA C n)) j) (TU (hi.map (cA C n)) j) (TU (mx.map (cA C n)) j)
  |some (.slice e)=>match YE C.P e with
   |some size=>.mk fun j=>ZdF size ((cA C n x).get j) (TU (lo.map (cA C n)) j) (TU (hi.map (cA C n)) j) (TU (mx.map (cA C n)) j)
   |none=>.mk fun _=>none
  |_=>.mk fun _=>none
 |.convert s d x=>match C.P.underlying s,C.P.underlying d with
  |some (.int _),some (.int k)=>.mk fun j=>Zkv ((cA C n x).get j) k
  |_,_=>.mk fun j=>SZ C.P C.wrb s d ((cA C n x).get j)
 |.call { callee:=.builtin .len,args,argTypes }=>match args.toList,argTypes.toList with
  |[x],[t]=>match C.P.underlying t with
   |some d=>.mk fun j=>Zqd d ((cA C n x).get j)
   |none=>.mk fun _=>none
  |_,_=>.mk fun _=>none
 |.extract t i=>.mk fun j=>match (cA C n t).get j with
  |.tuple l=>DT l i
  |_=>none
 |.pick c a b=>.mk fun j=>Zj ((cA C n c).get j) ((cA C n a).get j) ((cA C n b).get j)
 |.unOp op _ x=>.mk fun j=>Xk op ((cA C n x).get j)
 |.load t a=>match YO C.P t,YE C.P t with
  |some g,some sz=>.mk fun j=>Wf g sz ((cA C n a).get j)
  |_,_=>.mk fun _=>none
 |.nilCheck x=>.mk fun j=>Zu ((cA C n x).get j)
 |op=>.mk fun j=>ZJ C (YA C n j) op
def ZpB (C:Cfg)(n:Nat)(op:Op):FR :=
 match op with
 |.load t a=>match YO C.P t,YE C.P t with
  |some g,some sz=>.mk fun j H=>ZdD g sz ((cA C n a).get j) H
  |_,_=>.mk fun _ _=>none
 |op=>.mk fun j H=>Ga C (YA C n j) H op
structure Kn where
 fl:FuncId->List AV->Option AV
 ef:FuncId->Option (List AV->Hp->Option (AV×Hp))
def k0:Kn:=⟨fun _ _=>none,fun _=>none⟩
def ZzF (K:Kn)(f:FuncId)(h:List AV->Hp->Option (AV×Hp)):Kn:=⟨K.fl,fun g=>Yt (zA g f) (some h) (K.ef g)⟩
def Yg (l:List (Nat×List AV×AV)):Kn:=⟨fun f args=>@List.rec (Nat×List AV×AV) (fun _=>Option AV) none (fun e _ u=>@Prod.rec Nat (List AV×AV) (fun _=>Option AV) (fun g q=>@Prod.rec (List AV) AV (fun _=>Option AV) (fun j v=>Yt (zA f g&&AV.eqbL args j) (some v) u) q) e) l,fun _=>none⟩
inductive FC2 where
 |fn (f:FuncId)
 |ext (e:ExtK)
 |sum (g:List AV->Option AV)
 |eff (g:List AV->Hp->Option (AV×Hp))
 |flat (f:FuncId)
 |ro (f:FuncId)
 |no
def Zks (K:Kn)(C:Cfg)(f:FuncId):FC2 :=
 match C.ext f with
 |some e=>.ext e
 |none=>match C.sum f with
  |some g=>.sum g
  |none=>match C.eff f with
   |some g=>match K.ef f with
    |some h=>.eff h
    |none=>.eff g.run
   |none=>match C.user f with
    |true=>match C.flat f with
     |true=>.flat f
     |false=>match C.ro f with
      |true=>.ro f
      |false=>.fn f
    |false=>.no
def FC2.run (K:Kn)(g:FC2)(CL:Zw)(args:List AV)(H:Hp):Option (AV×Hp) :=
 match g with
 |.fn f=>CL f args H
 |.ext e=>HQ e args H
 |.sum g=>Ah g args H
 |.eff g=>g args H
 |.flat f=>match K.fl f args with
  |some v=>some (v,H)
  |none=>Zf (CL f) args H
 |.ro f=>QU (CL f) args H
 |.no=>none
def Zlv (x:AV)(H:Hp):Option (AV×Hp):=Yt x.known (some (.ptr (WT H) 0,J5 H [.cells x.cells])) none
def Zpy (K:Kn)(C:Cfg)(n:Nat)(op:Op):FH :=
 match op with
 |.store t a x=>match YE C.P t with
  |some sz=>match stC C (.store t a x) with
   |0=>.mk fun _ g H=>AQ sz ((cA C n a).get g) ((cA C n x).get g) H
   |k+1=>.mk fun _ g H=>Yt (stV (k+1) ((cA C n a).get g)) (AQ sz ((cA C n a).get g) ((cA C n x).get g) H) none
  |none=>.mk fun _ _ _=>none
 |.box _ x=>.mk fun _ g H=>Zlv ((cA C n x).get g) H
 |.alloc e=>match VP C.P e with
  |some z=>match C.bld e with
   |some u=>.mk fun CL g H=>ZC C CL (YA C n g) H (.alloc e)
   |none=>.mk fun _ _ H=>Zlv z H
  |none=>.mk fun _ _ _=>none
 |.call { callee:=.builtin .append,args,argTypes }=>match args.toList,argTypes.toList with
  |[s,x],[st,xt]=>match Ca C.P st,C.P.underlying xt with
   |some e,some xd=>match X0 xd with
    |false=>.mk fun _ _ _=>none
    |true=>match YE C.P e,JB C.P e with
     |some k,some bytes=>match zB 0 k&&ZmL C.P e k with
      |true=>match ZA0 C e with
       |some ag=>.mk fun _ g H=>Zh0 ag k bytes ((cA C n s).get g) ((cA C n x).get g) H
       |none=>.mk fun _ g H=>Zku k bytes ((cA C n s).get g) ((cA C n x).get g) H
      |false=>.mk fun _ _ _=>none
     |_,_=>.mk fun _ _ _=>none
   |_,_=>.mk fun _ _ _=>none
  |_,_=>.mk fun _ _ _=>none
 |.call { callee:=.value (.func f),args,.. }=>.mk fun CL g H=>(Zks K C f).run K CL (Zql (cAs C n args.toList) g) H
 |op=>.mk fun CL g H=>ZC C CL (YA C n g) H op
def cOp (K:Kn)(C:Cfg)(n:Nat)(ops:Array Oper)(fl:Bool)(o:Oper):FO :=
 match o.guard,ZqK o.op with
 |none,some x=>.mv o.dst (cA C n x)
 |_,_=>match (if fl then 0 else Xo C o.op) with
  |0=>.p o.dst (cG n ops o) (ZpA C n o.op)
  |1=>.r o.dst (cG n ops o) (ZpB C n o.op)
  |_=>.h o.dst (cG n ops o) (Zpy K C n o.op)
def EA (k:AL->Hp->Z4)(g:Option Tmp)(v:AV)(j:AL)(H:Hp):Z4:=@Option.rec Tmp (fun _=>Z4) (k j H) (fun d=>k ((d,v)::j) H) g
def FO.run (o:FO)(CL:Zw)(b:Nat)(k:AL->Hp->Z4)(u:AL)(H:Hp):Z4 :=
 @FO.rec (fun _=>Z4) (fun j a=>EA k j (a.get u) u H)
  (fun j g f=>@Option.rec AV (fun _=>Z4) none (fun v=>EA k j v u H) (g.run u (.tuple []) (@FP.rec (fun _=>Option AV) (fun f=>f u) f)))
  (fun j g f=>@Option.rec AV (fun _=>Z4) none (fun v=>EA k j v u H) (g.run u (.tuple []) (@FR.rec (fun _=>Option AV) (fun f=>f u H) f)))
  (fun j g f=>@Option.rec (AV×Hp) (fun _=>Z4) none (fun r=>@Prod.rec AV Hp (fun _=>Z4) (fun v H=>EA k j v u H) r) (g.run u (.tuple [],H) (@FH.rec (fun _=>Option (AV×Hp)) (fun f=>f CL u H) f)))
  (fun j i f=>Z0 (KN (b+i) (f u) H) fun r=>EA k j r.1 u r.2)
  none o
def OE (CL:Zw)(b:Nat)(k:AL->Hp->Z4)(l:List FO):AL->Hp->Z4:=@List.rec FO (fun _=>AL->Hp->Z4) k (fun o _ j g H=>o.run CL b j g H) l
def Zpz (K:Kn)(C:Cfg)(n:Nat)(ops:Array Oper)(draw:Bool)(l:List Oper):Nat->List FO :=
 @List.rec Oper (fun _=>Nat->List FO) (fun _=>[]) (fun o _ g i=>cOp K C n ops (draw&&YG C ops i) o::g (i+1)) l
def Zvk (C:Cfg)(n:Nat)(ops:Array Oper)(i:Nat)(o:Oper):FO :=
 match YG C ops i with
 |true=>.bad
 |false=>.lag o.dst (XI C ops i) fun g=>RB C (YA C n g) o.op
def ZgK (K:Kn)(C:Cfg)(n:Nat)(ops:Array Oper)(l:List Oper):Nat->List FO :=
 @List.rec Oper (fun _=>Nat->List FO) (fun _=>[]) (fun o _ g i=>(match lag C ops i with|true=>Zvk C n ops i o|false=>cOp K C n ops (YG C ops i) o)::g (i+1)) l
inductive FC where
 |skip
 |reg (fz:List Nat) (ck:List (FA×FA)) (free:Nat) (l:List FO)
 |seq (a:FC) (tr:Option (List Nat)) (b:FC)
 |cond (c:FA) (x y:FC)
 |block (id:Nat) (c:FC)
 |loop (tr:Option (List Nat)) (c:FC)
 |exit (id:Nat)
 |goto (l:Nat)
 |ret
 |bad
def Pp (kp:Nat->Option (List Nat))(c:Code):Option (List Nat) :=
 match Yr c with
 |none=>none
 |some r=>kp r
def ZkV (C:Cfg)(n:Nat)(ops:Array Oper)(draw:Bool):List (FA×FA) :=
 match draw with
 |false=>[]
 |true=>(TP C ops).map fun p=>(cA C n (.tmp p.1),cA C n (.tmp p.2))
def Zvo (K:Kn)(C:Cfg)(kp:Nat->Option (List Nat))(n:Nat)(id:Nat)(ops:Array Oper)(draw:Bool):FC :=
 match draw&&!(W2 ops&&JT C ops) with
 |true=>.bad
 |false=>match ZlR C ops draw with
  |true=>.reg (match kp (id+1000000) with|none=>[]|some ts=>ts) (ZkV C n ops draw) (XI C ops ops.size) (ZgK K C n ops ops.toList 0)
  |false=>.reg (match kp (id+1000000) with|none=>[]|some ts=>ts) (ZkV C n ops draw) 0 (Zpz K C n ops draw ops.toList 0)
def DH (K:Kn)(C:Cfg)(kp:Nat->Option (List Nat))(n:Nat)(c:Code):FC :=
 @Code.rec (fun _=>FC) .skip (fun id ops draw=>Zvo K C kp n id ops draw) (fun _ b j u=>.seq j (Pp kp b) u) (fun c _ _ w y=>.cond (cA C n c) w y)
  (fun id _ g=>.block id g) (fun c g=>.loop (Pp kp c) g) (fun _ _ _ _ _ _=>.bad) (fun id=>.exit id) (fun c g=>match Xd c with|true=>g|false=>.bad) (fun _=>.skip) (fun l=>.goto l) .ret (fun _=>.bad) c
def Zrj (g:AL)(l:List Nat):(AL->Z4)->Z4 :=
 @List.rec Nat (fun _=>(AL->Z4)->Z4) (fun k=>k []) (fun t _ j k=>@Bx.rec (fun _=>Z4) (fun v=>j fun r=>k ((t,v)::r)) (Zhs g t)) l
def ZhV (tr:Option (List Nat))(g:AL)(k:AL->Z4):Z4:=@Option.rec (List Nat) (fun _=>Z4) (k g) (fun keep=>Zrj g keep k) tr
def ZiE (n:Nat)(k:AL->Hp->Z4)(u:List Nat):AL->Hp->Z4 :=
 @List.rec Nat (fun _=>AL->Hp->Z4) k (fun t _ j g H=>WS (Yt (zB t n) (CP g t) (.tuple [])) H fun v H'=>j ((t,v)::g) H') u
def Zmn (CL:Zw)(free:Nat)(l:List FO)(k:KL)(g:AL)(H:Hp):Z4 :=
 @Nat.rec (fun _=>Z4) (OE CL 0 (fun g H=>k .normal g H) l g H) (fun m _=>OE CL H.length (fun g H=>k .normal g H) l g (H++zF (m+1) .free)) free
abbrev eK (e:AExit)(a:Z4)(b:Nat->Z4)(c:Nat->Z4)(d:Z4):Z4:=@AExit.rec (fun _=>Z4) a b c d e
def Zht (tr:Option (List Nat))(body:KL->AL->Hp->Z4)(fuel:Nat):KL->AL->Hp->Z4 :=
 @Nat.rec (fun _=>KL->AL->Hp->Z4) (fun _ _ _=>none) (fun _ j k g H=>ZhV tr g fun g=>body (fun e g H=>eK e (j k g H) (fun i=>k (.exit i) g H) (fun l=>k (.goto l) g H) (k .ret g H)) g H) fuel
def ckR (j:List (FA×FA))(g:AL)(r:Z4):Z4 :=
 @List.rec (FA×FA) (fun _=>Z4) r (fun p _ u=>Z0 (Sa (p.1.get g) (p.2.get g)) fun _=>u) j
def Pe (n:Nat)(CL:Zw)(fuel:Nat)(c:FC):KL->AL->Hp->Z4 :=
 @FC.rec (fun _=>KL->AL->Hp->Z4) (fun k g H=>k .normal g H)
  (fun fz A free l k g H=>ZiE n (fun g H=>ckR A g (Zmn CL free l k g H)) fz g H)
  (fun _ tr _ u w k g H=>u (fun e g H=>eK e (ZhV tr g fun g=>w k g H) (fun i=>k (.exit i) g H) (fun l=>k (.goto l) g H) (k .ret g H)) g H)
  (fun c _ _ y z k g H=>match c.get g with|.bool t=>Yt t (y k g H) (z k g H)|_=>none)
  (fun id _ j k g H=>j (fun e g H=>eK e (k .normal g H) (fun i=>Yt (zA i id) (k .normal g H) (k (.exit i) g H)) (fun l=>k (.goto l) g H) (k .ret g H)) g H)
  (fun tr _ j k g H=>Zht tr j fuel k g H)
  (fun id k g H=>k (.exit id) g H) (fun l k g H=>k (.goto l) g H) (fun k g H=>k .ret g H) (fun _ _ _=>none) c
inductive FF where
 |mk (n:Nat) (pure:Bool) (res:List (FA×Option (Bool×Nat))) (c:FC)
 |bad
def ZkY (C:Cfg)(n:Nat)(r:ResultVar):Option (FA×Option (Bool×Nat)) :=
 match r with
 |.tmp t=>some (cA C n (.tmp t),none)
 |.cell a t=>match YO C.P t,YE C.P t with
  |some g,some sz=>some (cA C n (.tmp a),some (g,sz))
  |_,_=>none
def Zvi (K:Kn)(C:Cfg)(f:FuncId):FF :=
 match C.P.funcs[f]? with
 |none=>.bad
 |some fn=>match D4 C f fn with
  |none=>.bad
  |some c=>match fn.results.toList.mapM (ZkY C fn.ntmps) with
   |some rs=>.mk fn.ntmps (C.pure f) rs (DH K C (C.keep f) fn.ntmps c)
   |none=>.bad
def ZfJ (H:Hp)(u:AL)(k:List AV->Z4)(l:List (FA×Option (Bool×Nat))):List AV->Z4 :=
 @List.rec (FA×Option (Bool×Nat)) (fun _=>List AV->Z4) k (fun r _ w j=>match r with
  |(a,none)=>w (J5 j [a.get u])
  |(a,some (g,sz))=>Z0 (ZdD g sz (a.get u) H) fun v=>w (J5 j [v])) l
def ZfD (l:List AV):AV:=match l with
 |[v]=>v
 |l=>.tuple l
def AR (pure:Bool)(g:Hp)(v:AV)(H:Hp):Z4:=Yt pure (match HP (H.take g.length) g with
 |true=>match Zb H g.length 9 v with
  |some v'=>some (v',g)
  |none=>none
 |false=>none) (some (v,H))
def ZAe (CL:Zw)(fuel:Nat)(g:FF)(args:List AV)(H:Hp):Z4 :=
 match g with
 |.mk n pu rs c=>Yt (zC args.length n) (Pe n CL fuel c (fun e j H1=>eK e (ZfJ H1 j (fun l=>AR pu H (ZfD l) H1) rs []) (fun _=>none) (fun _=>none) (ZfJ H1 j (fun l=>AR pu H (ZfD l) H1) rs [])) (MI 0 args) H) none
 |.bad=>none
def C5 (K:Kn)(C:Cfg)(fuel:Nat):Nat->Zw:=fun d=>@Nat.rec (fun _=>Zw) (fun _ _ _=>none) (fun _ g f args H=>ZAe g fuel (Zvi K C f) args H) d
end
end Go.Am
