/- The helpers of chapter 24's laws -/
import Derived.Test.YtnaneekpogohaaaGreatDoorXeCox
import Derived.Test.YtnaneekpogohaaaGreatDoorXeAwx
import Derived.Test.YtnaneekpogohaaaGreatDoorXeGLx
import Derived.Test.YtnaneekpogohaaaGreatDoorXeYzx
namespace Go.Am
set_option linter.unusedSectionVars false
set_option maxRecDepth 100000
def ZwQ (l:List Zl):Prop:=l.length<=40/\∀ s∈l,s.length<=200
def Kp (p:Spec)(xp:AV)(mem w:Int):List AV:=p.cells xp++[.int .i64 mem,.int .i64 w]
section
variable {p:Spec}{xp:AV}{mem w:Int}
theorem Zwb (H:Hp):ZQ (.agg (Kp p xp mem w)) H=some (.ptr H.length 0,H++[.cells (Kp p xp mem w)]):=Yu _ _
theorem Zb5 {H:Hp}{n:Nat}(h:H[n]?=some (.cells (Kp p xp mem w))):Z3 true 5 (.ptr n 0) H=some (.agg (p.cells xp)):=by rw[Yv h];rfl
theorem Zh2 {H:Hp}{n:Nat}(h:H[n]?=some (.cells (Kp p xp mem w))):Z3 true 2 (.ptr n 5) H=some (.agg [.int .i64 mem,.int .i64 w]):=by rw[Yv h];rfl
end
theorem ZdZ (o:Nat):Z6 5 (.ptr o 0)=some (.ptr o 5):=rfl
theorem Zxs:BOk []:=⟨by simp,(fun f g=>by cases g),(fun f g=>by cases g),by simp,by simp[Zr],(fun f g=>by cases g)⟩
theorem ZwY:LocSm defL:=⟨by simp[defL],by simp[defL],by simp[defL]⟩
end Go.Am
namespace Go.Am
open Go.Proofs Go.Proofs.YtnaneekpogohaaaGreatDoor
set_option maxRecDepth 100000
section
variable {H:Type}
theorem ZwC {n:Nat}{d:DataW H}{j:List AV}(h:TV Tryz.prog n 24 d j)(D:K0 d):∃ (p:Spec) (xp:AV),j=p.cells xp/\Sl 5 xp (p.keys.map Ke.av)/\(∀ k∈p.keys,KeOk k)/\p.keys.length<=1048576:=by
 obtain⟨K,parts,m,rfl,rfl,B,C,g⟩:=h.fields ZsJ;obtain⟨a,b,c,d,e,rfl⟩:=ZeT B;obtain⟨a',b',c',d',A,rfl⟩:=ZeT C;obtain⟨x,I,rfl,F,hk,E⟩:=ZxQ (g 0 22 a a' rfl rfl rfl) (ZkM D (i:=0) rfl);obtain⟨y,_,rfl,_⟩:=(g 1 3 b b' rfl rfl rfl).int Ge;obtain⟨z,_,rfl,_⟩:=(g 2 3 c c' rfl rfl rfl).int Ge;obtain⟨u,_,rfl⟩:=(g 3 4 d d' rfl rfl rfl).bool Zpn;obtain⟨v,_,rfl⟩:=(g 4 4 e A rfl rfl rfl).bool Zpn;exact⟨⟨I,y,z,v,u⟩,x,rfl,F,hk,E⟩
theorem Zwc {d:DataW H}{a:AV}(h:AT Tryz.prog 28 d a)(y:K0 d):∃ (p:Spec) (xp:AV) (mem w:Int),a=.agg (Kp p xp mem w)/\Sl 5 xp (p.keys.map Ke.av)/\(∀ k∈p.keys,KeOk k)/\p.keys.length<=1048576:=by
 obtain⟨n,D,z,e0⟩:=h.agg Zyn;subst e0;obtain⟨E,parts,m,rfl,rfl,j,u,g⟩:=z.fields ZsL;obtain⟨a,b,rfl⟩:=OU j;obtain⟨a',b',rfl⟩:=OU u;obtain⟨p,xp,rfl,A,B,C⟩:=ZwC (g 0 24 a a' rfl rfl rfl) (ZkM y (i:=0) rfl);obtain⟨m,w,rfl⟩:=Zwz (g 1 26 b b' rfl rfl rfl);exact⟨p,xp,m,w,by simp[Kp],A,B,C⟩
end
def argTypes2:List Nat:=[3,4,9,22,24,26,28,29,30,32,33,38,119]
theorem ZlQ:argTypes2.all (BB Tryz.prog argTypes2)=true:=by kernel_rfl
theorem ZwL:Tryz.prog.underlying 30=some (.int .u64):=by kernel_rfl
theorem ZsM:Ka Tryz.prog 32=some [3,30]:=by kernel_rfl
theorem ZwM:Tryz.prog.underlying 33=some (.array 3 32):=by kernel_rfl
theorem Zyp:WB Tryz.prog 33=true:=by kernel_rfl
theorem Zzu {n:Int}(h:(Lit.int .u64 n).wf=true):∃ k:Nat,n=(k:Int):=by
 have g:IntKind.u64.min=0:=by decide
 have j:IntKind.u64.max=18446744073709551615:=by decide
 simp only[Lit.wf,g,j,Bool.and_eq_true,decide_eq_true_eq]at h;exact⟨n.toNat,by omega⟩
theorem Znx {α:Type}{l:List α}(h:l.length=3):∃ a b c,l=[a,b,c]:=match l,h with|[a,b,c],_=>⟨a,b,c,rfl⟩
section
variable {H:Type}
theorem ZjA {n:Nat}{d:DataW H}{g:List AV}(h:TV Tryz.prog n 32 d g):∃ (u:Int) (k:Nat),g=[.int .i64 u,.int .u64 (k:Int)]:=by
 obtain⟨C,parts,m,rfl,rfl,z,A,j⟩:=h.fields ZsM;obtain⟨a,b,rfl⟩:=OU z;obtain⟨a',b',rfl⟩:=OU A;obtain⟨x,_,rfl,_⟩:=(j 0 3 a a' rfl rfl rfl).int Ge;obtain⟨y,_,rfl,B⟩:=(j 1 30 b b' rfl rfl rfl).int ZwL;obtain⟨k,rfl⟩:=Zzu B;exact⟨x,k,rfl⟩
theorem Zvs {d:DataW H}{a:AV}(h:AT Tryz.prog 33 d a):∃ (z A B:Int) (k0 u y:Nat),a=.agg [.int .i64 z,.int .u64 (k0:Int),.int .i64 A,.int .u64 (u:Int),.int .i64 B,.int .u64 (y:Int)]:=by
 obtain⟨n,K,g,e0⟩:=h.agg Zyp;subst e0
 cases n with
 |zero=>exact g.elim
 |succ n =>
  unfold TV at g;rw[ZwM]at g;obtain⟨L,parts,rfl,rfl,C,D,j⟩:=g;obtain⟨a,b,c,rfl⟩:=Znx C;obtain⟨a',b',c',rfl⟩:=Znx D;obtain⟨E,k0,rfl⟩:=ZjA (j 0 a a' rfl rfl);obtain⟨F,u,rfl⟩:=ZjA (j 1 b b' rfl rfl);obtain⟨I,y,rfl⟩:=ZjA (j 2 c c' rfl rfl);exact⟨E,F,I,k0,u,y,rfl⟩
end
end Go.Am
