/- The arguments of RunsWrites -/
import Derived.Test.YtjmhpjoedfegkaaGreatDoorRwYzx
namespace Go.Am
open Go.Proofs Go.Proofs.YtjmhpjoedfegkaaGreatDoor
set_option maxRecDepth 100000
def argTypes:dv:=[3,4,9,23,24,26,27,28,30,65,67,142]
theorem Zos:argTypes.all (BV Tryz.prog argTypes)=true:=dz
theorem ZxU:Tryz.prog.underlying 65=some (.int .u64):=dz
theorem ZxT:Tryz.prog.underlying 28=some (.slice 67):=dz
theorem Ztp:Kf Tryz.prog 23=some [3,3,3]:=dz
theorem Ztr:Kf Tryz.prog 30=some [26,27,28]:=dz
theorem Zts:Kf Tryz.prog 67=some [3,3,65]:=dz
theorem Zzv:WD Tryz.prog 23=true:=dz
theorem Zzw:WD Tryz.prog 30=true:=dz
theorem Zzx:WD Tryz.prog 67=true:=dz
theorem Zw2:Tryz.prog.cellsOf 67=3:=dz
theorem ZAK {n:Int}(h:(Lit.int .u64 n).wf=true):∃ k:Nat,n=(k:Int):=by
 have j:IntKind.u64.min=0:=di
 have u:IntKind.u64.max=18446744073709551615:=di
 simp only[Lit.wf,j,u,Bool.and_eq_true,decide_eq_true_eq]at h;exact⟨n.toNat,b5⟩
theorem M2 {α:Type}{l:List α}(h:l.length=3):∃ a b c,l=[a,b,c]:=match l,h with|[a,b,c],_=>⟨a,b,c,rfl⟩
structure Cw where
 op:Int
 n:Int
 kept:Nat
def Cw.cells (c:Cw):du:=[.int .i64 c.op,.int .i64 c.n,.int .u64 (c.kept:Int)]
def Cw.av (c:Cw):AV:=.agg c.cells
def ZiX (c:Cw):Prop:=c.n<=9223372036854775807
def JJ (p:Spec)(xp x y:AV):du:=p.cells xp++[x,y]
section
variable {H:Type}
theorem ZAx {n:Nat}{d:DataW H}{u:du}(h:TV Tryz.prog n 67 d u):∃ c:Cw,ZiX c/\u=c.cells:=by
 obtain⟨D,parts,m,rfl,rfl,w,A,j⟩:=h.fields Zts;obtain⟨a,b,c,rfl⟩:=M2 w;obtain⟨a',b',c',rfl⟩:=M2 A;obtain⟨x,_,rfl,_⟩:=(j 0 3 a a' rfl rfl rfl).int Q6;obtain⟨y,_,rfl,B⟩:=(j 1 3 b b' rfl rfl rfl).int Q6;obtain⟨z,_,rfl,C⟩:=(j 2 65 c c' rfl rfl rfl).int ZxU;obtain⟨k,rfl⟩:=ZAK C;exact⟨⟨x,y,k⟩,(Zcs B).2,rfl⟩
theorem ZzL {n:Nat}{d:DataW H}{j:du}(h:TV Tryz.prog n 28 d j)(w:J6 d):∃ (x:AV) (u:List Cw),j=[x]/\Sl 3 x (u.map Cw.av)/\(∀ k∈u,ZiX k)/\u.length<=1048576 :=
 ZjW ZxT Zw2 (λm d' B A w=>by
  obtain⟨k,z,y⟩:=ZAx A;exact⟨k,z,by rw[y,Zzx];rfl⟩) h w
theorem ZxI {n:Nat}{d:DataW H}{w:du}(h:TV Tryz.prog n 26 d w)(D:J6 d):∃ (p:Spec) (xp:AV),w=p.cells xp/\Sl 5 xp (p.keys.map Ke.av)/\(∀ k∈p.keys,KeOk k)/\p.keys.length<=1048576:=by
 obtain⟨M,parts,m,rfl,rfl,B,C,j⟩:=h.fields Ztq;obtain⟨a,b,c,d,e,rfl⟩:=ZcE B;obtain⟨a',b',c',d',A,rfl⟩:=ZcE C;obtain⟨x,L,rfl,G,E,F⟩:=ZyT (j 0 24 a a' rfl rfl rfl) (Om D (i:=0) rfl);obtain⟨y,_,rfl,_⟩:=(j 1 3 b b' rfl rfl rfl).int Q6;obtain⟨z,_,rfl,_⟩:=(j 2 3 c c' rfl rfl rfl).int Q6;obtain⟨u,_,rfl⟩:=(j 3 4 d d' rfl rfl rfl).bool ZpR;obtain⟨v,_,rfl⟩:=(j 4 4 e A rfl rfl rfl).bool ZpR;exact⟨⟨L,y,z,v,u⟩,x,rfl,G,E,F⟩
theorem Zs5 {d:DataW H}{a:AV}(h:AT Tryz.prog 23 d a):∃ st lim fl:Int,a=.agg [.int .i64 st,.int .i64 lim,.int .i64 fl]/\(-9223372036854775808<=st/\st<=9223372036854775807)/\(-9223372036854775808<=lim/\lim<=9223372036854775807)/\fl<=9223372036854775807:=by
 obtain⟨n,E,A,e0⟩:=h.agg Zzv;subst e0;obtain⟨F,parts,m,rfl,rfl,u,w,j⟩:=A.fields Ztp;obtain⟨a,b,c,rfl⟩:=M2 u;obtain⟨a',b',c',rfl⟩:=M2 w;obtain⟨x,_,rfl,B⟩:=(j 0 3 a a' rfl rfl rfl).int Q6;obtain⟨y,_,rfl,C⟩:=(j 1 3 b b' rfl rfl rfl).int Q6;obtain⟨z,_,rfl,D⟩:=(j 2 3 c c' rfl rfl rfl).int Q6;exact⟨x,y,z,rfl,Zcs B,Zcs C,(Zcs D).2⟩
theorem ZAg {d:DataW H}{a:AV}(h:AT Tryz.prog 30 d a)(w:J6 d):∃ (p:Spec) (xp x y:AV) (l:List ZW) (j:List Cw),a=.agg (JJ p xp x y)/\Sl 5 xp (p.keys.map Ke.av)/\(∀ k∈p.keys,KeOk k)/\p.keys.length<=1048576/\SS x l/\XK l/\l.length<=1048576/\Sl 3 y (j.map Cw.av)/\(∀ c∈j,ZiX c)/\j.length<=1048576:=by
 obtain⟨n,j,B,e0⟩:=h.agg Zzw;subst e0;obtain⟨R,parts,m,rfl,rfl,z,A,u⟩:=B.fields Ztr;obtain⟨a,b,c,rfl⟩:=M2 z;obtain⟨a',b',c',rfl⟩:=M2 A;obtain⟨p,xp,rfl,C,D,E⟩:=ZxI (u 0 26 a a' rfl rfl rfl) (Om w (i:=0) rfl);obtain⟨x,l,rfl,F,G,L⟩:=Zzk (u 1 27 b b' rfl rfl rfl) (Om w (i:=1) rfl);obtain⟨y,j,rfl,M,N,P⟩:=ZzL (u 2 28 c c' rfl rfl rfl) (Om w (i:=2) rfl);exact⟨p,xp,x,y,l,j,by simp[JJ],C,D,E,F,G,L,M,N,P⟩
end
end Go.Am
