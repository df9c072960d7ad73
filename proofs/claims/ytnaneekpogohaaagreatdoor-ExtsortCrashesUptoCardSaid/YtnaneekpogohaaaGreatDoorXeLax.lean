/- The helpers of chapter 24's laws -/
import Derived.Test.YtnaneekpogohaaaGreatDoorXeCox
import Derived.Test.YtnaneekpogohaaaGreatDoorXeAwx
import Derived.Test.YtnaneekpogohaaaGreatDoorXeGLx
import Derived.Test.YtnaneekpogohaaaGreatDoorXeYzx
open List renaming mapM_cons->zA
namespace Go.Am
set_option linter.unusedSectionVars false
set_option maxRecDepth 100000
def Zxa (l:List Zl):Prop:=l.length<=40/\∀ s∈l,s.length<=200
theorem ZqI {x:AV}{l:List Zl}(K:SS x l)(U:l.length<=1048576)(S:Wt l)(L H:Hp):∀ (r d:List Zl),l=d++r->(∀ s∈d,s.length<=200)->∃ b,Ll x (.int .i64 (d.length:Int)) L H=some (.bool b,H)/\(b=true->Zxa l):=by
 have A:=SS.len K 9;intro r
 induction r with
 |nil =>
  intro d z E;rw[List.append_nil]at z;subst z;have g:decide ((l.length:Int)<(l.length:Int))=false:=by simp
  refine⟨decide ((l.length:Int)<=40),?_,fun C=>⟨by rw[decide_eq_true_eq]at C;omega,E⟩⟩;rw[Fb];simp only[go_sem,A,g,Zb9]
 |cons s r R =>
  intro d z E;have I:l.length=d.length+(r.length+1):=by rw[z];simp
  have g:decide ((d.length:Int)<(l.length:Int))=true:=by rw[decide_eq_true_eq];omega
  have D:l[d.length]?=some s:=by rw[z,List.getElem?_append_right (Nat.le_refl _)];simp
  have u:=SS.idx K D;have F:IntKind.i64.wrap ((d.length:Int)+1)=((d++[s]).length:Int):=by rw[Zp (by omega) (by omega)];simp
  by_cases O:d.length<41
  ·have j:decide ((d.length:Int)<41)=true:=by rw[decide_eq_true_eq];omega
   by_cases T:200<s.length
   ·have B:decide ((200:Int)<(s.length:Int))=true:=by rw[decide_eq_true_eq];omega
    refine⟨false,?_,fun h=>by cases h⟩;rw[Fb];simp only[go_sem,A,g,j,Zba,u,Zx,B]
   ·have B:decide ((200:Int)<(s.length:Int))=false:=by rw[decide_eq_false_iff_not];omega
    obtain⟨b,M,N⟩:=R (d++[s]) (by rw[z];simp) (fun y Q=>by
     rcases List.mem_append.1 Q with h|h
     ·exact E y h
     ·rw[List.mem_singleton.1 h];omega)
    refine⟨b,?_,N⟩;rw[Fb];simp only[go_sem,A,g,j,Zba,u,Zx,B,Zlb,F];exact M
  ·have j:decide ((d.length:Int)<41)=false:=by rw[decide_eq_false_iff_not];omega
   refine⟨decide ((l.length:Int)<=40),?_,fun C=>by rw[decide_eq_true_eq]at C;omega⟩;rw[Fb];simp only[go_sem,A,g,j,Zb9]
theorem ZqH {x:AV}{l:List Zl}(z:SS x l)(u:l.length<=1048576)(j:Wt l)(H:Hp):∃ b,Zh Zcq [x] H=some (.bool b,H)/\(b=true->Zxa l):=by
 obtain⟨C,g,h⟩:=SS.closed z [] 0 7;obtain⟨b,A,B⟩:=ZqI h u j [] [] l [] rfl (fun s y=>by cases y);refine⟨b,Wy (args':=[C]) (H1:=[]) (by rw[zA,g];rfl) ?_ rfl,B⟩;rw[ZlQ];unfold Zk7;exact A
def V8 (p:Spec)(xp:AV)(mem w:Int):List AV:=p.cells xp++[.int .i64 mem,.int .i64 w]
theorem ZtT {p:Spec}{xp:AV}{mem w:Int}(z:Sl 5 xp (p.keys.map Ke.av)):∃ g,Ze [] 0 9 (.agg (V8 p xp mem w))=some (.agg (V8 p g mem w))/\Sl 5 g (p.keys.map Ke.av):=by
 obtain⟨h,j,u⟩:=z.close (H:=[]) (n:=0) (f:=7) (fun c y=>by
  obtain⟨k,_,rfl⟩:=List.mem_map.1 y;exact k.close [] 0 5)
 refine⟨h,?_,u⟩
 have:(V8 p xp mem w).mapM (Ze [] 0 8)=some (V8 p h mem w):=by
  simp only[V8,Spec.cells,List.cons_append,List.nil_append,zA,j,List.mapM_nil];rfl
 rw[KM,this]
theorem ZnE {p:Spec}{xp:AV}{mem w:Int}(A:Sl 5 xp (p.keys.map Ke.av))(H:Hp):Zh Aq [.agg (V8 p xp mem w)] H=some (.bool (decide ((p.keys.length:Int)<=10)),H):=by
 obtain⟨g,j,u⟩:=ZtT (mem:=mem) (w:=w) A;refine Wy (args':=[.agg (V8 p g mem w)]) (H1:=[.cells (V8 p g mem w)]) (by rw[zA,j];rfl) ?_ rfl;have y:ZO (.agg (V8 p g mem w)) []=some (.ptr 0 0,[.cells (V8 p g mem w)]):=rfl;have z:Z3 false 1 (.ptr 0 0) [.cells (V8 p g mem w)]=some g:=rfl;have h:=Sl.len u 119;rw[List.length_map]at h;rw[Zjb];unfold Zfs;simp only[y,go_sem,z,h,Jn]
section
variable {p:Spec}{xp:AV}{mem w:Int}
theorem Zwv (H:Hp):ZO (.agg (V8 p xp mem w)) H=some (.ptr H.length 0,H++[.cells (V8 p xp mem w)]):=Yu _ _
theorem ZaI {H:Hp}{n:Nat}(h:H[n]?=some (.cells (V8 p xp mem w))):Z3 true 5 (.ptr n 0) H=some (.agg (p.cells xp)):=by rw[YB h];rfl
theorem ZgZ {H:Hp}{n:Nat}(h:H[n]?=some (.cells (V8 p xp mem w))):Z3 true 2 (.ptr n 5) H=some (.agg [.int .i64 mem,.int .i64 w]):=by rw[YB h];rfl
end
theorem So (o:Nat):Z6 5 (.ptr o 0)=some (.ptr o 5):=rfl
theorem ZjC:BOk []:=⟨by simp,(fun f g=>by cases g),(fun f g=>by cases g),by simp,by simp[Zr],(fun f g=>by cases g)⟩
theorem Zqr:LocSm defL:=⟨by simp[defL],by simp[defL],by simp[defL]⟩
end Go.Am
namespace Go.Am
open Go.Proofs Go.Proofs.YtnaneekpogohaaaGreatDoor
set_option maxRecDepth 100000
section
variable {H:Type}
theorem ZwW {n:Nat}{d:DataW H}{j:List AV}(h:TV Tryz.prog n 24 d j)(D:JJ d):∃ (p:Spec) (xp:AV),j=p.cells xp/\Sl 5 xp (p.keys.map Ke.av)/\(∀ k∈p.keys,KeOk k)/\p.keys.length<=1048576:=by
 obtain⟨K,parts,m,rfl,rfl,B,C,g⟩:=h.fields Zt2;obtain⟨a,b,c,d,e,rfl⟩:=ZeI B;obtain⟨a',b',c',d',A,rfl⟩:=ZeI C;obtain⟨x,I,rfl,F,hk,E⟩:=Zy9 (g 0 22 a a' rfl rfl rfl) (ZkX D (i:=0) rfl);obtain⟨y,_,rfl,_⟩:=(g 1 3 b b' rfl rfl rfl).int KQ;obtain⟨z,_,rfl,_⟩:=(g 2 3 c c' rfl rfl rfl).int KQ;obtain⟨u,_,rfl⟩:=(g 3 4 d d' rfl rfl rfl).bool ZpE;obtain⟨v,_,rfl⟩:=(g 4 4 e A rfl rfl rfl).bool ZpE;exact⟨⟨I,y,z,v,u⟩,x,rfl,F,hk,E⟩
theorem Zww {d:DataW H}{a:AV}(h:AT Tryz.prog 28 d a)(y:JJ d):∃ (p:Spec) (xp:AV) (mem w:Int),a=.agg (V8 p xp mem w)/\Sl 5 xp (p.keys.map Ke.av)/\(∀ k∈p.keys,KeOk k)/\p.keys.length<=1048576:=by
 obtain⟨n,D,z,e0⟩:=h.agg ZyH;subst e0;obtain⟨E,parts,m,rfl,rfl,j,u,g⟩:=z.fields Zt4;obtain⟨a,b,rfl⟩:=Ox j;obtain⟨a',b',rfl⟩:=Ox u;obtain⟨p,xp,rfl,A,B,C⟩:=ZwW (g 0 24 a a' rfl rfl rfl) (ZkX y (i:=0) rfl);obtain⟨m,w,rfl⟩:=ZwT (g 1 26 b b' rfl rfl rfl);exact⟨p,xp,m,w,by simp[V8],A,B,C⟩
end
def argTypes2:List Nat:=[3,4,9,22,24,26,28,29,30,32,33,38,119]
theorem Zm6:argTypes2.all (Bb Tryz.prog argTypes2)=true:=by kernel_rfl
theorem Zx6:Tryz.prog.underlying 30=some (.int .u64):=by kernel_rfl
theorem Zt5:JU Tryz.prog 32=some [3,30]:=by kernel_rfl
theorem ZyJ:Ww Tryz.prog 32=true:=by kernel_rfl
theorem ZzP {n:Int}(h:(Lit.int .u64 n).wf=true):∃ k:Nat,n=(k:Int):=by
 have g:IntKind.u64.min=0:=by decide
 have j:IntKind.u64.max=18446744073709551615:=by decide
 simp only[Lit.wf,g,j,Bool.and_eq_true,decide_eq_true_eq]at h;exact⟨n.toNat,by omega⟩
section
variable {H:Type}
theorem ZxY {n:Nat}{d:DataW H}{g:List AV}(h:TV Tryz.prog n 32 d g):∃ (u:Int) (k:Nat),g=[.int .i64 u,.int .u64 (k:Int)]:=by
 obtain⟨C,parts,m,rfl,rfl,z,A,j⟩:=h.fields Zt5;obtain⟨a,b,rfl⟩:=Ox z;obtain⟨a',b',rfl⟩:=Ox A;obtain⟨x,_,rfl,_⟩:=(j 0 3 a a' rfl rfl rfl).int KQ;obtain⟨y,_,rfl,B⟩:=(j 1 30 b b' rfl rfl rfl).int Zx6;obtain⟨k,rfl⟩:=ZzP B;exact⟨x,k,rfl⟩
theorem ZxX {d:DataW H}{a:AV}(h:AT Tryz.prog 32 d a):∃ (g:Int) (k:Nat),a=.agg [.int .i64 g,.int .u64 (k:Int)]:=by
 obtain⟨n,u,j,e0⟩:=h.agg ZyJ;subst e0;obtain⟨g,k,rfl⟩:=ZxY j;exact⟨g,k,rfl⟩
end
end Go.Am
