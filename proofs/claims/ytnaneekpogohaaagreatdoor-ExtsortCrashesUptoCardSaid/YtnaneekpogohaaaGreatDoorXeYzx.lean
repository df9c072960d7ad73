/- The arguments of the statements about sorting in files -/
import Derived.Test.YtnaneekpogohaaaGreatDoorXeEx
import Derived.Test.YtnaneekpogohaaaGreatDoorXeMzx
import Derived.Test.YtnaneekpogohaaaGreatDoorHmXx
import Derived.Test.YtnaneekpogohaaaGreatDoorRows
open List renaming mem_of_getElem?->zA
namespace Go.Am
open Go.Proofs Go.Proofs.YtnaneekpogohaaaGreatDoor
set_option maxRecDepth 100000
theorem Zya:laidOutB Tryz.prog=true:=by kernel_rfl
theorem own:ownKnob Tryz.prog.godebug=none:=by kernel_rfl
def argTypes:List Nat:=[3,4,9,22,24,26,28,29,38,119]
theorem KQ:Tryz.prog.underlying 3=some (.int .i64):=by kernel_rfl
theorem ZpE:Tryz.prog.underlying 4=some .bool:=by kernel_rfl
theorem Zyz:Tryz.prog.underlying 9=some .string:=by kernel_rfl
theorem Zx4:Tryz.prog.underlying 22=some (.slice 119):=by kernel_rfl
theorem Zx5:Tryz.prog.underlying 29=some (.slice 9):=by kernel_rfl
theorem ZqL:JU Tryz.prog 119=some [3,3,3,3,3]:=by kernel_rfl
theorem Zt2:JU Tryz.prog 24=some [22,3,3,4,4]:=by kernel_rfl
theorem ZzB:Ww Tryz.prog 9=false:=by kernel_rfl
theorem ZyI:Ww Tryz.prog 29=false:=by kernel_rfl
theorem Zxu:Ww Tryz.prog 119=true:=by kernel_rfl
theorem ZxJ:Tryz.prog.cellsOf 9=1:=by kernel_rfl
theorem Zsv:Tryz.prog.cellsOf 119=5:=by kernel_rfl
theorem Zt3:JU Tryz.prog 26=some [3,3]:=by kernel_rfl
theorem Zt4:JU Tryz.prog 28=some [24,26]:=by kernel_rfl
theorem ZyH:Ww Tryz.prog 28=true:=by kernel_rfl
theorem Zg1 (v:AV):Up false [v]=v:=(Eq.refl _).trans (Eq.refl _)
theorem Zyc {α:Type}{f:α->AV}{q:α->Prop}:∀ l:List AV,(∀ x∈l,∃ k,q k/\x=f k)->∃ g:List α,l=g.map f/\∀ k∈g,q k:=by
 intro l
 induction l with
 |nil=>intro _;exact⟨[],rfl,by simp⟩
 |cons x l B =>
  intro h;obtain⟨k,j,u⟩:=h x (by simp);obtain⟨g,w,z⟩:=B (fun y A=>h y (by simp[A]));exact⟨k::g,by simp[u,w],by simpa[j]using z⟩
theorem Zwp {l:List AV}{α:Type}{g:List α}(h:l.length=g.length){x:AV}(j:x∈l):∃ (i:Nat) (d:α),l[i]?=some x/\g[i]?=some d:=by
 obtain⟨i,hi⟩:=List.getElem?_of_mem j;have:i<g.length:=by rw[<-h];exact Zg hi
 exact⟨i,g[i],hi,List.getElem?_eq_getElem this⟩
theorem Ox {α:Type}{l:List α}(h:l.length=2):∃ a b,l=[a,b]:=match l,h with|[a,b],_=>⟨a,b,rfl⟩
theorem ZeI {α:Type}{l:List α}(h:l.length=5):∃ a b c d e,l=[a,b,c,d,e]:=match l,h with|[a,b,c,d,e],_=>⟨a,b,c,d,e,rfl⟩
theorem Zs2 {n:Int}(h:(Lit.int .i64 n).wf=true):-9223372036854775808<=n/\n<=9223372036854775807:=by
 have g:IntKind.i64.min=-9223372036854775808:=by decide
 have j:IntKind.i64.max=9223372036854775807:=by decide
 simp only[Lit.wf,g,j,Bool.and_eq_true,decide_eq_true_eq]at h;exact h
section
variable {H:Type}
theorem Zv8 (d:DataW H):1<=Rows.uptoBulk d:=by
 cases d with
 |lit l=>cases l <;> simp[Rows.uptoBulk]
 |_=>simp[Rows.uptoBulk]
theorem Zmc (g:List (DataW H)):g.length<=Rows.uptoBulkAll g/\∀ d∈g,Rows.uptoBulk d<=Rows.uptoBulkAll g:=by
 induction g with
 |nil=>exact⟨Nat.zero_le _,by simp⟩
 |cons x g j =>
  have u:=Zv8 x;have e:Rows.uptoBulkAll (x::g)=Rows.uptoBulk x+Rows.uptoBulkAll g:=by rw[Rows.uptoBulkAll]
  rw[e];refine⟨by simp only[List.length_cons];omega,fun d h=>?_⟩;rcases List.mem_cons.1 h with rfl|h
  ·omega
  ·have:=j.2 d h;omega
abbrev JJ (d:DataW H):Prop:=Rows.uptoBulk d<=1048576
theorem ZkX {g:List (DataW H)}(h:JJ (.agg g)){i:Nat}{d:DataW H}(hi:g[i]?=some d):JJ d:=by
 unfold JJ at h ⊢;rw[Rows.uptoBulk]at h;have:=(Zmc g).2 d (zA hi);omega
theorem Zp6 {g w:List (DataW H)}(h:JJ (.slice g w)):(∀ d∈g,JJ d)/\g.length<=1048576:=by
 unfold JJ at h ⊢;rw[Rows.uptoBulk]at h;obtain⟨y,j⟩:=Zmc g;exact⟨fun d u=>by have:=j d u;omega,by omega⟩
theorem Zul {s:List UInt8}(h:JJ (.lit (.string s):DataW H)):s.length<=1048576:=by
 unfold JJ at h;rw[Rows.uptoBulk]at h;omega
theorem Zps {α:Type}{f:α->AV}{q:α->Prop}{t e k:Nat}(N:Tryz.prog.underlying t=some (.slice e))(K:Tryz.prog.cellsOf e=k)
 (L:∀ (m:Nat) (d':DataW H) (u:List AV),TV Tryz.prog m e d' u->JJ d'->∃ y,q y/\Up (Ww Tryz.prog e) u=f y) {n:Nat} {d:DataW H} {g:List AV} (h:TV Tryz.prog n t d g) (I:JJ d) :
 ∃ (x:AV) (j:List α),g=[x]/\Sl k x (j.map f)/\(∀ y∈j,q y)/\j.length<=1048576:=by
 rcases h.slice N with ⟨_,rfl⟩|⟨S,T,l,m,rfl,rfl,z,_,D⟩
 ·exact⟨.nils,[],rfl,.inl ⟨rfl,rfl⟩,by simp,by simp⟩
 ·obtain⟨A,R⟩:=Zp6 I
  obtain⟨j,E,F⟩:=Zyc (f:=f) (q:=q) l (fun x O=>by
   obtain⟨i,d',C,w⟩:=Zwp z O;obtain⟨u,e,M⟩:=D i x d' C w;obtain⟨y,Q,B⟩:=L m d' u M (A _ (zA w));exact⟨y,Q,by rw[e,B]⟩)
  subst E;rw[K];rw[List.length_map]at z;exact⟨_,j,rfl,.inr ⟨_,rfl⟩,F,by omega⟩
theorem Zyw {n:Nat}{d:DataW H}{g:List AV}(h:TV Tryz.prog n 29 d g)(j:JJ d):∃ (x:AV) (u:List Zl),g=[x]/\Sl 1 x (u.map AV.str)/\(∀ k∈u,k.length<=1048576)/\u.length<=1048576 :=
 Zps (f:=AV.str) (q:=fun s:Zl=>s.length<=1048576) Zx5 ZxJ (fun m d' A z j=>by
  obtain⟨s,w,rfl,_⟩:=z.str Zyz;rw[w]at j;have y:s.length<=1048576:=Zul j;exact⟨s,y,by rw[ZzB,Zg1]⟩) h j
theorem Zyv {d:DataW H}{a:AV}(h:AT Tryz.prog 29 d a)(y:JJ d):∃ l:List Zl,SS a l/\Wt l/\l.length<=1048576:=by
 obtain⟨n,g,z,rfl⟩:=h;obtain⟨x,A,rfl,j,u,w⟩:=Zyw z y;rw[ZyI,Zg1];exact⟨A,j,u,w⟩
theorem Zz8 {n:Nat}{d:DataW H}{j:List AV}(h:TV Tryz.prog n 119 d j):∃ k:Ke,KeOk k/\j=k.cells:=by
 obtain⟨I,parts,m,rfl,rfl,A,B,g⟩:=h.fields ZqL;obtain⟨a,b,c,d,e,rfl⟩:=ZeI A;obtain⟨a',b',c',d',w,rfl⟩:=ZeI B;obtain⟨x,_,rfl,D⟩:=(g 0 3 a a' rfl rfl rfl).int KQ;obtain⟨y,_,rfl,E⟩:=(g 1 3 b b' rfl rfl rfl).int KQ;obtain⟨z,_,rfl,F⟩:=(g 2 3 c c' rfl rfl rfl).int KQ;obtain⟨u,_,rfl,C⟩:=(g 3 3 d d' rfl rfl rfl).int KQ;obtain⟨v,_,rfl,K⟩:=(g 4 3 e w rfl rfl rfl).int KQ;exact⟨⟨x,y,z,u,v⟩,⟨Zs2 D,Zs2 E,Zs2 F,Zs2 C⟩,rfl⟩
theorem Zy9 {n:Nat}{d:DataW H}{g:List AV}(h:TV Tryz.prog n 22 d g)(u:JJ d):∃ (x:AV) (j:List Ke),g=[x]/\Sl 5 x (j.map Ke.av)/\(∀ k∈j,KeOk k)/\j.length<=1048576 :=
 Zps Zx4 Zsv (fun m d' z y u=>by
  obtain⟨k,hk,w⟩:=Zz8 y;exact⟨k,hk,by rw[w,Zxu];rfl⟩) h u
theorem ZwT {n:Nat}{d:DataW H}{g:List AV}(h:TV Tryz.prog n 26 d g):∃ m w:Int,g=[.int .i64 m,.int .i64 w]:=by
 obtain⟨A,parts,m,rfl,rfl,u,z,j⟩:=h.fields Zt3;obtain⟨a,b,rfl⟩:=Ox u;obtain⟨a',b',rfl⟩:=Ox z;obtain⟨x,_,rfl,B⟩:=(j 0 3 a a' rfl rfl rfl).int KQ;obtain⟨y,_,rfl,C⟩:=(j 1 3 b b' rfl rfl rfl).int KQ;exact⟨x,y,rfl⟩
end
end Go.Am
