/- The arguments of the statements about sorting in files -/
import Derived.Test.YtnaneekpogohaaaGreatDoorXeJx
import Derived.Test.YtnaneekpogohaaaGreatDoorXeMzx
import Derived.Test.YtnaneekpogohaaaGreatDoorHmXx
import Derived.Test.YtnaneekpogohaaaGreatDoorRows
open List renaming mem_of_getElem?->zA
namespace Go.Am
open Go.Proofs Go.Proofs.YtnaneekpogohaaaGreatDoor
set_option maxRecDepth 100000
theorem ZyJ:laidOutB Tryz.prog=true:=by kernel_rfl
theorem own:ownKnob Tryz.prog.godebug=none:=by kernel_rfl
def argTypes:List Nat:=[3,4,9,22,24,26,28,29,38,119]
theorem ZnQ:argTypes.all (GG Tryz.prog argTypes)=true:=by kernel_rfl
theorem GO:Tryz.prog.underlying 3=some (.int .i64):=by kernel_rfl
theorem Zpl:Tryz.prog.underlying 4=some .bool:=by kernel_rfl
theorem Zzf:Tryz.prog.underlying 9=some .string:=by kernel_rfl
theorem Zxt:Tryz.prog.underlying 22=some (.slice 119):=by kernel_rfl
theorem Zxu:Tryz.prog.underlying 29=some (.slice 9):=by kernel_rfl
theorem ZqE:Gm Tryz.prog 119=some [3,3,3,3,3]:=by kernel_rfl
theorem Ztf:Gm Tryz.prog 24=some [22,3,3,4,4]:=by kernel_rfl
theorem ZAg:WD Tryz.prog 9=false:=by kernel_rfl
theorem Zzl:WD Tryz.prog 29=false:=by kernel_rfl
theorem ZxZ:WD Tryz.prog 119=true:=by kernel_rfl
theorem Zyh:Tryz.prog.cellsOf 9=1:=by kernel_rfl
theorem ZsE:Tryz.prog.cellsOf 119=5:=by kernel_rfl
theorem Ztg:Gm Tryz.prog 26=some [3,3]:=by kernel_rfl
theorem Zth:Gm Tryz.prog 28=some [24,26]:=by kernel_rfl
theorem Zzk:WD Tryz.prog 28=true:=by kernel_rfl
theorem ZfE (v:AV):U4 false [v]=v:=(Eq.refl _).trans (Eq.refl _)
theorem ZyM {α:Type}{f:α->AV}{q:α->Prop}:∀ l:List AV,(∀ x∈l,∃ k,q k/\x=f k)->∃ g:List α,l=g.map f/\∀ k∈g,q k:=by
 intro l
 induction l with
 |nil=>intro _;exact⟨[],rfl,by simp⟩
 |cons x l B =>
  intro h;obtain⟨k,j,u⟩:=h x (by simp);obtain⟨g,w,z⟩:=B (fun y A=>h y (by simp[A]));exact⟨k::g,by simp[u,w],by simpa[j]using z⟩
theorem ZwQ {l:List AV}{α:Type}{g:List α}(j:l.length=g.length){x:AV}(u:x∈l):∃ (i:Nat) (d:α),l[i]?=some x/\g[i]?=some d:=by
 obtain⟨i,hi⟩:=List.getElem?_of_mem u;have:i<g.length:=by rw[<-j];exact Zh hi
 exact⟨i,g[i],hi,List.getElem?_eq_getElem this⟩
theorem ZiK {α:Type}{l:List α}(h:l.length=2):∃ a b,l=[a,b]:=match l,h with|[a,b],_=>⟨a,b,rfl⟩
theorem Zer {α:Type}{l:List α}(h:l.length=5):∃ a b c d e,l=[a,b,c,d,e]:=match l,h with|[a,b,c,d,e],_=>⟨a,b,c,d,e,rfl⟩
theorem Zs2 {n:Int}(h:(Lit.int .i64 n).wf=true):-9223372036854775808<=n/\n<=9223372036854775807:=by
 have g:IntKind.i64.min=-9223372036854775808:=by decide
 have j:IntKind.i64.max=9223372036854775807:=by decide
 simp only[Lit.wf,g,j,Bool.and_eq_true,decide_eq_true_eq]at h;exact h
section
variable {H:Type}
theorem Zvs (d:DataW H):1<=Rows.uptoBulk d:=by
 cases d with
 |lit l=>cases l <;> simp[Rows.uptoBulk]
 |_=>simp[Rows.uptoBulk]
theorem ZlF (g:List (DataW H)):g.length<=Rows.uptoBulkAll g/\∀ d∈g,Rows.uptoBulk d<=Rows.uptoBulkAll g:=by
 induction g with
 |nil=>exact⟨Nat.zero_le _,by simp⟩
 |cons x g u =>
  have w:=Zvs x;have e:Rows.uptoBulkAll (x::g)=Rows.uptoBulk x+Rows.uptoBulkAll g:=by rw[Rows.uptoBulkAll]
  rw[e];refine⟨by simp only[List.length_cons];omega,fun d j=>?_⟩;rcases List.mem_cons.1 j with rfl|j
  ·omega
  ·have:=u.2 d j;omega
abbrev J6 (d:DataW H):Prop:=Rows.uptoBulk d<=1048576
theorem ZkD {g:List (DataW H)}(h:J6 (.agg g)){i:Nat}{d:DataW H}(hi:g[i]?=some d):J6 d:=by
 unfold J6 at h ⊢;rw[Rows.uptoBulk]at h;have:=(ZlF g).2 d (zA hi);omega
theorem ZoG {g w:List (DataW H)}(h:J6 (.slice g w)):(∀ d∈g,J6 d)/\g.length<=1048576:=by
 unfold J6 at h ⊢;rw[Rows.uptoBulk]at h;obtain⟨y,j⟩:=ZlF g;exact⟨fun d u=>by have:=j d u;omega,by omega⟩
theorem ZuB {s:List UInt8}(h:J6 (.lit (.string s):DataW H)):s.length<=1048576:=by
 unfold J6 at h;rw[Rows.uptoBulk]at h;omega
theorem Zp7 {α:Type}{f:α->AV}{q:α->Prop}{t e k:Nat}(M:Tryz.prog.underlying t=some (.slice e))(J:Tryz.prog.cellsOf e=k)
 (K:∀ (m:Nat) (d':DataW H) (u:List AV),TV Tryz.prog m e d' u->J6 d'->∃ y,q y/\U4 (WD Tryz.prog e) u=f y) {n:Nat} {d:DataW H} {g:List AV} (h:TV Tryz.prog n t d g) (I:J6 d) :
 ∃ (x:AV) (j:List α),g=[x]/\Sl k x (j.map f)/\(∀ y∈j,q y)/\j.length<=1048576:=by
 rcases h.slice M with ⟨_,rfl⟩|⟨R,S,l,m,rfl,rfl,z,_,D⟩
 ·exact⟨.nils,[],rfl,.inl ⟨rfl,rfl⟩,by simp,by simp⟩
 ·obtain⟨A,Q⟩:=ZoG I
  obtain⟨j,E,F⟩:=ZyM (f:=f) (q:=q) l (fun x N=>by
   obtain⟨i,d',C,w⟩:=ZwQ z N;obtain⟨u,e,L⟩:=D i x d' C w;obtain⟨y,O,B⟩:=K m d' u L (A _ (zA w));exact⟨y,O,by rw[e,B]⟩)
  subst E;rw[J];rw[List.length_map]at z;exact⟨_,j,rfl,.inr ⟨_,rfl⟩,F,by omega⟩
theorem Zzc {n:Nat}{d:DataW H}{g:List AV}(h:TV Tryz.prog n 29 d g)(j:J6 d):∃ (x:AV) (u:List Zg),g=[x]/\Sl 1 x (u.map AV.str)/\(∀ k∈u,k.length<=1048576)/\u.length<=1048576 :=
 Zp7 (f:=AV.str) (q:=fun s:Zg=>s.length<=1048576) Zxu Zyh (fun m d' A z j=>by
  obtain⟨s,w,rfl,_⟩:=z.str Zzf;rw[w]at j;have y:s.length<=1048576:=ZuB j;exact⟨s,y,by rw[ZAg,ZfE]⟩) h j
theorem Zzb {d:DataW H}{a:AV}(h:AT Tryz.prog 29 d a)(y:J6 d):∃ l:List Zg,SS a l/\Xg l/\l.length<=1048576:=by
 obtain⟨n,g,z,rfl⟩:=h;obtain⟨x,A,rfl,j,u,w⟩:=Zzc z y;rw[Zzl,ZfE];exact⟨A,j,u,w⟩
theorem ZzO {n:Nat}{d:DataW H}{j:List AV}(h:TV Tryz.prog n 119 d j):∃ k:Ke,KeOk k/\j=k.cells:=by
 obtain⟨I,parts,m,rfl,rfl,A,B,g⟩:=h.fields ZqE;obtain⟨a,b,c,d,e,rfl⟩:=Zer A;obtain⟨a',b',c',d',w,rfl⟩:=Zer B;obtain⟨x,_,rfl,D⟩:=(g 0 3 a a' rfl rfl rfl).int GO;obtain⟨y,_,rfl,E⟩:=(g 1 3 b b' rfl rfl rfl).int GO;obtain⟨z,_,rfl,F⟩:=(g 2 3 c c' rfl rfl rfl).int GO;obtain⟨u,_,rfl,C⟩:=(g 3 3 d d' rfl rfl rfl).int GO;obtain⟨v,_,rfl,J⟩:=(g 4 3 e w rfl rfl rfl).int GO;exact⟨⟨x,y,z,u,v⟩,⟨Zs2 D,Zs2 E,Zs2 F,Zs2 C⟩,rfl⟩
theorem ZyI {n:Nat}{d:DataW H}{g:List AV}(h:TV Tryz.prog n 22 d g)(u:J6 d):∃ (x:AV) (j:List Ke),g=[x]/\Sl 5 x (j.map Ke.av)/\(∀ k∈j,KeOk k)/\j.length<=1048576 :=
 Zp7 Zxt ZsE (fun m d' A z u=>by
  obtain⟨k,y,w⟩:=ZzO z;exact⟨k,y,by rw[w,ZxZ];rfl⟩) h u
theorem Zxj {n:Nat}{d:DataW H}{g:List AV}(h:TV Tryz.prog n 26 d g):∃ m w:Int,g=[.int .i64 m,.int .i64 w]:=by
 obtain⟨A,parts,m,rfl,rfl,u,z,j⟩:=h.fields Ztg;obtain⟨a,b,rfl⟩:=ZiK u;obtain⟨a',b',rfl⟩:=ZiK z;obtain⟨x,_,rfl,B⟩:=(j 0 3 a a' rfl rfl rfl).int GO;obtain⟨y,_,rfl,C⟩:=(j 1 3 b b' rfl rfl rfl).int GO;exact⟨x,y,rfl⟩
end
end Go.Am
