/- The arguments of the statements about sorting in files -/
import Derived.Test.YtnaneekpogohaaaGreatDoorXeJx
import Derived.Test.YtnaneekpogohaaaGreatDoorXeMzx
import Derived.Test.YtnaneekpogohaaaGreatDoorHmXx
import Derived.Test.YtnaneekpogohaaaGreatDoorRows
open List renaming mem_of_getElem?->zA
namespace Go.Am
open Go.Proofs Go.Proofs.YtnaneekpogohaaaGreatDoor
set_option maxRecDepth 100000
theorem ZyO:laidOutB Tryz.prog=true:=by kernel_rfl
theorem own:ownKnob Tryz.prog.godebug=none:=by kernel_rfl
def argTypes:List Nat:=[3,4,9,22,24,26,28,29,38,119]
theorem Zn2:argTypes.all (Gu Tryz.prog argTypes)=true:=by kernel_rfl
theorem GC:Tryz.prog.underlying 3=some (.int .i64):=by kernel_rfl
theorem ZoP:Tryz.prog.underlying 4=some .bool:=by kernel_rfl
theorem Zzl:Tryz.prog.underlying 9=some .string:=by kernel_rfl
theorem Zxz:Tryz.prog.underlying 22=some (.slice 119):=by kernel_rfl
theorem ZxA:Tryz.prog.underlying 29=some (.slice 9):=by kernel_rfl
theorem Zq7:Gb Tryz.prog 119=some [3,3,3,3,3]:=by kernel_rfl
theorem ZsM:Gb Tryz.prog 24=some [22,3,3,4,4]:=by kernel_rfl
theorem ZAz:Wz Tryz.prog 9=false:=by kernel_rfl
theorem Zzt:Wz Tryz.prog 29=false:=by kernel_rfl
theorem Zy4:Wz Tryz.prog 119=true:=by kernel_rfl
theorem Zym:Tryz.prog.cellsOf 9=1:=by kernel_rfl
theorem Zs8:Tryz.prog.cellsOf 119=5:=by kernel_rfl
theorem ZsN:Gb Tryz.prog 26=some [3,3]:=by kernel_rfl
theorem ZsO:Gb Tryz.prog 28=some [24,26]:=by kernel_rfl
theorem Zzs:Wz Tryz.prog 28=true:=by kernel_rfl
theorem ZeP (v:AV):VX false [v]=v:=(Eq.refl _).trans (Eq.refl _)
theorem ZyR {α:Type}{f:α->AV}{q:α->Prop}:∀ l:List AV,(∀ x∈l,∃ k,q k/\x=f k)->∃ g:List α,l=g.map f/\∀ k∈g,q k:=by
 intro l
 induction l with
 |nil=>intro _;exact⟨[],rfl,by simp⟩
 |cons x l B =>
  intro h;obtain⟨k,j,u⟩:=h x (by simp);obtain⟨g,w,z⟩:=B (fun y A=>h y (by simp[A]));exact⟨k::g,by simp[u,w],by simpa[j]using z⟩
theorem ZwD {l:List AV}{α:Type}{g:List α}(j:l.length=g.length){x:AV}(u:x∈l):∃ (i:Nat) (d:α),l[i]?=some x/\g[i]?=some d:=by
 obtain⟨i,hi⟩:=List.getElem?_of_mem u;have:i<g.length:=by rw[<-j];exact Zg hi
 exact⟨i,g[i],hi,List.getElem?_eq_getElem this⟩
theorem ZhX {α:Type}{l:List α}(h:l.length=2):∃ a b,l=[a,b]:=match l,h with|[a,b],_=>⟨a,b,rfl⟩
theorem ZdC {α:Type}{l:List α}(h:l.length=5):∃ a b c d e,l=[a,b,c,d,e]:=match l,h with|[a,b,c,d,e],_=>⟨a,b,c,d,e,rfl⟩
theorem Zrw {n:Int}(h:(Lit.int .i64 n).wf=true):-9223372036854775808<=n/\n<=9223372036854775807:=by
 have g:IntKind.i64.min=-9223372036854775808:=by decide
 have j:IntKind.i64.max=9223372036854775807:=by decide
 simp only[Lit.wf,g,j,Bool.and_eq_true,decide_eq_true_eq]at h;exact h
section
variable {H:Type}
theorem Zve (d:DataW H):1<=Rows.uptoBulk d:=by
 cases d with
 |lit l=>cases l <;> simp[Rows.uptoBulk]
 |_=>simp[Rows.uptoBulk]
theorem ZkS (g:List (DataW H)):g.length<=Rows.uptoBulkAll g/\∀ d∈g,Rows.uptoBulk d<=Rows.uptoBulkAll g:=by
 induction g with
 |nil=>exact⟨Nat.zero_le _,by simp⟩
 |cons x g u =>
  have w:=Zve x;have e:Rows.uptoBulkAll (x::g)=Rows.uptoBulk x+Rows.uptoBulkAll g:=by rw[Rows.uptoBulkAll]
  rw[e];refine⟨by simp only[List.length_cons];omega,fun d j=>?_⟩;rcases List.mem_cons.1 j with rfl|j
  ·omega
  ·have:=u.2 d j;omega
abbrev J3 (d:DataW H):Prop:=Rows.uptoBulk d<=1048576
theorem ZjR {g:List (DataW H)}(h:J3 (.agg g)){i:Nat}{d:DataW H}(hi:g[i]?=some d):J3 d:=by
 unfold J3 at h ⊢;rw[Rows.uptoBulk]at h;have:=(ZkS g).2 d (zA hi);omega
theorem ZnW {g w:List (DataW H)}(h:J3 (.slice g w)):(∀ d∈g,J3 d)/\g.length<=1048576:=by
 unfold J3 at h ⊢;rw[Rows.uptoBulk]at h;obtain⟨y,j⟩:=ZkS g;exact⟨fun d u=>by have:=j d u;omega,by omega⟩
theorem Zub {s:List UInt8}(h:J3 (.lit (.string s):DataW H)):s.length<=1048576:=by
 unfold J3 at h;rw[Rows.uptoBulk]at h;omega
theorem Zol {α:Type}{f:α->AV}{q:α->Prop}{t e k:Nat}(M:Tryz.prog.underlying t=some (.slice e))(J:Tryz.prog.cellsOf e=k)
 (K:∀ (m:Nat) (d':DataW H) (u:List AV),TV Tryz.prog m e d' u->J3 d'->∃ y,q y/\VX (Wz Tryz.prog e) u=f y) {n:Nat} {d:DataW H} {g:List AV} (h:TV Tryz.prog n t d g) (I:J3 d) :
 ∃ (x:AV) (j:List α),g=[x]/\Sl k x (j.map f)/\(∀ y∈j,q y)/\j.length<=1048576:=by
 rcases h.slice M with ⟨_,rfl⟩|⟨R,S,l,m,rfl,rfl,z,_,D⟩
 ·exact⟨.nils,[],rfl,.inl ⟨rfl,rfl⟩,by simp,by simp⟩
 ·obtain⟨A,Q⟩:=ZnW I
  obtain⟨j,E,F⟩:=ZyR (f:=f) (q:=q) l (fun x N=>by
   obtain⟨i,d',C,w⟩:=ZwD z N;obtain⟨u,e,L⟩:=D i x d' C w;obtain⟨y,O,B⟩:=K m d' u L (A _ (zA w));exact⟨y,O,by rw[e,B]⟩)
  subst E;rw[J];rw[List.length_map]at z;exact⟨_,j,rfl,.inr ⟨_,rfl⟩,F,by omega⟩
theorem Zzh {n:Nat}{d:DataW H}{g:List AV}(h:TV Tryz.prog n 29 d g)(j:J3 d):∃ (x:AV) (u:List Zi),g=[x]/\Sl 1 x (u.map AV.str)/\(∀ k∈u,k.length<=1048576)/\u.length<=1048576 :=
 Zol (f:=AV.str) (q:=fun s:Zi=>s.length<=1048576) ZxA Zym (fun m d' A z j=>by
  obtain⟨s,w,rfl,_⟩:=z.str Zzl;rw[w]at j;have y:s.length<=1048576:=Zub j;exact⟨s,y,by rw[ZAz,ZeP]⟩) h j
theorem Zzg {d:DataW H}{a:AV}(h:AT Tryz.prog 29 d a)(y:J3 d):∃ l:List Zi,SS a l/\Wc l/\l.length<=1048576:=by
 obtain⟨n,g,z,rfl⟩:=h;obtain⟨x,A,rfl,j,u,w⟩:=Zzh z y;rw[Zzt,ZeP];exact⟨A,j,u,w⟩
theorem ZzW {n:Nat}{d:DataW H}{j:List AV}(h:TV Tryz.prog n 119 d j):∃ k:Ke,KeOk k/\j=k.cells:=by
 obtain⟨I,parts,m,rfl,rfl,A,B,g⟩:=h.fields Zq7;obtain⟨a,b,c,d,e,rfl⟩:=ZdC A;obtain⟨a',b',c',d',w,rfl⟩:=ZdC B;obtain⟨x,_,rfl,D⟩:=(g 0 3 a a' rfl rfl rfl).int GC;obtain⟨y,_,rfl,E⟩:=(g 1 3 b b' rfl rfl rfl).int GC;obtain⟨z,_,rfl,F⟩:=(g 2 3 c c' rfl rfl rfl).int GC;obtain⟨u,_,rfl,C⟩:=(g 3 3 d d' rfl rfl rfl).int GC;obtain⟨v,_,rfl,J⟩:=(g 4 3 e w rfl rfl rfl).int GC;exact⟨⟨x,y,z,u,v⟩,⟨Zrw D,Zrw E,Zrw F,Zrw C⟩,rfl⟩
theorem ZyN {n:Nat}{d:DataW H}{g:List AV}(h:TV Tryz.prog n 22 d g)(u:J3 d):∃ (x:AV) (j:List Ke),g=[x]/\Sl 5 x (j.map Ke.av)/\(∀ k∈j,KeOk k)/\j.length<=1048576 :=
 Zol Zxz Zs8 (fun m d' A z u=>by
  obtain⟨k,y,w⟩:=ZzW z;exact⟨k,y,by rw[w,Zy4];rfl⟩) h u
theorem Zx9 {n:Nat}{d:DataW H}{g:List AV}(h:TV Tryz.prog n 26 d g):∃ m w:Int,g=[.int .i64 m,.int .i64 w]:=by
 obtain⟨A,parts,m,rfl,rfl,u,z,j⟩:=h.fields ZsN;obtain⟨a,b,rfl⟩:=ZhX u;obtain⟨a',b',rfl⟩:=ZhX z;obtain⟨x,_,rfl,B⟩:=(j 0 3 a a' rfl rfl rfl).int GC;obtain⟨y,_,rfl,C⟩:=(j 1 3 b b' rfl rfl rfl).int GC;exact⟨x,y,rfl⟩
end
end Go.Am
