/- The arguments of the statements about sorting in files -/
import Derived.Test.YtnaneekpogohaaaGreatDoorXeEx
import Derived.Test.YtnaneekpogohaaaGreatDoorXeMzx
import Derived.Test.YtnaneekpogohaaaGreatDoorHmXx
import Derived.Test.YtnaneekpogohaaaGreatDoorRows
open List renaming mem_of_getElem?->zA
namespace Go.Am
open Go.Proofs Go.Proofs.YtnaneekpogohaaaGreatDoor
set_option maxRecDepth 100000
theorem ZwG:laidOutB Tryz.prog=true:=by kernel_rfl
theorem own:ownKnob Tryz.prog.godebug=none:=by kernel_rfl
def argTypes:List Nat:=[3,4,9,22,24,26,28,29,38,119]
theorem ZmR:argTypes.all (GX Tryz.prog argTypes)=true:=by kernel_rfl
theorem Kw:Tryz.prog.underlying 3=some (.int .i64):=by kernel_rfl
theorem Zoi:Tryz.prog.underlying 4=some .bool:=by kernel_rfl
theorem Zx6:Tryz.prog.underlying 9=some .string:=by kernel_rfl
theorem ZvD:Tryz.prog.underlying 22=some (.slice 119):=by kernel_rfl
theorem ZvE:Tryz.prog.underlying 29=some (.slice 9):=by kernel_rfl
theorem Zpr:GI Tryz.prog 119=some [3,3,3,3,3]:=by kernel_rfl
theorem ZrH:GI Tryz.prog 24=some [22,3,3,4,4]:=by kernel_rfl
theorem Zy7:WK Tryz.prog 9=false:=by kernel_rfl
theorem Zxf:WK Tryz.prog 29=false:=by kernel_rfl
theorem Zw3:WK Tryz.prog 119=true:=by kernel_rfl
theorem Zwi:Tryz.prog.cellsOf 9=1:=by kernel_rfl
theorem Zra:Tryz.prog.cellsOf 119=5:=by kernel_rfl
theorem ZrI:GI Tryz.prog 26=some [3,3]:=by kernel_rfl
theorem ZrJ:GI Tryz.prog 28=some [24,26]:=by kernel_rfl
theorem Zxe:WK Tryz.prog 28=true:=by kernel_rfl
theorem ZeV (v:AV):U8 false [v]=v:=(Eq.refl _).trans (Eq.refl _)
theorem ZwI {α:Type}{f:α->AV}{q:α->Prop}:∀ l:List AV,(∀ x∈l,∃ k,q k/\x=f k)->∃ g:List α,l=g.map f/\∀ k∈g,q k:=by
 intro l
 induction l with
 |nil=>intro _;exact⟨[],rfl,by simp⟩
 |cons x l B =>
  intro h;obtain⟨k,j,u⟩:=h x (by simp);obtain⟨g,w,z⟩:=B (fun y A=>h y (by simp[A]));exact⟨k::g,by simp[u,w],by simpa[j]using z⟩
theorem ZuY {l:List AV}{α:Type}{g:List α}(h:l.length=g.length){x:AV}(j:x∈l):∃ (i:Nat) (d:α),l[i]?=some x/\g[i]?=some d:=by
 obtain⟨i,hi⟩:=List.getElem?_of_mem j;have:i<g.length:=by rw[<-h];exact Zh hi
 exact⟨i,g[i],hi,List.getElem?_eq_getElem this⟩
theorem ZhP {α:Type}{l:List α}(h:l.length=2):∃ a b,l=[a,b]:=match l,h with|[a,b],_=>⟨a,b,rfl⟩
theorem ZdD {α:Type}{l:List α}(h:l.length=5):∃ a b c d e,l=[a,b,c,d,e]:=match l,h with|[a,b,c,d,e],_=>⟨a,b,c,d,e,rfl⟩
theorem Zmy {n:Int}(h:(Lit.int .i64 n).wf=true):-9223372036854775808<=n/\n<=9223372036854775807:=by
 have g:IntKind.i64.min=-9223372036854775808:=by decide
 have j:IntKind.i64.max=9223372036854775807:=by decide
 simp only[Lit.wf,g,j,Bool.and_eq_true,decide_eq_true_eq]at h;exact h
section
variable {H:Type}
theorem ZtL (d:DataW H):1<=Rows.uptoBulk d:=by
 cases d with
 |lit l=>cases l <;> simp[Rows.uptoBulk]
 |_=>simp[Rows.uptoBulk]
theorem ZkR (g:List (DataW H)):g.length<=Rows.uptoBulkAll g/\∀ d∈g,Rows.uptoBulk d<=Rows.uptoBulkAll g:=by
 induction g with
 |nil=>exact⟨Nat.zero_le _,by simp⟩
 |cons x g j =>
  have u:=ZtL x;have e:Rows.uptoBulkAll (x::g)=Rows.uptoBulk x+Rows.uptoBulkAll g:=by rw[Rows.uptoBulkAll]
  rw[e];refine⟨by simp only[List.length_cons];omega,fun d h=>?_⟩;rcases List.mem_cons.1 h with rfl|h
  ·omega
  ·have:=j.2 d h;omega
abbrev Jq (d:DataW H):Prop:=Rows.uptoBulk d<=1048576
theorem ZjI {g:List (DataW H)}(h:Jq (.agg g)){i:Nat}{d:DataW H}(hi:g[i]?=some d):Jq d:=by
 unfold Jq at h ⊢;rw[Rows.uptoBulk]at h;have:=(ZkR g).2 d (zA hi);omega
theorem ZnL {g w:List (DataW H)}(h:Jq (.slice g w)):(∀ d∈g,Jq d)/\g.length<=1048576:=by
 unfold Jq at h ⊢;rw[Rows.uptoBulk]at h;obtain⟨y,j⟩:=ZkR g;exact⟨fun d u=>by have:=j d u;omega,by omega⟩
theorem ZsZ {s:List UInt8}(h:Jq (.lit (.string s):DataW H)):s.length<=1048576:=by
 unfold Jq at h;rw[Rows.uptoBulk]at h;omega
theorem Zo6 {α:Type}{f:α->AV}{q:α->Prop}{t e k:Nat}(O:Tryz.prog.underlying t=some (.slice e))(L:Tryz.prog.cellsOf e=k)
 (M:∀ (m:Nat) (d':DataW H) (u:List AV),TV Tryz.prog m e d' u->Jq d'->∃ y,q y/\U8 (WK Tryz.prog e) u=f y) {n:Nat} {d:DataW H} {g:List AV} (h:TV Tryz.prog n t d g) (K:Jq d) :
 ∃ (x:AV) (j:List α),g=[x]/\Sl k x (j.map f)/\(∀ y∈j,q y)/\j.length<=1048576:=by
 rcases h.slice O with ⟨_,rfl⟩|⟨T,U,l,m,rfl,rfl,z,_,D⟩
 ·exact⟨.nils,[],rfl,.inl ⟨rfl,rfl⟩,by simp,by simp⟩
 ·obtain⟨A,S⟩:=ZnL K
  obtain⟨j,E,F⟩:=ZwI (f:=f) (q:=q) l (fun x Q=>by
   obtain⟨i,d',C,w⟩:=ZuY z Q;obtain⟨u,e,N⟩:=D i x d' C w;obtain⟨y,R,B⟩:=M m d' u N (A _ (zA w));exact⟨y,R,by rw[e,B]⟩)
  subst E;rw[L];rw[List.length_map]at z;exact⟨_,j,rfl,.inr ⟨_,rfl⟩,F,by omega⟩
theorem Zx3 {n:Nat}{d:DataW H}{g:List AV}(h:TV Tryz.prog n 29 d g)(j:Jq d):∃ (x:AV) (u:List Zl),g=[x]/\Sl 1 x (u.map AV.str)/\(∀ k∈u,k.length<=1048576)/\u.length<=1048576 :=
 Zo6 (f:=AV.str) (q:=fun s:Zl=>s.length<=1048576) ZvE Zwi (fun m d' A z j=>by
  obtain⟨s,w,rfl,_⟩:=z.str Zx6;rw[w]at j;have y:s.length<=1048576:=ZsZ j;exact⟨s,y,by rw[Zy7,ZeV]⟩) h j
theorem Zx2 {d:DataW H}{a:AV}(h:AT Tryz.prog 29 d a)(y:Jq d):∃ l:List Zl,SS a l/\Wo l/\l.length<=1048576:=by
 obtain⟨n,g,z,rfl⟩:=h;obtain⟨x,A,rfl,j,u,w⟩:=Zx3 z y;rw[Zxf,ZeV];exact⟨A,j,u,w⟩
theorem ZxD {n:Nat}{d:DataW H}{j:List AV}(h:TV Tryz.prog n 119 d j):∃ k:Ke,KeOk k/\j=k.cells:=by
 obtain⟨K,parts,m,rfl,rfl,A,B,g⟩:=h.fields Zpr;obtain⟨a,b,c,d,e,rfl⟩:=ZdD A;obtain⟨a',b',c',d',w,rfl⟩:=ZdD B;obtain⟨x,_,rfl,D⟩:=(g 0 3 a a' rfl rfl rfl).int Kw;obtain⟨y,_,rfl,E⟩:=(g 1 3 b b' rfl rfl rfl).int Kw;obtain⟨z,_,rfl,F⟩:=(g 2 3 c c' rfl rfl rfl).int Kw;obtain⟨u,_,rfl,C⟩:=(g 3 3 d d' rfl rfl rfl).int Kw;obtain⟨v,_,rfl,L⟩:=(g 4 3 e w rfl rfl rfl).int Kw;exact⟨⟨x,y,z,u,v⟩,⟨Zmy D,Zmy E,Zmy F,Zmy C⟩,rfl⟩
theorem ZwF {n:Nat}{d:DataW H}{g:List AV}(h:TV Tryz.prog n 22 d g)(u:Jq d):∃ (x:AV) (j:List Ke),g=[x]/\Sl 5 x (j.map Ke.av)/\(∀ k∈j,KeOk k)/\j.length<=1048576 :=
 Zo6 ZvD Zra (fun m d' z y u=>by
  obtain⟨k,hk,w⟩:=ZxD y;exact⟨k,hk,by rw[w,Zw3];rfl⟩) h u
theorem Zvs {n:Nat}{d:DataW H}{g:List AV}(h:TV Tryz.prog n 26 d g):∃ m w:Int,g=[.int .i64 m,.int .i64 w]:=by
 obtain⟨A,parts,m,rfl,rfl,u,z,j⟩:=h.fields ZrI;obtain⟨a,b,rfl⟩:=ZhP u;obtain⟨a',b',rfl⟩:=ZhP z;obtain⟨x,_,rfl,B⟩:=(j 0 3 a a' rfl rfl rfl).int Kw;obtain⟨y,_,rfl,C⟩:=(j 1 3 b b' rfl rfl rfl).int Kw;exact⟨x,y,rfl⟩
end
end Go.Am
