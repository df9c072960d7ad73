/- The arguments of the statements about sorting in files -/
import Derived.Test.YtnaneekpogohaaaGreatDoorXeEx
import Derived.Test.YtnaneekpogohaaaGreatDoorXeMzx
import Derived.Test.YtnaneekpogohaaaGreatDoorHmXx
import Derived.Test.YtnaneekpogohaaaGreatDoorRows
open List renaming mem_of_getElem?->zA
namespace Go.Am
open Go.Proofs Go.Proofs.YtnaneekpogohaaaGreatDoor
set_option maxRecDepth 100000
theorem ZxR:laidOutB Tryz.prog=true:=by kernel_rfl
theorem own:ownKnob Tryz.prog.godebug=none:=by kernel_rfl
def argTypes:List Nat:=[3,4,9,22,24,26,28,29,38,119]
theorem Ge:Tryz.prog.underlying 3=some (.int .i64):=by kernel_rfl
theorem Zpn:Tryz.prog.underlying 4=some .bool:=by kernel_rfl
theorem Zyg:Tryz.prog.underlying 9=some .string:=by kernel_rfl
theorem ZwJ:Tryz.prog.underlying 22=some (.slice 119):=by kernel_rfl
theorem ZwK:Tryz.prog.underlying 29=some (.slice 9):=by kernel_rfl
theorem Zqq:Ka Tryz.prog 119=some [3,3,3,3,3]:=by kernel_rfl
theorem ZsJ:Ka Tryz.prog 24=some [22,3,3,4,4]:=by kernel_rfl
theorem Zzf:WB Tryz.prog 9=false:=by kernel_rfl
theorem Zyo:WB Tryz.prog 29=false:=by kernel_rfl
theorem Zxd:WB Tryz.prog 119=true:=by kernel_rfl
theorem Zxt:Tryz.prog.cellsOf 9=1:=by kernel_rfl
theorem Zs9:Tryz.prog.cellsOf 119=5:=by kernel_rfl
theorem ZsK:Ka Tryz.prog 26=some [3,3]:=by kernel_rfl
theorem ZsL:Ka Tryz.prog 28=some [24,26]:=by kernel_rfl
theorem Zyn:WB Tryz.prog 28=true:=by kernel_rfl
theorem Zg7 (v:AV):UD false [v]=v:=(Eq.refl _).trans (Eq.refl _)
theorem ZxT {α:Type}{f:α->AV}{q:α->Prop}:∀ l:List AV,(∀ x∈l,∃ k,q k/\x=f k)->∃ g:List α,l=g.map f/\∀ k∈g,q k:=by
 intro l
 induction l with
 |nil=>intro _;exact⟨[],rfl,by simp⟩
 |cons x l B =>
  intro h;obtain⟨k,j,u⟩:=h x (by simp);obtain⟨g,w,z⟩:=B (fun y A=>h y (by simp[A]));exact⟨k::g,by simp[u,w],by simpa[j]using z⟩
theorem Zw5 {l:List AV}{α:Type}{g:List α}(h:l.length=g.length){x:AV}(j:x∈l):∃ (i:Nat) (d:α),l[i]?=some x/\g[i]?=some d:=by
 obtain⟨i,hi⟩:=List.getElem?_of_mem j;have:i<g.length:=by rw[<-h];exact Zg hi
 exact⟨i,g[i],hi,List.getElem?_eq_getElem this⟩
theorem OU {α:Type}{l:List α}(h:l.length=2):∃ a b,l=[a,b]:=match l,h with|[a,b],_=>⟨a,b,rfl⟩
theorem ZeT {α:Type}{l:List α}(h:l.length=5):∃ a b c d e,l=[a,b,c,d,e]:=match l,h with|[a,b,c,d,e],_=>⟨a,b,c,d,e,rfl⟩
theorem ZrG {n:Int}(h:(Lit.int .i64 n).wf=true):-9223372036854775808<=n/\n<=9223372036854775807:=by
 have g:IntKind.i64.min=-9223372036854775808:=by decide
 have j:IntKind.i64.max=9223372036854775807:=by decide
 simp only[Lit.wf,g,j,Bool.and_eq_true,decide_eq_true_eq]at h;exact h
section
variable {H:Type}
theorem ZuP (d:DataW H):1<=Rows.uptoBulk d:=by
 cases d with
 |lit l=>cases l <;> simp[Rows.uptoBulk]
 |_=>simp[Rows.uptoBulk]
theorem ZlW (g:List (DataW H)):g.length<=Rows.uptoBulkAll g/\∀ d∈g,Rows.uptoBulk d<=Rows.uptoBulkAll g:=by
 induction g with
 |nil=>exact⟨Nat.zero_le _,by simp⟩
 |cons x g j =>
  have u:=ZuP x;have e:Rows.uptoBulkAll (x::g)=Rows.uptoBulk x+Rows.uptoBulkAll g:=by rw[Rows.uptoBulkAll]
  rw[e];refine⟨by simp only[List.length_cons];omega,fun d h=>?_⟩;rcases List.mem_cons.1 h with rfl|h
  ·omega
  ·have:=j.2 d h;omega
abbrev K0 (d:DataW H):Prop:=Rows.uptoBulk d<=1048576
theorem ZkM {g:List (DataW H)}(h:K0 (.agg g)){i:Nat}{d:DataW H}(hi:g[i]?=some d):K0 d:=by
 unfold K0 at h ⊢;rw[Rows.uptoBulk]at h;have:=(ZlW g).2 d (zA hi);omega
theorem ZoP {g w:List (DataW H)}(h:K0 (.slice g w)):(∀ d∈g,K0 d)/\g.length<=1048576:=by
 unfold K0 at h ⊢;rw[Rows.uptoBulk]at h;obtain⟨y,j⟩:=ZlW g;exact⟨fun d u=>by have:=j d u;omega,by omega⟩
theorem Zu3 {s:List UInt8}(h:K0 (.lit (.string s):DataW H)):s.length<=1048576:=by
 unfold K0 at h;rw[Rows.uptoBulk]at h;omega
theorem Zpb {α:Type}{f:α->AV}{q:α->Prop}{t e k:Nat}(N:Tryz.prog.underlying t=some (.slice e))(K:Tryz.prog.cellsOf e=k)
 (L:∀ (m:Nat) (d':DataW H) (u:List AV),TV Tryz.prog m e d' u->K0 d'->∃ y,q y/\UD (WB Tryz.prog e) u=f y) {n:Nat} {d:DataW H} {g:List AV} (h:TV Tryz.prog n t d g) (I:K0 d) :
 ∃ (x:AV) (j:List α),g=[x]/\Sl k x (j.map f)/\(∀ y∈j,q y)/\j.length<=1048576:=by
 rcases h.slice N with ⟨_,rfl⟩|⟨S,T,l,m,rfl,rfl,z,_,D⟩
 ·exact⟨.nils,[],rfl,.inl ⟨rfl,rfl⟩,by simp,by simp⟩
 ·obtain⟨A,R⟩:=ZoP I
  obtain⟨j,E,F⟩:=ZxT (f:=f) (q:=q) l (fun x O=>by
   obtain⟨i,d',C,w⟩:=Zw5 z O;obtain⟨u,e,M⟩:=D i x d' C w;obtain⟨y,Q,B⟩:=L m d' u M (A _ (zA w));exact⟨y,Q,by rw[e,B]⟩)
  subst E;rw[K];rw[List.length_map]at z;exact⟨_,j,rfl,.inr ⟨_,rfl⟩,F,by omega⟩
theorem Zyd {n:Nat}{d:DataW H}{g:List AV}(h:TV Tryz.prog n 29 d g)(j:K0 d):∃ (x:AV) (u:List Zl),g=[x]/\Sl 1 x (u.map AV.str)/\(∀ k∈u,k.length<=1048576)/\u.length<=1048576 :=
 Zpb (f:=AV.str) (q:=fun s:Zl=>s.length<=1048576) ZwK Zxt (fun m d' A z j=>by
  obtain⟨s,w,rfl,_⟩:=z.str Zyg;rw[w]at j;have y:s.length<=1048576:=Zu3 j;exact⟨s,y,by rw[Zzf,Zg7]⟩) h j
theorem Zyc {d:DataW H}{a:AV}(h:AT Tryz.prog 29 d a)(y:K0 d):∃ l:List Zl,SS a l/\We l/\l.length<=1048576:=by
 obtain⟨n,g,z,rfl⟩:=h;obtain⟨x,A,rfl,j,u,w⟩:=Zyd z y;rw[Zyo,Zg7];exact⟨A,j,u,w⟩
theorem ZyP {n:Nat}{d:DataW H}{j:List AV}(h:TV Tryz.prog n 119 d j):∃ k:Ke,KeOk k/\j=k.cells:=by
 obtain⟨I,parts,m,rfl,rfl,A,B,g⟩:=h.fields Zqq;obtain⟨a,b,c,d,e,rfl⟩:=ZeT A;obtain⟨a',b',c',d',w,rfl⟩:=ZeT B;obtain⟨x,_,rfl,D⟩:=(g 0 3 a a' rfl rfl rfl).int Ge;obtain⟨y,_,rfl,E⟩:=(g 1 3 b b' rfl rfl rfl).int Ge;obtain⟨z,_,rfl,F⟩:=(g 2 3 c c' rfl rfl rfl).int Ge;obtain⟨u,_,rfl,C⟩:=(g 3 3 d d' rfl rfl rfl).int Ge;obtain⟨v,_,rfl,K⟩:=(g 4 3 e w rfl rfl rfl).int Ge;exact⟨⟨x,y,z,u,v⟩,⟨ZrG D,ZrG E,ZrG F,ZrG C⟩,rfl⟩
theorem ZxQ {n:Nat}{d:DataW H}{g:List AV}(h:TV Tryz.prog n 22 d g)(u:K0 d):∃ (x:AV) (j:List Ke),g=[x]/\Sl 5 x (j.map Ke.av)/\(∀ k∈j,KeOk k)/\j.length<=1048576 :=
 Zpb ZwJ Zs9 (fun m d' z y u=>by
  obtain⟨k,hk,w⟩:=ZyP y;exact⟨k,hk,by rw[w,Zxd];rfl⟩) h u
theorem Zwz {n:Nat}{d:DataW H}{g:List AV}(h:TV Tryz.prog n 26 d g):∃ m w:Int,g=[.int .i64 m,.int .i64 w]:=by
 obtain⟨A,parts,m,rfl,rfl,u,z,j⟩:=h.fields ZsK;obtain⟨a,b,rfl⟩:=OU u;obtain⟨a',b',rfl⟩:=OU z;obtain⟨x,_,rfl,B⟩:=(j 0 3 a a' rfl rfl rfl).int Ge;obtain⟨y,_,rfl,C⟩:=(j 1 3 b b' rfl rfl rfl).int Ge;exact⟨x,y,rfl⟩
end
end Go.Am
