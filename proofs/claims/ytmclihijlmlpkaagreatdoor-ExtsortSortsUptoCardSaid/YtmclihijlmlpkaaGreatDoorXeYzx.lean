/- The arguments of the statements about sorting in files -/
import Derived.Test.YtmclihijlmlpkaaGreatDoorXeXx
import Derived.Test.YtmclihijlmlpkaaGreatDoorXeMzx
import Derived.Test.YtmclihijlmlpkaaGreatDoorHmXx
import Derived.Test.YtmclihijlmlpkaaGreatDoorRows
open Option renaming some->K
open List renaming length->O
open List renaming mem_of_getElem?->zA
namespace Go.Am
open Go.Proofs Go.Proofs.YtmclihijlmlpkaaGreatDoor
set_option maxRecDepth 100000
theorem Zz8:laidOutB Tryz.prog=true:=df
theorem own:ownKnob Tryz.prog.godebug=none:=df
def argTypes:da:=[3,4,9,22,24,26,28,29,40,103]
theorem Zp1:argTypes.all (B1 Tryz.prog argTypes)=true:=df
theorem Ba:Tryz.prog.underlying 3=K (.int .i64):=df
theorem Zqt:Tryz.prog.underlying 4=K .bool:=df
theorem ZzB:Tryz.prog.underlying 9=K .string:=df
theorem Zya:Tryz.prog.underlying 22=K (.slice 103):=df
theorem Zyb:Tryz.prog.underlying 29=K (.slice 9):=df
theorem ZrD:GI Tryz.prog 103=K [3,3,3,3,3]:=df
theorem Zu8:GI Tryz.prog 24=K [22,3,3,4,4]:=df
theorem ZAt:WP Tryz.prog 9=false:=df
theorem ZzH:WP Tryz.prog 29=false:=df
theorem Zyy:WP Tryz.prog 103=true:=df
theorem ZyN:Tryz.prog.cellsOf 9=1:=df
theorem ZtD:Tryz.prog.cellsOf 103=5:=df
theorem Zu9:GI Tryz.prog 26=K [3,3]:=df
theorem Zua:GI Tryz.prog 28=K [24,26]:=df
theorem ZzG:WP Tryz.prog 28=true:=df
theorem Zef (v:AV):U9 false [v]=v:=de
theorem Zza {α:Type}{f:α->AV}{q:α->Prop}:∀ l:c6,(∀ x∈l,∃ k,q k/\x=f k)->∃ g:List α,l=g.map f/\∀ k∈g,q k:=by
 intro l
 induction l with
 |nil=>intro _;exact⟨[],rfl,cn⟩
 |cons x l B =>
  intro h;obtain⟨k,j,u⟩:=h x cn;obtain⟨g,w,z⟩:=B (λy A=>h y (by simp[A]));exact⟨k::g,by simp[u,w],by simpa[j]using z⟩
theorem Zxy {l:c6}{α:Type}{g:List α}(h:O l=O g){x:AV}(j:x∈l):∃ (i:Nat) (d:α),l[i]?=K x/\g[i]?=K d:=by
 obtain⟨i,hi⟩:=List.getElem?_of_mem j;have:i<O g:=by rw[<-h];exact Zn hi
 exact⟨i,g[i],hi,List.getElem?_eq_getElem this⟩
theorem ZiY {α:Type}{l:List α}(h:O l=2):∃ a b,l=[a,b]:=match l,h with|[a,b],_=>⟨a,b,rfl⟩
theorem ZbX {α:Type}{l:List α}(h:O l=5):∃ a b c d e,l=[a,b,c,d,e]:=match l,h with|[a,b,c,d,e],_=>⟨a,b,c,d,e,rfl⟩
theorem Zt3 {n:Int}(h:(Lit.int .i64 n).wf=true):-9223372036854775808<=n/\n<=9223372036854775807:=by
 have g:IntKind.i64.min=-9223372036854775808:=co
 have j:IntKind.i64.max=9223372036854775807:=co
 simp only[Lit.wf,g,j,Bool.and_eq_true,decide_eq_true_eq]at h;exact h
section
variable {H:Type}
theorem Zwk (d:DataW H):1<=Rows.uptoBulk d:=by
 cases d with
 |lit l=>cases l <;> simp[Rows.uptoBulk]
 |_=>simp[Rows.uptoBulk]
theorem Zn3 (g:List (DataW H)):O g<=Rows.uptoBulkAll g/\∀ d∈g,Rows.uptoBulk d<=Rows.uptoBulkAll g:=by
 induction g with
 |nil=>exact⟨Nat.zero_le _,cn⟩
 |cons x g j =>
  have u:=Zwk x;have e:Rows.uptoBulkAll (x::g)=Rows.uptoBulk x+Rows.uptoBulkAll g:=by rw[Rows.uptoBulkAll]
  rw[e];refine⟨by simp only[List.length_cons];omega,λd h=>?_⟩;rcases List.mem_cons.1 h with rfl|h
  ·omega
  ·have:=j.2 d h;omega
abbrev Jv (d:DataW H):Prop:=Rows.uptoBulk d<=1048576
theorem ZlI {g:List (DataW H)}(h:Jv (.agg g)){i:Nat}{d:DataW H}(hi:g[i]?=K d):Jv d:=by
 unfold Jv at h ⊢;rw[Rows.uptoBulk]at h;have:=(Zn3 g).2 d (zA hi);omega
theorem ZpW {g w:List (DataW H)}(h:Jv (.slice g w)):(∀ d∈g,Jv d)/\O g<=1048576:=by
 unfold Jv at h ⊢;rw[Rows.uptoBulk]at h;obtain⟨y,j⟩:=Zn3 g;exact⟨λd u=>by have:=j d u;omega,cm⟩
theorem Zvs {s:cz}(h:Jv (.lit (.string s):DataW H)):O s<=1048576:=by
 unfold Jv at h;rw[Rows.uptoBulk]at h;omega
theorem Zqe {α:Type}{f:α->AV}{q:α->Prop}{t e k:Nat}(S:Tryz.prog.underlying t=K (.slice e))(M:Tryz.prog.cellsOf e=k)
 (N:∀ (m:Nat) (d':DataW H) (u:c6),TV Tryz.prog m e d' u->Jv d'->∃ y,q y/\U9 (WP Tryz.prog e) u=f y) {n:Nat} {d:DataW H} {g:c6} (h:TV Tryz.prog n t d g) (L:Jv d) :
 ∃ (x:AV) (j:List α),g=[x]/\Sl k x (j.map f)/\(∀ y∈j,q y)/\O j<=1048576:=by
 rcases h.slice S with ⟨_,rfl⟩|⟨es,sp,l,m,rfl,rfl,z,_,D⟩
 ·exact⟨.nils,[],rfl,.inl ⟨rfl,rfl⟩,cn,cn⟩
 ·obtain⟨A,b2⟩:=ZpW L
  obtain⟨j,E,F⟩:=Zza (f:=f) (q:=q) l (λx T=>by
   obtain⟨i,d',C,w⟩:=Zxy z T;obtain⟨u,e,R⟩:=D i x d' C w;obtain⟨y,Z,B⟩:=N m d' u R (A _ (zA w));exact⟨y,Z,by rw[e,B]⟩)
  subst E;rw[M];rw[List.length_map]at z;exact⟨_,j,rfl,.inr ⟨_,rfl⟩,F,cm⟩
theorem Zzx {n:Nat}{d:DataW H}{g:c6}(h:TV Tryz.prog n 29 d g)(j:Jv d):∃ (x:AV) (u:List Zi),g=[x]/\Sl 1 x (u.map AV.str)/\(∀ k∈u,O k<=1048576)/\O u<=1048576 :=
 Zqe (f:=AV.str) (q:=λs:Zi=>O s<=1048576) Zyb ZyN (λm d' A z j=>by
  obtain⟨s,w,rfl,_⟩:=z.str ZzB;rw[w]at j;have y:O s<=1048576:=Zvs j;exact⟨s,y,by rw[ZAt,Zef]⟩) h j
theorem Zzw {d:DataW H}{a:AV}(h:AT Tryz.prog 29 d a)(y:Jv d):∃ l:List Zi,SS a l/\YE l/\O l<=1048576:=by
 obtain⟨n,g,z,rfl⟩:=h;obtain⟨x,A,rfl,j,u,w⟩:=Zzx z y;rw[ZzH,Zef];exact⟨A,j,u,w⟩
theorem ZA5 {n:Nat}{d:DataW H}{j:c6}(h:TV Tryz.prog n 103 d j):∃ k:Ke,KeOk k/\j=k.cells:=by
 obtain⟨L,parts,m,rfl,rfl,A,B,g⟩:=h.fields ZrD;obtain⟨a,b,c,d,e,rfl⟩:=ZbX A;obtain⟨a',b',c',d',w,rfl⟩:=ZbX B;obtain⟨x,_,rfl,D⟩:=(g 0 3 a a' rfl rfl rfl).int Ba;obtain⟨y,_,rfl,E⟩:=(g 1 3 b b' rfl rfl rfl).int Ba;obtain⟨z,_,rfl,F⟩:=(g 2 3 c c' rfl rfl rfl).int Ba;obtain⟨u,_,rfl,C⟩:=(g 3 3 d d' rfl rfl rfl).int Ba;obtain⟨v,_,rfl,M⟩:=(g 4 3 e w rfl rfl rfl).int Ba;exact⟨⟨x,y,z,u,v⟩,⟨Zt3 D,Zt3 E,Zt3 F,Zt3 C⟩,rfl⟩
theorem Zz7 {n:Nat}{d:DataW H}{g:c6}(h:TV Tryz.prog n 22 d g)(u:Jv d):∃ (x:AV) (j:List Ke),g=[x]/\Sl 5 x (j.map Ke.av)/\(∀ k∈j,KeOk k)/\O j<=1048576 :=
 Zqe Zya ZtD (λm d' A z u=>by
  obtain⟨k,y,w⟩:=ZA5 z;exact⟨k,y,by rw[w,Zyy];rfl⟩) h u
theorem Zy1 {n:Nat}{d:DataW H}{g:c6}(h:TV Tryz.prog n 26 d g):∃ m w:Int,g=[.int .i64 m,.int .i64 w]:=by
 obtain⟨A,parts,m,rfl,rfl,u,z,j⟩:=h.fields Zu9;obtain⟨a,b,rfl⟩:=ZiY u;obtain⟨a',b',rfl⟩:=ZiY z;obtain⟨x,_,rfl,B⟩:=(j 0 3 a a' rfl rfl rfl).int Ba;obtain⟨y,_,rfl,C⟩:=(j 1 3 b b' rfl rfl rfl).int Ba;exact⟨x,y,rfl⟩
end
end Go.Am
