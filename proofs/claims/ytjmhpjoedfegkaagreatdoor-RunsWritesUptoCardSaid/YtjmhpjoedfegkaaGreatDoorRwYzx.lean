/- The arguments of the statements about sorting in files -/
import Derived.Test.YtjmhpjoedfegkaaGreatDoorRwXx
import Derived.Test.YtjmhpjoedfegkaaGreatDoorRwMzx
import Derived.Test.YtjmhpjoedfegkaaGreatDoorHmXx
import Derived.Test.YtjmhpjoedfegkaaGreatDoorRows
open Option renaming some->K
open List renaming mem_of_getElem?->zA
namespace Go.Am
open Go.Proofs Go.Proofs.YtjmhpjoedfegkaaGreatDoor
set_option maxRecDepth 100000
theorem ZyU:laidOutB Tryz.prog=true:=dz
theorem own:ownKnob Tryz.prog.godebug=none:=dz
theorem Q6:Tryz.prog.underlying 3=K (.int .i64):=dz
theorem ZpR:Tryz.prog.underlying 4=K .bool:=dz
theorem Zzo:Tryz.prog.underlying 9=K .string:=dz
theorem ZxR:Tryz.prog.underlying 24=K (.slice 142):=dz
theorem ZxS:Tryz.prog.underlying 27=K (.slice 9):=dz
theorem ZqX:Kf Tryz.prog 142=K [3,3,3,3,3]:=dz
theorem Ztq:Kf Tryz.prog 26=K [24,3,3,4,4]:=dz
theorem ZAr:WD Tryz.prog 9=false:=dz
theorem Zyi:WD Tryz.prog 142=true:=dz
theorem Zyw:Tryz.prog.cellsOf 9=1:=dz
theorem ZsQ:Tryz.prog.cellsOf 142=5:=dz
theorem Zp7 (v:AV):Ul false [v]=v:=dy
theorem ZyW {α:Type}{f:α->AV}{q:α->Prop}:∀ l:du,(∀ x∈l,∃ k,q k/\x=f k)->∃ j:List α,l=j.map f/\∀ k∈j,q k:=by
 intro l
 induction l with
 |nil=>intro _;exact⟨[],rfl,dh⟩
 |cons x l C =>
  intro h;obtain⟨k,u,w⟩:=h x dh;obtain⟨j,z,A⟩:=C (λy B=>h y (by simp[B]));exact⟨k::j,by simp[w,z],by simpa[u]using A⟩
theorem Zx5 {l:du}{α:Type}{h:List α}(j:l.length=h.length){x:AV}(u:x∈l):∃ (i:Nat) (d:α),l[i]?=K x/\h[i]?=K d:=by
 obtain⟨i,hi⟩:=List.getElem?_of_mem u;have:i<h.length:=by rw[<-j];exact Zq hi
 exact⟨i,h[i],hi,List.getElem?_eq_getElem this⟩
theorem ZcE {α:Type}{l:List α}(h:l.length=5):∃ a b c d e,l=[a,b,c,d,e]:=match l,h with|[a,b,c,d,e],_=>⟨a,b,c,d,e,rfl⟩
theorem Zcs {n:Int}(h:(Lit.int .i64 n).wf=true):-9223372036854775808<=n/\n<=9223372036854775807:=by
 have j:IntKind.i64.min=-9223372036854775808:=di
 have u:IntKind.i64.max=9223372036854775807:=di
 simp only[Lit.wf,j,u,Bool.and_eq_true,decide_eq_true_eq]at h;exact h
section
variable {H:Type}
theorem ZvT (d:DataW H):1<=Rows.uptoBulk d:=by
 cases d with
 |lit l=>cases l <;> simp[Rows.uptoBulk]
 |_=>simp[Rows.uptoBulk]
theorem Zmy (h:List (DataW H)):h.length<=Rows.uptoBulkAll h/\∀ d∈h,Rows.uptoBulk d<=Rows.uptoBulkAll h:=by
 induction h with
 |nil=>exact⟨Nat.zero_le _,dh⟩
 |cons x h u =>
  have w:=ZvT x;have e:Rows.uptoBulkAll (x::h)=Rows.uptoBulk x+Rows.uptoBulkAll h:=by rw[Rows.uptoBulkAll]
  rw[e];refine⟨by simp only[List.length_cons];omega,λd j=>?_⟩;rcases List.mem_cons.1 j with rfl|j
  ·omega
  ·have:=u.2 d j;omega
abbrev J6 (d:DataW H):Prop:=Rows.uptoBulk d<=1048576
theorem Om {j:List (DataW H)}(h:J6 (.agg j)){i:Nat}{d:DataW H}(hi:j[i]?=K d):J6 d:=by
 unfold J6 at h ⊢;rw[Rows.uptoBulk]at h;have:=(Zmy j).2 d (zA hi);omega
theorem Zpj {j y:List (DataW H)}(h:J6 (.slice j y)):(∀ d∈j,J6 d)/\j.length<=1048576:=by
 unfold J6 at h ⊢;rw[Rows.uptoBulk]at h;obtain⟨z,u⟩:=Zmy j;exact⟨λd w=>by have:=u d w;omega,b5⟩
theorem Zv1 {s:dr}(h:J6 (.lit (.string s):DataW H)):s.length<=1048576:=by
 unfold J6 at h;rw[Rows.uptoBulk]at h;omega
theorem ZjW {α:Type}{f:α->AV}{q:α->Prop}{t e k:Nat}(R:Tryz.prog.underlying t=K (.slice e))(M:Tryz.prog.cellsOf e=k)
 (N:∀ (m:Nat) (d':DataW H) (w:du),TV Tryz.prog m e d' w->J6 d'->∃ y,q y/\Ul (WD Tryz.prog e) w=f y) {n:Nat} {d:DataW H} {j:du} (h:TV Tryz.prog n t d j) (L:J6 d) :
 ∃ (x:AV) (u:List α),j=[x]/\Sl k x (u.map f)/\(∀ y∈u,q y)/\u.length<=1048576:=by
 rcases h.slice R with ⟨_,rfl⟩|⟨es,sp,l,m,rfl,rfl,A,_,E⟩
 ·exact⟨.nils,[],rfl,.inl ⟨rfl,rfl⟩,dh,dh⟩
 ·obtain⟨B,Z⟩:=Zpj L
  obtain⟨u,F,G⟩:=ZyW (f:=f) (q:=q) l (λx S=>by
   obtain⟨i,d',D,z⟩:=Zx5 A S;obtain⟨w,e,P⟩:=E i x d' D z;obtain⟨y,T,C⟩:=N m d' w P (B _ (zA z));exact⟨y,T,by rw[e,C]⟩)
  subst F;rw[M];rw[List.length_map]at A;exact⟨_,u,rfl,.inr ⟨_,rfl⟩,G,b5⟩
theorem Zzk {n:Nat}{d:DataW H}{j:du}(h:TV Tryz.prog n 27 d j)(u:J6 d):∃ (x:AV) (w:List ZW),j=[x]/\Sl 1 x (w.map AV.str)/\(∀ k∈w,k.length<=1048576)/\w.length<=1048576 :=
 ZjW (f:=AV.str) (q:=λs:ZW=>s.length<=1048576) ZxS Zyw (λm d' B A u=>by
  obtain⟨s,y,rfl,_⟩:=A.str Zzo;rw[y]at u;have z:s.length<=1048576:=Zv1 u;exact⟨s,z,by rw[ZAr,Zp7]⟩) h u
theorem ZA0 {n:Nat}{d:DataW H}{w:du}(h:TV Tryz.prog n 142 d w):∃ k:Ke,KeOk k/\w=k.cells:=by
 obtain⟨L,parts,m,rfl,rfl,B,C,j⟩:=h.fields ZqX;obtain⟨a,b,c,d,e,rfl⟩:=ZcE B;obtain⟨a',b',c',d',A,rfl⟩:=ZcE C;obtain⟨x,_,rfl,E⟩:=(j 0 3 a a' rfl rfl rfl).int Q6;obtain⟨y,_,rfl,F⟩:=(j 1 3 b b' rfl rfl rfl).int Q6;obtain⟨z,_,rfl,G⟩:=(j 2 3 c c' rfl rfl rfl).int Q6;obtain⟨u,_,rfl,D⟩:=(j 3 3 d d' rfl rfl rfl).int Q6;obtain⟨v,_,rfl,M⟩:=(j 4 3 e A rfl rfl rfl).int Q6;exact⟨⟨x,y,z,u,v⟩,⟨Zcs E,Zcs F,Zcs G,Zcs D⟩,rfl⟩
theorem ZyT {n:Nat}{d:DataW H}{j:du}(h:TV Tryz.prog n 24 d j)(w:J6 d):∃ (x:AV) (u:List Ke),j=[x]/\Sl 5 x (u.map Ke.av)/\(∀ k∈u,KeOk k)/\u.length<=1048576 :=
 ZjW ZxR ZsQ (λm d' B A w=>by
  obtain⟨k,z,y⟩:=ZA0 A;exact⟨k,z,by rw[y,Zyi];rfl⟩) h w
end
end Go.Am
