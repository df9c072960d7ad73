/- The helpers of chapter 24's laws -/
import Derived.Test.YtmclihijlmlpkaaGreatDoorXeCox
import Derived.Test.YtmclihijlmlpkaaGreatDoorXeGLx
import Derived.Test.YtmclihijlmlpkaaGreatDoorXeYzx
open Option renaming some->K
open Bool renaming true->Q,false->J
open List renaming length->O
open List renaming mapM_cons->zA
namespace Go.Am
set_option linter.unusedSectionVars false
set_option maxRecDepth 100000
def Zyc (l:List Zi):Prop:=O l<=40/\∀ s∈l,O s<=200
theorem ZrA {x:AV}{l:List Zi}(M:SS x l)(hl:O l<=1048576)(hL:YE l)(H0 H:Hp):∀ (r d:List Zi),l=d++r->(∀ s∈d,O s<=200)->∃ b,EH x (.int .i64 (O d:Int)) H0 H=K (.bool b,H)/\(b=Q->Zyc l):=by
 have A:=SS.len M 9;intro r
 induction r with
 |nil =>
  intro d z E;rw[List.append_nil]at z;subst z;have g:decide ((O l:Int)<(O l:Int))=J:=cn
  refine⟨decide ((O l:Int)<=40),?_,λC=>⟨by rw[decide_eq_true_eq]at C;omega,E⟩⟩;rw[Fi];simp only[go_sem,A,g,jJ]
 |cons s r Z =>
  intro d z E;have L:O l=O d+(O r+1):=by rw[z];simp
  have g:decide ((O d:Int)<(O l:Int))=Q:=by rw[decide_eq_true_eq];omega
  have D:l[O d]?=K s:=by rw[z,List.getElem?_append_right (Nat.le_refl _)];simp
  have u:=SS.idx M D;have F:IntKind.i64.wrap ((O d:Int)+1)=((d++[s]).length:Int):=by rw[Zo cm cm];simp
  by_cases S:O d<41
  ·have j:decide ((O d:Int)<41)=Q:=by rw[decide_eq_true_eq];omega
   by_cases hc:200<O s
   ·have B:decide ((200:Int)<(O s:Int))=Q:=by rw[decide_eq_true_eq];omega
    refine⟨J,?_,λh=>by cases h⟩;rw[Fi];simp only[go_sem,A,g,j,jK,u,Zu,B]
   ·have B:decide ((200:Int)<(O s:Int))=J:=by rw[decide_eq_false_iff_not];omega
    obtain⟨b,N,R⟩:=Z (d++[s]) (by rw[z];simp) (λy T=>by
     rcases List.mem_append.1 T with h|h
     ·exact E y h
     ·rw[List.mem_singleton.1 h];omega)
    refine⟨b,?_,R⟩;rw[Fi];simp only[go_sem,A,g,j,jK,u,Zu,B,ZlY,F];exact N
  ·have j:decide ((O d:Int)<41)=J:=by rw[decide_eq_false_iff_not];omega
   refine⟨decide ((O l:Int)<=40),?_,λC=>by rw[decide_eq_true_eq]at C;omega⟩;rw[Fi];simp only[go_sem,A,g,j,jJ]
theorem Zrz {x:AV}{l:List Zi}(z:SS x l)(u:O l<=1048576)(j:YE l)(H:Hp):∃ b,Ze nK [x] H=K (.bool b,H)/\(b=Q->Zyc l):=by
 obtain⟨C,g,h⟩:=SS.closed z [] 0 7;obtain⟨b,A,B⟩:=ZrA h u j [] [] l [] rfl (λs y=>by cases y);refine⟨b,Xi (args':=[C]) (H1:=[]) (by rw[zA,g];rfl) ?_ rfl,B⟩;rw[ZmC];unfold ZkS;exact A
def We (p:Spec)(xp:AV)(mem w:Int):c6:=p.cells xp++[.int .i64 mem,.int .i64 w]
theorem Zv1 {p:Spec}{xp:AV}{mem w:Int}(z:Sl 5 xp (p.keys.map Ke.av)):∃ g,Zh [] 0 9 (.agg (We p xp mem w))=K (.agg (We p g mem w))/\Sl 5 g (p.keys.map Ke.av):=by
 obtain⟨h,j,u⟩:=z.close (H:=[]) (n:=0) (f:=7) (λc y=>by
  obtain⟨k,_,rfl⟩:=List.mem_map.1 y;exact k.close [] 0 5)
 refine⟨h,?_,u⟩
 have:(We p xp mem w).mapM (Zh [] 0 8)=K (We p h mem w):=by
  simp only[We,Spec.cells,List.cons_append,List.nil_append,zA,j,List.mapM_nil];rfl
 rw[Km,this]
theorem Zos {p:Spec}{xp:AV}{mem w:Int}(A:Sl 5 xp (p.keys.map Ke.av))(H:Hp):Ze IU [.agg (We p xp mem w)] H=K (.bool (decide ((O p.keys:Int)<=10)),H):=by
 obtain⟨g,j,u⟩:=Zv1 (mem:=mem) (w:=w) A;refine Xi (args':=[.agg (We p g mem w)]) (H1:=[.cells (We p g mem w)]) (by rw[zA,j];rfl) ?_ rfl;have y:ZF (.agg (We p g mem w)) []=K (.ptr 0 0,[.cells (We p g mem w)]):=rfl;have z:Z2 J 1 (.ptr 0 0) [.cells (We p g mem w)]=K g:=rfl;have h:=Sl.len u 103;rw[List.length_map]at h;rw[Zja];unfold Zd7;simp only[y,go_sem,z,h,cM]
section
variable {p:Spec}{xp:AV}{mem w:Int}
theorem ZxE (H:Hp):ZF (.agg (We p xp mem w)) H=K (.ptr (O H) 0,H++[.cells (We p xp mem w)]):=ZW _ _
theorem Zze (H:Hp):Z2 Q 7 (.ptr (O H) 0) (H++[.cells (We p xp mem w)])=K (.agg (We p xp mem w)):=by rw[Yk (Zbe H _ [])];rfl
theorem Zzf:Z8 0 (.vp (We p xp mem w))=K (.vp (We p xp mem w)):=rfl
theorem Zzg:Z8 5 (.vp (We p xp mem w))=K (.vp [.int .i64 mem,.int .i64 w]):=rfl
theorem Zv3:Xk Q 5 (.vp (We p xp mem w))=K (.agg (p.cells xp)):=rfl
theorem Zv2:Xk Q 2 (.vp [.int .i64 mem,.int .i64 w])=K (.agg [.int .i64 mem,.int .i64 w]):=rfl
end
theorem Zsl:Fe ZfO=Q:=df
theorem Zix {t:Nat}{s:Sto}(j:StoOk s)(g:s.files=[]):Zt9 t s:=λH S h=>by
 obtain⟨H',A',u,y,z,A⟩:=ZoM h j g ZfO (by show 4<=_;omega) Zsl 262144;exact⟨H',A',O H+1,u,y,z,A⟩
theorem ZbT:BOk []:=⟨cn,(λf g=>by cases g),(λf g=>by cases g),cn,by simp[ZB],(λf g=>by cases g)⟩
theorem Zyk:LocSm defL:=⟨by simp[defL],by simp[defL],by simp[defL]⟩
end Go.Am
namespace Go.Am
open Go.Proofs Go.Proofs.YtmclihijlmlpkaaGreatDoor
set_option maxRecDepth 100000
section
variable {H:Type}
theorem Zy4 {n:Nat}{d:DataW H}{j:c6}(h:TV Tryz.prog n 24 d j)(D:Jv d):∃ (p:Spec) (xp:AV),j=p.cells xp/\Sl 5 xp (p.keys.map Ke.av)/\(∀ k∈p.keys,KeOk k)/\O p.keys<=1048576:=by
 obtain⟨N,parts,m,rfl,rfl,B,C,g⟩:=h.fields Zu8;obtain⟨a,b,c,d,e,rfl⟩:=ZbX B;obtain⟨a',b',c',d',A,rfl⟩:=ZbX C;obtain⟨x,M,rfl,L,E,F⟩:=Zz7 (g 0 22 a a' rfl rfl rfl) (ZlI D (i:=0) rfl);obtain⟨y,_,rfl,_⟩:=(g 1 3 b b' rfl rfl rfl).int Ba;obtain⟨z,_,rfl,_⟩:=(g 2 3 c c' rfl rfl rfl).int Ba;obtain⟨u,_,rfl⟩:=(g 3 4 d d' rfl rfl rfl).bool Zqt;obtain⟨v,_,rfl⟩:=(g 4 4 e A rfl rfl rfl).bool Zqt;exact⟨⟨M,y,z,v,u⟩,x,rfl,L,E,F⟩
theorem ZxF {d:DataW H}{a:AV}(h:AT Tryz.prog 28 d a)(y:Jv d):∃ (p:Spec) (xp:AV) (mem w:Int),a=.agg (We p xp mem w)/\Sl 5 xp (p.keys.map Ke.av)/\(∀ k∈p.keys,KeOk k)/\O p.keys<=1048576:=by
 obtain⟨n,D,z,e0⟩:=h.agg ZzG;subst e0;obtain⟨E,parts,m,rfl,rfl,j,u,g⟩:=z.fields Zua;obtain⟨a,b,rfl⟩:=ZiY j;obtain⟨a',b',rfl⟩:=ZiY u;obtain⟨p,xp,rfl,A,B,C⟩:=Zy4 (g 0 24 a a' rfl rfl rfl) (ZlI y (i:=0) rfl);obtain⟨m,w,rfl⟩:=Zy1 (g 1 26 b b' rfl rfl rfl);exact⟨p,xp,m,w,by simp[We],A,B,C⟩
end
end Go.Am
