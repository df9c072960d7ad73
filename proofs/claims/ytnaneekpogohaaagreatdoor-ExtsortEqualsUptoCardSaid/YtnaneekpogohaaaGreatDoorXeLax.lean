/- The helpers of chapter 24's laws -/
import Derived.Test.YtnaneekpogohaaaGreatDoorXeCox
import Derived.Test.YtnaneekpogohaaaGreatDoorXeAwx
import Derived.Test.YtnaneekpogohaaaGreatDoorXeGLx
import Derived.Test.YtnaneekpogohaaaGreatDoorXeYzx
open List renaming mapM_cons->zA
namespace Go.Am
set_option linter.unusedSectionVars false
set_option maxRecDepth 100000
def Zxx (l:List Zj):Prop:=l.length<=40/\∀ s∈l,s.length<=200
theorem Zq0 {x:AV}{l:List Zj}(J:SS x l)(T:l.length<=1048576)(R:We l)(K H:Hp):∀ (r d:List Zj),l=d++r->(∀ s∈d,s.length<=200)->∃ b,MD x (.int .i64 (d.length:Int)) K H=some (.bool b,H)/\(b=true->Zxx l):=by
 have A:=SS.len J 9;intro r
 induction r with
 |nil =>
  intro d z E;rw[List.append_nil]at z;subst z;have g:decide ((l.length:Int)<(l.length:Int))=false:=by simp
  refine⟨decide ((l.length:Int)<=40),?_,fun C=>⟨by rw[decide_eq_true_eq]at C;omega,E⟩⟩;rw[Dz];simp only[go_sem,A,g,OV]
 |cons s r Q =>
  intro d z E;have I:l.length=d.length+(r.length+1):=by rw[z];simp
  have g:decide ((d.length:Int)<(l.length:Int))=true:=by rw[decide_eq_true_eq];omega
  have D:l[d.length]?=some s:=by rw[z,List.getElem?_append_right (Nat.le_refl _)];simp
  have u:=SS.idx J D;have F:IntKind.i64.wrap ((d.length:Int)+1)=((d++[s]).length:Int):=by rw[Zr (by omega) (by omega)];simp
  by_cases N:d.length<41
  ·have j:decide ((d.length:Int)<41)=true:=by rw[decide_eq_true_eq];omega
   by_cases S:200<s.length
   ·have B:decide ((200:Int)<(s.length:Int))=true:=by rw[decide_eq_true_eq];omega
    refine⟨false,?_,fun h=>by cases h⟩;rw[Dz];simp only[go_sem,A,g,j,OW,u,ZC,B]
   ·have B:decide ((200:Int)<(s.length:Int))=false:=by rw[decide_eq_false_iff_not];omega
    obtain⟨b,L,M⟩:=Q (d++[s]) (by rw[z];simp) (fun y O=>by
     rcases List.mem_append.1 O with h|h
     ·exact E y h
     ·rw[List.mem_singleton.1 h];omega)
    refine⟨b,?_,M⟩;rw[Dz];simp only[go_sem,A,g,j,OW,u,ZC,B,ZjV,F];exact L
  ·have j:decide ((d.length:Int)<41)=false:=by rw[decide_eq_false_iff_not];omega
   refine⟨decide ((l.length:Int)<=40),?_,fun C=>by rw[decide_eq_true_eq]at C;omega⟩;rw[Dz];simp only[go_sem,A,g,j,OV]
theorem ZpZ {x:AV}{l:List Zj}(A:SS x l)(y:l.length<=1048576)(u:We l)(H:Hp):∃ b,Zf Zbc [x] H=some (.bool b,H)/\(b=true->Zxx l):=by
 obtain⟨D,g,j⟩:=SS.closed A [] 0 7;obtain⟨b,B,C⟩:=Zq0 j y u [] [] l [] rfl (fun s z=>by cases z);refine⟨b,Vn (args':=[D]) (H1:=[]) (by rw[zA,g];rfl) ?_ rfl,C⟩;rw[ZkC];unfold ZiW;exact B
def XR (p:Spec)(xp:AV)(mem w:Int):List AV:=p.cells xp++[.int .i64 mem,.int .i64 w]
theorem ZtF {p:Spec}{xp:AV}{mem w:Int}(A:Sl 5 xp (p.keys.map Ke.av)):∃ g,Zb [] 0 9 (.agg (XR p xp mem w))=some (.agg (XR p g mem w))/\Sl 5 g (p.keys.map Ke.av):=by
 obtain⟨j,u,y⟩:=A.close (H:=[]) (n:=0) (f:=7) (fun c z=>by
  obtain⟨k,_,rfl⟩:=List.mem_map.1 z;exact k.close [] 0 5)
 refine⟨j,?_,y⟩
 have:(XR p xp mem w).mapM (Zb [] 0 8)=some (XR p j mem w):=by
  simp only[XR,Spec.cells,List.cons_append,List.nil_append,zA,u,List.mapM_nil];rfl
 rw[JU,this]
theorem Zmx {p:Spec}{xp:AV}{mem w:Int}(B:Sl 5 xp (p.keys.map Ke.av))(H:Hp):Zf Hc [.agg (XR p xp mem w)] H=some (.bool (decide ((p.keys.length:Int)<=10)),H):=by
 obtain⟨g,u,y⟩:=ZtF (mem:=mem) (w:=w) B;refine Vn (args':=[.agg (XR p g mem w)]) (H1:=[.cells (XR p g mem w)]) (by rw[zA,u];rfl) ?_ rfl;have z:ZM (.agg (XR p g mem w)) []=some (.ptr 0 0,[.cells (XR p g mem w)]):=rfl;have A:Z4 false 1 (.ptr 0 0) [.cells (XR p g mem w)]=some g:=rfl;have j:=Sl.len y 119;rw[List.length_map]at j;rw[ZhW];unfold Ze7;simp only[z,go_sem,A,j,AM]
section
variable {p:Spec}{xp:AV}{mem w:Int}
theorem ZwE (H:Hp):ZM (.agg (XR p xp mem w)) H=some (.ptr H.length 0,H++[.cells (XR p xp mem w)]):=YB _ _
theorem ZyV (H:Hp):Z4 true 7 (.ptr H.length 0) (H++[.cells (XR p xp mem w)])=some (.agg (XR p xp mem w)):=by rw[YY (ZcG H _ [])];rfl
theorem Zfu {H:Hp}{n:Nat}(h:H[n]?=some (.cells (XR p xp mem w))):Z4 true 5 (.ptr n 0) H=some (.agg (p.cells xp)):=by rw[YY h];rfl
theorem Zm8 {H:Hp}{n:Nat}(h:H[n]?=some (.cells (XR p xp mem w))):Z4 true 2 (.ptr n 5) H=some (.agg [.int .i64 mem,.int .i64 w]):=by rw[YY h];rfl
end
theorem Zlv (o:Nat):Z6 5 (.ptr o 0)=some (.ptr o 5):=rfl
theorem ZqR:Q8 HU=true:=by kernel_rfl
theorem Zyf:BOk []:=⟨by simp,(fun f g=>by cases g),(fun f g=>by cases g),by simp,by simp[Zs],(fun f g=>by cases g)⟩
theorem ZAC:LocSm defL:=⟨by simp[defL],by simp[defL],by simp[defL]⟩
end Go.Am
namespace Go.Am
open Go.Proofs Go.Proofs.YtnaneekpogohaaaGreatDoor
set_option maxRecDepth 100000
section
variable {H:Type}
theorem Zx5 {n:Nat}{d:DataW H}{j:List AV}(h:TV Tryz.prog n 24 d j)(D:J0 d):∃ (p:Spec) (xp:AV),j=p.cells xp/\Sl 5 xp (p.keys.map Ke.av)/\(∀ k∈p.keys,KeOk k)/\p.keys.length<=1048576:=by
 obtain⟨K,parts,m,rfl,rfl,B,C,g⟩:=h.fields ZsH;obtain⟨a,b,c,d,e,rfl⟩:=Zdp B;obtain⟨a',b',c',d',A,rfl⟩:=Zdp C;obtain⟨x,J,rfl,I,E,F⟩:=ZyK (g 0 22 a a' rfl rfl rfl) (ZjL D (i:=0) rfl);obtain⟨y,_,rfl,_⟩:=(g 1 3 b b' rfl rfl rfl).int GA;obtain⟨z,_,rfl,_⟩:=(g 2 3 c c' rfl rfl rfl).int GA;obtain⟨u,_,rfl⟩:=(g 3 4 d d' rfl rfl rfl).bool ZoO;obtain⟨v,_,rfl⟩:=(g 4 4 e A rfl rfl rfl).bool ZoO;exact⟨⟨J,y,z,v,u⟩,x,rfl,I,E,F⟩
theorem ZwF {d:DataW H}{a:AV}(h:AT Tryz.prog 28 d a)(y:J0 d):∃ (p:Spec) (xp:AV) (mem w:Int),a=.agg (XR p xp mem w)/\Sl 5 xp (p.keys.map Ke.av)/\(∀ k∈p.keys,KeOk k)/\p.keys.length<=1048576:=by
 obtain⟨n,D,z,e0⟩:=h.agg Zzp;subst e0;obtain⟨E,parts,m,rfl,rfl,j,u,g⟩:=z.fields ZsJ;obtain⟨a,b,rfl⟩:=ZhM j;obtain⟨a',b',rfl⟩:=ZhM u;obtain⟨p,xp,rfl,A,B,C⟩:=Zx5 (g 0 24 a a' rfl rfl rfl) (ZjL y (i:=0) rfl);obtain⟨m,w,rfl⟩:=Zx2 (g 1 26 b b' rfl rfl rfl);exact⟨p,xp,m,w,by simp[XR],A,B,C⟩
end
end Go.Am
