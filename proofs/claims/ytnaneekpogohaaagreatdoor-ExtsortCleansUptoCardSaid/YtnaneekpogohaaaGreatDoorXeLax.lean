/- The helpers of chapter 24's laws -/
import Derived.Test.YtnaneekpogohaaaGreatDoorXeCox
import Derived.Test.YtnaneekpogohaaaGreatDoorXeAwx
import Derived.Test.YtnaneekpogohaaaGreatDoorXeGLx
import Derived.Test.YtnaneekpogohaaaGreatDoorXeYzx
open List renaming mapM_cons->zA
namespace Go.Am
set_option linter.unusedSectionVars false
set_option maxRecDepth 100000
def ZvH (l:List Zl):Prop:=l.length<=40/\∀ s∈l,s.length<=200
theorem Zpo {x:AV}{l:List Zl}(L:SS x l)(V:l.length<=1048576)(T:Wo l)(M H:Hp):∀ (r d:List Zl),l=d++r->(∀ s∈d,s.length<=200)->∃ b,MQ x (.int .i64 (d.length:Int)) M H=some (.bool b,H)/\(b=true->ZvH l):=by
 have A:=SS.len L 9;intro r
 induction r with
 |nil =>
  intro d z E;rw[List.append_nil]at z;subst z;have g:decide ((l.length:Int)<(l.length:Int))=false:=by simp
  refine⟨decide ((l.length:Int)<=40),?_,fun C=>⟨by rw[decide_eq_true_eq]at C;omega,E⟩⟩;rw[DU];simp only[go_sem,A,g,Za4]
 |cons s r S =>
  intro d z E;have K:l.length=d.length+(r.length+1):=by rw[z];simp
  have g:decide ((d.length:Int)<(l.length:Int))=true:=by rw[decide_eq_true_eq];omega
  have D:l[d.length]?=some s:=by rw[z,List.getElem?_append_right (Nat.le_refl _)];simp
  have u:=SS.idx L D;have F:IntKind.i64.wrap ((d.length:Int)+1)=((d++[s]).length:Int):=by rw[Zr (by omega) (by omega)];simp
  by_cases Q:d.length<41
  ·have j:decide ((d.length:Int)<41)=true:=by rw[decide_eq_true_eq];omega
   by_cases U:200<s.length
   ·have B:decide ((200:Int)<(s.length:Int))=true:=by rw[decide_eq_true_eq];omega
    refine⟨false,?_,fun h=>by cases h⟩;rw[DU];simp only[go_sem,A,g,j,Za5,u,Zz,B]
   ·have B:decide ((200:Int)<(s.length:Int))=false:=by rw[decide_eq_false_iff_not];omega
    obtain⟨b,N,O⟩:=S (d++[s]) (by rw[z];simp) (fun y R=>by
     rcases List.mem_append.1 R with h|h
     ·exact E y h
     ·rw[List.mem_singleton.1 h];omega)
    refine⟨b,?_,O⟩;rw[DU];simp only[go_sem,A,g,j,Za5,u,Zz,B,ZjU,F];exact N
  ·have j:decide ((d.length:Int)<41)=false:=by rw[decide_eq_false_iff_not];omega
   refine⟨decide ((l.length:Int)<=40),?_,fun C=>by rw[decide_eq_true_eq]at C;omega⟩;rw[DU];simp only[go_sem,A,g,j,Za4]
theorem Zpn {x:AV}{l:List Zl}(z:SS x l)(u:l.length<=1048576)(j:Wo l)(H:Hp):∃ b,Zf Zbl [x] H=some (.bool b,H)/\(b=true->ZvH l):=by
 obtain⟨C,g,h⟩:=SS.closed z [] 0 7;obtain⟨b,A,B⟩:=Zpo h u j [] [] l [] rfl (fun s y=>by cases y);refine⟨b,Ws (args':=[C]) (H1:=[]) (by rw[zA,g];rfl) ?_ rfl,B⟩;rw[Zkv];unfold ZiW;exact A
def XR (p:Spec)(xp:AV)(mem w:Int):List AV:=p.cells xp++[.int .i64 mem,.int .i64 w]
theorem Zsy {p:Spec}{xp:AV}{mem w:Int}(z:Sl 5 xp (p.keys.map Ke.av)):∃ g,Zd [] 0 9 (.agg (XR p xp mem w))=some (.agg (XR p g mem w))/\Sl 5 g (p.keys.map Ke.av):=by
 obtain⟨h,j,u⟩:=z.close (H:=[]) (n:=0) (f:=7) (fun c y=>by
  obtain⟨k,_,rfl⟩:=List.mem_map.1 y;exact k.close [] 0 5)
 refine⟨h,?_,u⟩
 have:(XR p xp mem w).mapM (Zd [] 0 8)=some (XR p h mem w):=by
  simp only[XR,Spec.cells,List.cons_append,List.nil_append,zA,j,List.mapM_nil];rfl
 rw[Kr,this]
theorem Zmi {p:Spec}{xp:AV}{mem w:Int}(A:Sl 5 xp (p.keys.map Ke.av))(H:Hp):Zf Ha [.agg (XR p xp mem w)] H=some (.bool (decide ((p.keys.length:Int)<=10)),H):=by
 obtain⟨g,j,u⟩:=Zsy (mem:=mem) (w:=w) A;refine Ws (args':=[.agg (XR p g mem w)]) (H1:=[.cells (XR p g mem w)]) (by rw[zA,j];rfl) ?_ rfl;have y:ZN (.agg (XR p g mem w)) []=some (.ptr 0 0,[.cells (XR p g mem w)]):=rfl;have z:Z3 false 1 (.ptr 0 0) [.cells (XR p g mem w)]=some g:=rfl;have h:=Sl.len u 119;rw[List.length_map]at h;rw[Zi1];unfold Zen;simp only[y,go_sem,z,h,Ka]
section
variable {p:Spec}{xp:AV}{mem w:Int}
theorem Zv4 (H:Hp):ZN (.agg (XR p xp mem w)) H=some (.ptr H.length 0,H++[.cells (XR p xp mem w)]):=Yu _ _
theorem ZwO (H:Hp):Z3 true 7 (.ptr H.length 0) (H++[.cells (XR p xp mem w)])=some (.agg (XR p xp mem w)):=by rw[YA (ZcU H _ [])];rfl
theorem ZfQ {H:Hp}{n:Nat}(h:H[n]?=some (.cells (XR p xp mem w))):Z3 true 5 (.ptr n 0) H=some (.agg (p.cells xp)):=by rw[YA h];rfl
theorem ZlT {H:Hp}{n:Nat}(h:H[n]?=some (.cells (XR p xp mem w))):Z3 true 2 (.ptr n 5) H=some (.agg [.int .i64 mem,.int .i64 w]):=by rw[YA h];rfl
end
theorem AJ (o:Nat):Z7 5 (.ptr o 0)=some (.ptr o 5):=rfl
theorem AD:BOk []:=⟨by simp,(fun f g=>by cases g),(fun f g=>by cases g),by simp,by simp[Zv],(fun f g=>by cases g)⟩
theorem ZvP:LocSm defL:=⟨by simp[defL],by simp[defL],by simp[defL]⟩
end Go.Am
namespace Go.Am
open Go.Proofs Go.Proofs.YtnaneekpogohaaaGreatDoor
set_option maxRecDepth 100000
section
variable {H:Type}
theorem Zvv {n:Nat}{d:DataW H}{j:List AV}(h:TV Tryz.prog n 24 d j)(D:Jq d):∃ (p:Spec) (xp:AV),j=p.cells xp/\Sl 5 xp (p.keys.map Ke.av)/\(∀ k∈p.keys,KeOk k)/\p.keys.length<=1048576:=by
 obtain⟨L,parts,m,rfl,rfl,B,C,g⟩:=h.fields ZrH;obtain⟨a,b,c,d,e,rfl⟩:=ZdD B;obtain⟨a',b',c',d',A,rfl⟩:=ZdD C;obtain⟨x,K,rfl,F,hk,E⟩:=ZwF (g 0 22 a a' rfl rfl rfl) (ZjI D (i:=0) rfl);obtain⟨y,_,rfl,_⟩:=(g 1 3 b b' rfl rfl rfl).int Kw;obtain⟨z,_,rfl,_⟩:=(g 2 3 c c' rfl rfl rfl).int Kw;obtain⟨u,_,rfl⟩:=(g 3 4 d d' rfl rfl rfl).bool Zoi;obtain⟨v,_,rfl⟩:=(g 4 4 e A rfl rfl rfl).bool Zoi;exact⟨⟨K,y,z,v,u⟩,x,rfl,F,hk,E⟩
theorem Zv5 {d:DataW H}{a:AV}(h:AT Tryz.prog 28 d a)(y:Jq d):∃ (p:Spec) (xp:AV) (mem w:Int),a=.agg (XR p xp mem w)/\Sl 5 xp (p.keys.map Ke.av)/\(∀ k∈p.keys,KeOk k)/\p.keys.length<=1048576:=by
 obtain⟨n,D,z,e0⟩:=h.agg Zxe;subst e0;obtain⟨E,parts,m,rfl,rfl,j,u,g⟩:=z.fields ZrJ;obtain⟨a,b,rfl⟩:=ZhP j;obtain⟨a',b',rfl⟩:=ZhP u;obtain⟨p,xp,rfl,A,B,C⟩:=Zvv (g 0 24 a a' rfl rfl rfl) (ZjI y (i:=0) rfl);obtain⟨m,w,rfl⟩:=Zvs (g 1 26 b b' rfl rfl rfl);exact⟨p,xp,m,w,by simp[XR],A,B,C⟩
end
end Go.Am
