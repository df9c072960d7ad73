/- The number of runs and passes of a sort -/
import Derived.Test.YtnaneekpogohaaaGreatDoorXeRfx
import Derived.Test.YtnaneekpogohaaaGreatDoorXeGXx
import Derived.Test.YtnaneekpogohaaaGreatDoorXeGRx
open Go.IntKind renaming i64->yR
open List renaming mem_singleton->zB,mem_cons->zD,mem_append->zE,length_append->zG,flatten_cons->zH,map_cons->zJ,not_mem_nil->zK,append_nil->zL,flatten_append->zM,mapM_cons->zN,getElem?_append_right->zO,length_cons->zP,getElem?_cons_zero->zQ,getElem?_cons_succ->zR,length_map->zS,length_nil->zT,take_of_length_le->zU,nodup_cons->zV,mem_append_right->zW,mem_map->zY,mem_flatten->yB,map_append->yD,nodup_nil->yG,map_take->yJ,map_drop->yK,any_nil->yL,map_nil->yM,set->yN
open Nat renaming zero_add->zF,le_refl->yO,add_mul->yP,one_mul->yQ
open Bool renaming false_eq_true->zC,not_true->zI,not_false->zX,and_false->yE,false_and->yF,and_true->yH,true_and->yI
open Int renaming le_refl->yA,ediv_nonneg->yC
open Go.Am.AObj renaming cells->zA
open Go.Am.AV renaming int->zZ
namespace Go.Am
set_option linter.unusedSectionVars false
set_option maxRecDepth 100000
def KP (mem:Int)(i:Nat)(p:Int×Int)(v:Int):Int×Int:=if i=0\/mem<p.2+(v+16) then (p.1+1,v+16) else (p.1,p.2+(v+16))
def Wg (mem:Int):Nat->Int×Int->List Int->Int×Int
 |_,p,[]=>p
 |i,p,v::r=>Wg mem (i+1) (KP mem i p v) r
def QH (w:Int):Nat->Int->Int->Int
 |0,_,a=>a
 |f+1,k,a=>if w<k then QH w f ((k+w-1) / w) (a+1) else a
def OB (v:Int):Prop:=0<=v/\v<=4096
theorem Znf (mem:Int):∀ (r:List Int) (i:Nat) (p:Int×Int),0<=p.1->(Wg mem i p r).1<=p.1+r.length/\p.1<=(Wg mem i p r).1:=by
 intro r
 induction r with
 |nil=>intro i p _;simp[Wg]
 |cons v r j =>
  intro i p y
  have u:(KP mem i p v).1<=p.1+1/\p.1<=(KP mem i p v).1:=by
   unfold KP;split <;> constructor <;> dsimp only <;> omega
  have:=j (i+1) (KP mem i p v) (by omega);simp only[Wg,zP];omega
theorem ZtK {w k:Int}(hw:2<=w)(j:w<k):(k+w-1) / w<k/\0<=(k+w-1) / w:=by
 refine⟨?_,yC (by omega) (by omega)⟩;refine Int.ediv_lt_of_lt_mul (by omega) ?_;have:k*w ≥ k*2:=Int.mul_le_mul_of_nonneg_left hw (by omega);omega
theorem ZAJ {a b:Int}(j:0<=a)(u:0<b)(hm:a<=9223372036854775807):Z5 .quo (.int .i64 a) (.int .i64 b)=some (.int .i64 (a / b)):=by
 unfold Z5 XG;simp only[if_true,Xz];rw[if_neg (by omega),Int.tdiv_eq_ediv_of_nonneg j];have y:=yC j (Int.le_of_lt u);have z:=Int.ediv_le_self b j;rw[Zo (by omega) (by omega)]
abbrev Hz (mem w:Int):Hp:=[.cells [.int .i64 mem,.int .i64 w]]
section
variable {mem w:Int}
theorem Me:Z3 false 1 (.ptr 0 0) (Hz mem w)=some (.int .i64 mem):=rfl
theorem GW:Z3 false 1 (.ptr 0 1) (Hz mem w)=some (.int .i64 w):=rfl
theorem hza:Z3 true 2 (.ptr 0 0) (Hz mem w)=some (.agg [.int .i64 mem,.int .i64 w]):=rfl
theorem ZgB:ZN (.agg [.int .i64 mem,.int .i64 w]) []=some (.ptr 0 0,Hz mem w):=rfl
end
theorem Ef (o:Nat):Z6 0 (.ptr o 0)=some (.ptr o 0):=rfl
theorem ZcJ (o:Nat):Z6 1 (.ptr o 0)=some (.ptr o 1):=rfl
def Q7 (mem w:Int):Bool:=decide (64<=mem)&&(decide (mem<=65536)&&(decide (2<=w)&&decide (w<=32)))
theorem Zvu (mem w:Int)(H:Hp)(n f:Nat):Zb H n (f+2) (.agg [.int .i64 mem,.int .i64 w])=some (.agg [.int .i64 mem,.int .i64 w]):=rfl
theorem Aj (mem w:Int)(H:Hp):Zf K5 [.agg [.int .i64 mem,.int .i64 w]] H=some (.bool (Q7 mem w),H):=by
 refine Vp (args':=[.agg [.int .i64 mem,.int .i64 w]]) (H1:=Hz mem w) rfl ?_ rfl;rw[Zbq];unfold SG;have j:=@Me mem w;have u:=@GW mem w;unfold Q7
 cases y:decide (64<=mem) <;> cases z:decide (mem<=65536) <;> cases A:decide (2<=w) <;> cases C:decide (w<=32) <;>
  simp only[ZgB,go_sem,Ef,ZcJ,j,u,y,z,A,C,yH,yE,yI,yF]
theorem ZmM (mem w:Int)(H:Hp):Zf Hk [.agg [.int .i64 mem,.int .i64 w]] H=some (.bool (Q7 mem w),H):=by
 refine Vp (args':=[.agg [.int .i64 mem,.int .i64 w]]) (H1:=Hz mem w) rfl ?_ rfl;rw[Zie];unfold Zes;have j:=@Me mem w;have u:=@GW mem w;unfold Q7
 cases y:decide (64<=mem) <;> cases z:decide (mem<=65536) <;> cases A:decide (2<=w) <;> cases C:decide (w<=32) <;>
  simp only[ZgB,go_sem,Ef,ZcJ,j,u,y,z,A,C,yH,yE,yI,yF]
section
variable {mem w:Int}(hm:64<=mem)(hm2:mem<=65536)(hw:2<=w)(hw2:w<=32)
include hw hw2
theorem Zsq (n:AV)(u:Hp):∀ (f:Nat) (k p:Int),0<=k->k<=f->k<=400->0<=p->p+f<=1000->Ka (.ptr 0 0) n (.int .i64 p) (.int .i64 k) u (Hz mem w)=some (.tuple [n,.int .i64 (QH w f k p)],Hz mem w):=by
 intro f
 induction f with
 |zero =>
  intro k p y z _ _ _;have j:decide (w<k)=false:=by simp;omega
  rw[PS];simp only[go_sem,ZcJ,GW,j,PR,QH]
 |succ f C =>
  intro k p y z I J A;rw[PS];by_cases j:w<k
  ·obtain⟨K,D⟩:=ZtK hw j;have E:yR.wrap (p+1)=p+1:=Zo (by omega) (by omega);have F:yR.wrap (k+w)=k+w:=Zo (by omega) (by omega);have H:yR.wrap (k+w-1)=k+w-1:=Zo (by omega) (by omega);have q:=ZAJ (a:=k+w-1) (b:=w) (by omega) (by omega) (by omega);simp only[go_sem,ZcJ,GW,decide_eq_true j,Zcs,Zct,E,F,H,q,QH,if_pos j];exact C _ _ D (by omega) (by omega) (by omega) (by omega)
  ·simp only[go_sem,ZcJ,GW,decide_eq_false j,PR,QH,if_neg j]
include hm hm2
theorem Zsp {l:List Int}{x:AV}(W:Sl 1 x (l.map (zZ .i64)))(hl:l.length<=400)(K:Hp):∀ (r d:List Int) (n s:Int),l=d++r->0<=n->n<=d.length->0<=s->s<=(d.length:Int)*4112 ->
 ((∀ v∈r,OB v)->UT (.ptr 0 0) (.int .i64 n) (.int .i64 0) (.int .i64 s) x (.int .i64 (l.length:Int)) (.int .i64 (d.length:Int)) K (Hz mem w) =
  Rs (.ptr 0 0) (.int .i64 (Wg mem d.length (n,s) r).1) (.int .i64 0) K (Hz mem w)) /\
 (¬ (∀ v∈r,OB v)->UT (.ptr 0 0) (.int .i64 n) (.int .i64 0) (.int .i64 s) x (.int .i64 (l.length:Int)) (.int .i64 (d.length:Int)) K (Hz mem w)=some (.tuple [.int .i64 0,.int .i64 0],Hz mem w)):=by
 intro r
 induction r with
 |nil =>
  intro d n s A _ _ _ _;have j:decide ((d.length:Int)<(l.length:Int))=false:=by rw[A];simp
  refine⟨fun _=>?_,fun h=>absurd (fun v V=>by cases V) h⟩;rw[PT];simp only[go_sem,j,Wg]
 |cons v r M =>
  intro d n s A X Y Z h4;have R:l.length=d.length+(r.length+1):=by rw[A];simp
  have j:decide ((d.length:Int)<(l.length:Int))=true:=by rw[decide_eq_true_eq];omega
  have U:(l.map (zZ .i64))[d.length]?=some (.int .i64 v):=by rw[A];simp
  have hi:Zp 1 x (.int .i64 (d.length:Int))=some (.vp [.int .i64 v]):=Sl.idx W (c:=.int .i64 v) U;have C:yR.wrap ((d.length:Int)+1)=((d++[v]).length:Int):=by rw[Zo (by omega) (by omega)];simp
  rw[PT];by_cases y:v<0
  ·refine⟨fun h=>absurd (h v (by simp)).1 (by omega),fun _=>?_⟩;simp only[go_sem,j,V8,hi,ZB,decide_eq_true y]
  by_cases z:4096<v
  ·refine⟨fun h=>absurd (h v (by simp)).2 (by omega),fun _=>?_⟩;simp only[go_sem,j,V8,hi,ZB,decide_eq_false y,decide_eq_true z]
  have D:(∀ u∈v::r,OB u)↔∀ u∈r,OB u:=by
   constructor
   ·exact fun h u H=>h u (by simp[H])
   ·intro h u H;rcases zD.1 H with rfl|H
    ·exact⟨by omega,by omega⟩
    ·exact h u H
  rw[D];have N:yR.wrap (v+16)=v+16:=Zo (by omega) (by omega);have S:yR.wrap (s+(v+16))=s+(v+16):=Zo (by omega) (by omega);have O:yR.wrap (n+1)=n+1:=Zo (by omega) (by omega);have Q:yR.wrap (0+(v+16))=v+16:=by rw[Zo (by omega) (by omega)];omega
  have T:((d++[v]).length:Int)=d.length+1:=by simp
  by_cases E:d.length=0
  ·have I:((d.length:Int)==0)=true:=by rw[beq_iff_eq];omega
   simp only[go_sem,j,V8,hi,ZB,decide_eq_false y,decide_eq_false z,KT,N,I,O,KU,Q,KS,C];have:=M (d++[v]) (n+1) (v+16) (by rw[A];simp) (by omega) (by omega) (by omega) (by omega);rw[show Wg mem d.length (n,s) (v::r)=Wg mem (d++[v]).length (n+1,v+16) r from by simp[Wg,KP,E]];exact this
  ·have I:((d.length:Int)==0)=false:=by rw[beq_eq_false_iff_ne];omega
   by_cases J:mem<s+(v+16)
   ·simp only[go_sem,j,V8,hi,ZB,decide_eq_false y,decide_eq_false z,KT,N,S,I,Ef,Me,decide_eq_true J,O,KU,Q,KS,C];have:=M (d++[v]) (n+1) (v+16) (by rw[A];simp) (by omega) (by omega) (by omega) (by omega);rw[show Wg mem d.length (n,s) (v::r)=Wg mem (d++[v]).length (n+1,v+16) r from by simp[Wg,KP,J]];exact this
   ·simp only[go_sem,j,V8,hi,ZB,decide_eq_false y,decide_eq_false z,KT,N,S,I,Ef,Me,decide_eq_false J,O,KU,Q,KS,C];have:=M (d++[v]) n (s+(v+16)) (by rw[A];simp) (by omega) (by omega) (by omega) (by omega)
    rw[show Wg mem d.length (n,s) (v::r)=Wg mem (d++[v]).length (n,s+(v+16)) r from by
     have F:d≠[]:=fun e=>E (by rw[e];rfl);simp[Wg,KP,J,F]]
    exact this
end
open Classical in
noncomputable def Pu (mem w:Int)(l:List Int):Int×Int :=
 if Q7 mem w=true/\∀ v∈l,OB v then ((Wg mem 0 (0,0) l).1,QH w 400 (Wg mem 0 (0,0) l).1 0) else (0,0)
theorem Znc (H:Hp)(n f:Nat){x:AV}{l:List Int}(h:Sl 1 x (l.map (zZ .i64))):∃ j,Zb H n (f+2) x=some j/\Sl 1 j (l.map (zZ .i64)) :=
 Sl.close h (f:=f+1) (fun y u=>by obtain⟨m,_,rfl⟩:=zY.1 u;rfl)
theorem ZeS {mem w:Int}(h:Q7 mem w=true):64<=mem/\mem<=65536/\2<=w/\w<=32:=by
 unfold Q7 at h;simp only[Bool.and_eq_true,decide_eq_true_eq]at h;exact h
theorem Zso {x:AV}{l:List Int}(C:Sl 1 x (l.map (zZ .i64)))(hl:l.length<=400)(mem w:Int)(H:Hp) :
 Zf Tx [x,.agg [.int .i64 mem,.int .i64 w]] H=some (.tuple [.int .i64 (Pu mem w l).1,.int .i64 (Pu mem w l).2],H):=by
 obtain⟨J,A,y⟩:=Znc [] 0 7 C;refine Vp (args':=[J,.agg [.int .i64 mem,.int .i64 w]]) (H1:=Hz mem w) (by rw[zN,A];rfl) ?_ rfl;rw[ZdN];unfold Ao;have u:=Sl.len y 3;rw[zS]at u
 cases j:Q7 mem w with
 |false =>
  have:Pu mem w l=(0,0):=by unfold Pu;rw[if_neg (by rw[j];simp)]
  simp only[ZgB,go_sem,hza,Aj,j,this,zX]
 |true =>
  obtain⟨F,I,v3,v4⟩:=ZeS j;have z:=Znf mem l 0 (0,0) (yA 0);simp only[Int.zero_add]at z;obtain⟨D,E⟩:=Zsp F I v3 v4 y hl [] l [] 0 0 rfl (by omega) (by simp) (by omega) (by simp);simp only[ZgB,go_sem,hza,Aj,j,zI,Zcq,u];by_cases hok:∀ v∈l,OB v
  ·have:Pu mem w l=((Wg mem 0 (0,0) l).1,QH w 400 (Wg mem 0 (0,0) l).1 0):=by unfold Pu;rw[if_pos ⟨j,hok⟩]
   rw[this];refine (D hok).trans ?_;rw[Zcr];exact Zsq v3 v4 _ _ 400 _ _ z.2 (by simp only[zT];omega) (by simp only[zT];omega) (by omega) (by omega)
  ·have:Pu mem w l=(0,0):=by unfold Pu;rw[if_neg (fun h=>hok h.2)]
   rw[this];exact E hok
end Go.Am
namespace Go.Am
set_option linter.unusedSectionVars false
set_option maxRecDepth 100000
def Ji (l:List Zi):Bool:=l.any fun s=>decide (4096<s.length)
def IQ (p:Spec)(mem w:Int)(l:List Zi):Int :=
 if (ZL p != 0)=true then ZL p else if Q7 mem w=true then (if 8192<l.length then 3 else if Ji l=true then 3 else 0) else 2
theorem Zvs {x:AV}{l:List Zi}(K:SS x l)(N:Wc l)(hl:l.length<=1048576)(J H:Hp):∀ (r d:List Zi),l=d++r ->
 Jb x (.int .i64 (l.length:Int)) (.int .i64 (d.length:Int)) J H=some (.int .i64 (if Ji r=true then 3 else 0),H):=by
 intro r
 induction r with
 |nil =>
  intro d y;rw[zL]at y;subst y;have j:decide ((l.length:Int)<(l.length:Int))=false:=by simp
  rw[Tg];simp only[go_sem,j,ZaI,Ji,yL,zC,if_false]
 |cons s r M =>
  intro d y;have I:l.length=d.length+(r.length+1):=by rw[y];simp
  have j:decide ((d.length:Int)<(l.length:Int))=true:=by rw[decide_eq_true_eq];omega
  have C:l[d.length]?=some s:=by rw[y,zO (yO _)];simp
  have u:=SS.idx K C;have D:yR.wrap ((d.length:Int)+1)=((d++[s]).length:Int):=by rw[Zo (by omega) (by omega)];simp
  have E:=M (d++[s]) (by rw[y];simp);rw[Tg];by_cases F:4096<s.length
  ·have z:decide ((4096:Int)<(s.length:Int))=true:=by rw[decide_eq_true_eq];omega
   have A:Ji (s::r)=true:=by simp[Ji,F]
   simp only[go_sem,j,Tf,u,ZB,z,A,if_true]
  ·have z:decide ((4096:Int)<(s.length:Int))=false:=by rw[decide_eq_false_iff_not];omega
   have A:Ji (s::r)=Ji r:=by simp[Ji,F]
   simp only[go_sem,j,Tf,u,ZB,z,ZaJ,D,A];exact E
theorem Zs9 {x q:AV}{l:List Zi}{p:Spec}(Q:SS x l)(T:Wc l)(hl:l.length<=1048576)(O:SpecAV q p)(mem w:Int)(t:Nat)(H:Hp) :
 ∃ H',FL [.ptr t 0,q,.agg [.int .i64 mem,.int .i64 w],x] H=some (.int .i64 (IQ p mem w l),H')/\Stp [] H H':=by
 have I:=O;obtain⟨xp,rfl,U⟩:=O;have j:Yy (.pointer 82) .eql (.ptr t 0) .nilp=some (.bool false):=rfl;have R:(H++[zA (p.cells xp),.cells [.int .i64 mem,.int .i64 w]])[H.length]?=some (.cells (p.cells xp)):=by simp
 have S:(H++[zA (p.cells xp),.cells [.int .i64 mem,.int .i64 w]])[H.length+1]?=some (.cells [.int .i64 mem,.int .i64 w]):=by simp
 have A:ZN (.agg [.int .i64 mem,.int .i64 w]) (H++[zA (p.cells xp)])=some (.ptr (H.length+1) 0,H++[zA (p.cells xp),.cells [.int .i64 mem,.int .i64 w]]):=by rw[YD];simp
 have M:Stp [] H (H++[zA (p.cells xp),.cells [.int .i64 mem,.int .i64 w]]):=Stp.push _ _;have z:=Gd R;have C:Z3 true 2 (.ptr (H.length+1) 0) (H++[zA (p.cells xp),.cells [.int .i64 mem,.int .i64 w]])=some (.agg [.int .i64 mem,.int .i64 w]):=by rw[YZ S];rfl
 generalize H++[zA (p.cells xp),.cells [.int .i64 mem,.int .i64 w]]=H1 at A z C M;refine⟨H1,?_,M⟩;have N:=SS.len Q 9;rw[Zbp];unfold SF IQ;have u:=MK I H1
 cases D:ZL p != 0 with
 |true=>simp only[YD,go_sem,A,j,Un,z,u,D,if_true]
 |false =>
  have K:=Aj mem w H1
  cases J:Q7 mem w with
  |false=>simp only[YD,go_sem,A,j,Un,z,u,D,K1,C,K,J,zX,zC,if_false]
  |true =>
   by_cases y:8192<l.length
   ·have E:decide ((8192:Int)<(l.length:Int))=true:=by rw[decide_eq_true_eq];omega
    simp only[YD,go_sem,A,j,Un,z,u,D,K1,C,K,J,zI,zC,if_false,Te,N,E,if_true,if_pos y]
   ·have E:decide ((8192:Int)<(l.length:Int))=false:=by rw[decide_eq_false_iff_not];omega
    have F:=Zvs Q T hl H H1 l [] rfl;simp only[YD,go_sem,A,j,Un,z,u,D,K1,C,K,J,zI,zC,if_false,Te,N,E,if_true,if_neg y,ZaH];exact F
theorem ZtT {x:AV}{l:List Zi}(K:SS x l)(O:Wc l)(hl:l.length<=1048576)(M H:Hp):∀ (r d:List Zi),l=d++r ->
 Rc x (.int .i64 (d.length:Int)) M H=some (.int .i64 (if Ji r=true then 3 else 0),H):=by
 have D:=SS.len K 9;intro r
 induction r with
 |nil =>
  intro d y;rw[zL]at y;subst y;have j:decide ((l.length:Int)<(l.length:Int))=false:=by simp
  rw[SY];simp only[go_sem,D,j,Zgw,Ji,yL,zC,if_false]
 |cons s r N =>
  intro d y;have J:l.length=d.length+(r.length+1):=by rw[y];simp
  have j:decide ((d.length:Int)<(l.length:Int))=true:=by rw[decide_eq_true_eq];omega
  have C:l[d.length]?=some s:=by rw[y,zO (yO _)];simp
  have u:=SS.idx K C;have E:yR.wrap ((d.length:Int)+1)=((d++[s]).length:Int):=by rw[Zo (by omega) (by omega)];simp
  have F:=N (d++[s]) (by rw[y];simp);rw[SY];by_cases I:4096<s.length
  ·have z:decide ((4096:Int)<(s.length:Int))=true:=by rw[decide_eq_true_eq];omega
   have A:Ji (s::r)=true:=by simp[Ji,I]
   simp only[go_sem,D,j,SX,u,ZB,z,A,if_true]
  ·have z:decide ((4096:Int)<(s.length:Int))=false:=by rw[decide_eq_false_iff_not];omega
   have A:Ji (s::r)=Ji r:=by simp[Ji,I]
   simp only[go_sem,D,j,SX,u,ZB,z,Zgx,E,A];exact F
theorem ZtS {x q:AV}{l:List Zi}{p:Spec}(U:SS x l)(S:Wc l)(hl:l.length<=1048576)(T:SpecAV q p)(mem w:Int)(H:Hp) :
 Zf Hi [q,.agg [.int .i64 mem,.int .i64 w],x] H=some (.int .i64 (IQ p mem w l),H):=by
 obtain⟨Z,W,O⟩:=T.close [] 0 5;obtain⟨X,R,M⟩:=SS.closed U [] 0 7;have K:=O;obtain⟨xp,rfl,V⟩:=O;have Q:([zA (p.cells xp),.cells [.int .i64 mem,.int .i64 w]]:Hp)[0]?=some (.cells (p.cells xp)):=rfl;have Y:([zA (p.cells xp),.cells [.int .i64 mem,.int .i64 w]]:Hp)[1]?=some (.cells [.int .i64 mem,.int .i64 w]):=rfl;have C:ZN (.agg (p.cells xp)) []=some (.ptr 0 0,[zA (p.cells xp)]):=rfl;have z:ZN (.agg [.int .i64 mem,.int .i64 w]) [zA (p.cells xp)]=some (.ptr 1 0,[zA (p.cells xp),.cells [.int .i64 mem,.int .i64 w]]):=rfl;have y:=Gd Q;have A:Z3 true 2 (.ptr 1 0) [zA (p.cells xp),.cells [.int .i64 mem,.int .i64 w]]=some (.agg [.int .i64 mem,.int .i64 w]):=rfl;generalize ([zA (p.cells xp),.cells [.int .i64 mem,.int .i64 w]]:Hp)=H1 at z y A;refine Vp (args':=[.agg (p.cells xp),.agg [.int .i64 mem,.int .i64 w],X]) (H1:=H1) (by rw[zN,W,zN,Zvu,zN,R];rfl) ?_ rfl;have N:=SS.len M 9;rw[Zid];unfold Zer IQ;have j:=ZnR K H1
 cases D:ZL p != 0 with
 |true=>simp only[C,go_sem,z,y,j,D,if_true]
 |false =>
  have J:=ZmM mem w H1
  cases I:Q7 mem w with
  |false=>simp only[C,go_sem,z,y,j,D,Ra,A,J,I,zX,zC,if_false]
  |true =>
   by_cases u:8192<l.length
   ·have E:decide ((8192:Int)<(l.length:Int))=true:=by rw[decide_eq_true_eq];omega
    simp only[C,go_sem,z,y,j,D,Ra,A,J,I,zI,zC,if_false,SW,N,E,if_true,if_pos u]
   ·have E:decide ((8192:Int)<(l.length:Int))=false:=by rw[decide_eq_false_iff_not];omega
    have F:=ZtT M S hl [] H1 l [] rfl;simp only[C,go_sem,z,y,j,D,Ra,A,J,I,zI,zC,if_false,SW,N,E,if_true,if_neg u,Zgv];exact F
theorem Zoa {p:Spec}{mem w:Int}{l:List Zi}(h:IQ p mem w l=0):ZL p=0/\(64<=mem/\mem<=65536/\2<=w/\w<=32):=by
 unfold IQ at h
 cases j:ZL p != 0 with
 |true =>
  rw[if_pos j]at h;simp[h]at j
 |false =>
  rw[if_neg (by rw[j];simp)]at h
  cases u:Q7 mem w with
  |false=>rw[u]at h;simp at h
  |true=>exact⟨by simpa using j,ZeS u⟩
def NR (L:Loc)(p:Spec)(w:Nat)(a:PSt):PSt:=Yz L p w a.O (YN w a.O.length) ⟨[],a.P,a.k,a.st⟩
def K3 (L:Loc)(p:Spec)(w:Nat):Nat->PSt->PSt
 |0,a=>a
 |f+1,a=>if w<a.O.length then K3 L p w f (NR L p w a) else a
def Zil (L:Loc)(p:Spec)(O:List Pr)(l:List Zi):Prop:=∃ j:List (List Zi),O.map (·.2)=j.map (ZT L p)/\j.flatten=l
theorem ZzK (L:Loc)(p:Spec)(k:Nat)(G:List Pr)(Q:List (List Zi))(h:G.map (·.2)=Q.map (ZT L p))(u:G≠[]):(gN L p k G).2=ZT L p Q.flatten:=by
 have j:Wo L p (G.map (·.2))=ZT L p Q.flatten:=by rw[h];exact Zdc Q
 cases G with
 |nil=>exact absurd rfl u
 |cons x r =>
  cases r with
  |nil =>
   cases Q with
   |nil=>simp at h
   |cons c r =>
    cases r with
    |nil =>
     have:x.2=ZT L p c:=by simpa using h
     show x.2=_;rw[this];simp
    |cons d r=>simp at h
  |cons y r=>exact j
theorem ZqX {L:Loc}{p:Spec}{w:Nat}(hw:2<=w){R:List Pr}{u:List (List Zi)}(D:R.map (·.2)=u.map (ZT L p))(P0:List Pr)(k0:Nat)(j:Stt):∀ q,(∀ i<q,i*w<R.length) ->
 ∃ y:List (List Zi),(Yz L p w R q ⟨[],P0,k0,j⟩).O.map (·.2)=y.map (ZT L p)/\y.flatten=(u.take (q*w)).flatten:=by
 intro q
 induction q with
 |zero=>intro _;exact⟨[],rfl,by simp⟩
 |succ q F =>
  intro h;obtain⟨y,z,A⟩:=F fun i hi=>h i (by omega)
  have C:(YP w R q).map (·.2)=((u.drop (q*w)).take w).map (ZT L p):=by
   unfold YP;rw[yJ,yK,D,<-yK,<-yJ]
  have E:=ZzK L p (Yz L p w R q ⟨[],P0,k0,j⟩).k _ _ C (ZiI hw (h q (by omega)));refine⟨y++[((u.drop (q*w)).take w).flatten],?_,?_⟩
  ·show ((Yz L p w R q ⟨[],P0,k0,j⟩).O++[gN L p (Yz L p w R q ⟨[],P0,k0,j⟩).k (YP w R q)]).map (fun x:Pr=>x.2)=_;rw[yD,z,yD];simp only[zJ,yM,E]
  ·rw[zM,A,yP,yQ,List.take_add,zM];simp
theorem ZqW {L:Loc}{p:Spec}{w:Nat}(hw:2<=w){a:PSt}{l:List Zi}(h:Zil L p a.O l):Zil L p (NR L p w a).O l:=by
 obtain⟨u,j,z⟩:=h
 have hl:u.length=a.O.length:=by
  have:=congrArg List.length j;simpa using this.symm
 obtain⟨y,A,C⟩:=ZqX (L:=L) (p:=p) hw j a.P a.k a.st (YN w a.O.length) fun i hi=>Zcc (by omega) hi;refine⟨y,A,?_⟩;rw[C,zU (by rw[hl];exact Zfh (by omega)),z]
structure SInv (L:Loc)(p:Spec)(r0 y0:Int)(l:List Zi)(a:PSt):Prop where
 perm:a.P.Perm a.O
 len:a.O.length<=40
 kle:a.k+2*a.O.length<=120
 short:ShortP a.O
 lines:Y2 a.O<=40
 m:0<=a.st.m/\a.st.m+2*a.O.length<=120
 ry:a.st.r=r0/\a.st.y=y0
 parts:Zil L p a.O l
theorem Zl6 {w n:Nat}(hw:2<=w)(z:w<n):3*YN w n<=2*n:=by
 have j:YN w n*w<=n+w-1:=Nat.div_mul_le_self (n+w-1) w
 cases u:YN w n with
 |zero=>omega
 |succ d =>
  rw[u,yP,yQ]at j;have y:d*2<=d*w:=Nat.mul_le_mul_left _ hw;omega
theorem PInv.sinv {L:Loc}{p:Spec}{w:Nat}(hw:2<=w){z A:Int}{l:List Zi}{a:PSt}(h:SInv L p z A l a)(D:w<a.O.length)(u:PInv w a.O a.k a.st (YN w a.O.length) (NR L p w a)):SInv L p z A l (NR L p w a):=by
 have H:=Zl6 hw D;have j:=Zfh (w:=w) (i:=a.O.length) (by omega);have I:=u.kle;have hm:=u.m;have E:=h.kle;have F:=h.m;have y:(NR L p w a).O.length=YN w a.O.length:=u.len;have C:=h.len;refine⟨?_,by rw[y];omega,by rw[y];omega,u.short,?_,⟨by omega,by rw[y];omega⟩,⟨u.ry.1.trans h.ry.1,u.ry.2.trans h.ry.2⟩,ZqW hw h.parts⟩
 ·have:=u.perm
  rwa [List.drop_of_length_le j,zL]at this
 ·have:=u.lines;rw[zU j]at this;have:=h.lines;omega
theorem Zl0 (mem:Int)(l:List Zi):(UO (ZZ cS mem l)).flatten=l/\∀ c∈UO (ZZ cS mem l),c≠[]:=by
 have h:=ZgN cS mem l;unfold UO;split
 ·rename_i u;have:=h.flat;rw[u,zL]at this;exact⟨this,h.ne⟩
 ·rename_i u;refine⟨by rw[zM];simpa using h.flat,fun c y=>?_⟩;rcases zE.1 y with j|j
  ·exact h.ne c j
  ·rw[zB.1 j];exact u
theorem Zjo {j:List (List Zi)}(h:∀ c∈j,c≠[]):j.length<=j.flatten.length:=by
 induction j with
 |nil=>simp
 |cons c j y =>
  have z:=y fun d u=>h d (by simp[u]);have A:0<c.length:=List.length_pos_iff.2 (h c (by simp));rw[zH,zG,zP];omega
def Vm (L:Loc)(p:Spec)(j:List (List Zi)):PSt:=⟨wP L p [] 0 j,wP L p [] 0 j,j.length,wT L p [] 0 ⟨0,0,0,0⟩ j⟩
theorem ZxW (L:Loc)(p:Spec):∀ (r:List (List Zi)) (P:List Pr) (k:Nat) (st:Stt),(wT L p P k st r).r=st.r+r.length/\(wT L p P k st r).m=st.m:=by
 intro r
 induction r with
 |nil=>intro P k st;simp[wT]
 |cons c r z =>
  intro P k st;obtain⟨j,u⟩:=z (P++[Fc L p k c]) (k+1) ⟨st.r+1,st.m,max st.y (Xs cS c),max st.k (ZM (P++[Fc L p k c]):Int)⟩;simp only[wT,j,u,zP];refine⟨by omega,trivial⟩
theorem Zqx:∀ (P:List Pr),Y2 P=(P.map (·.2)).flatten.length:=by
 intro P
 induction P with
 |nil=>rfl
 |cons x P j=>rw[zJ,zH,zG,<-j];rfl
theorem Zkn (L:Loc)(p:Spec):∀ j:List (List Zi),(j.map (ZT L p)).flatten.length<=j.flatten.length:=by
 intro j
 induction j with
 |nil=>simp
 |cons c j u =>
  have:=ZjS L p c;rw[zJ,zH,zG,zH,zG];omega
theorem Zuc {L:Loc}{p:Spec}{j:List (List Zi)}{l:List Zi}(C:j.flatten=l)(F:∀ c∈j,c≠[])(hl:l.length<=40)(hs:∀ s∈l,s.length<=200) :
 SInv L p (j.length:Int) (wT L p [] 0 ⟨0,0,0,0⟩ j).y l (Vm L p j):=by
 have D:=Zjo F;rw[C]at D;have u:=ZAu L p j [] 0;simp only[yM,List.nil_append]at u;have E:=ZuF L p j [] 0;simp only[zT,zF]at E;obtain⟨J,K⟩:=ZxW L p j [] 0 ⟨0,0,0,0⟩;refine⟨List.Perm.refl _,?_,?_,?_,?_,?_,⟨by show (wT L p [] 0 ⟨0,0,0,0⟩ j).r=_;rw[J];simp,rfl⟩,j,u,C⟩
 ·show (wP L p [] 0 j).length<=40;omega
 ·show j.length+2*(wP L p [] 0 j).length<=120;omega
 ·intro x I s z;have A:x.2∈(wP L p [] 0 j).map (·.2):=List.mem_map_of_mem I;rw[u]at A;obtain⟨c,H,e⟩:=zY.1 A;rw[<-e]at z;exact hs s (by rw[<-C];exact yB.2 ⟨c,H,Zdk L p c s z⟩)
 ·show Y2 (wP L p [] 0 j)<=40;rw[Zqx,u];have:=Zkn L p j;rw[C]at this;omega
 ·show 0<=(wT L p [] 0 ⟨0,0,0,0⟩ j).m/\(wT L p [] 0 ⟨0,0,0,0⟩ j).m+2*((wP L p [] 0 j).length:Int)<=120;rw[K];exact⟨yA _,by show (0:Int)+_<=_;omega⟩
theorem ZAc {B:List Fil}:∀ (P:List Pr),(P.map (·.1)).Nodup->(∀ x∈P,x.1∉B.map Fil.name)->(P.map (·.1)).foldl Va (B++Ys P)=B:=by
 intro P
 induction P with
 |nil=>intro _ _;simp[Ys]
 |cons x P z =>
  intro j hB;rw[zJ,List.foldl_cons,ZhK (hB x (by simp)),Zmh j,ZgT j];rw[zJ,zV]at j;exact z j.2 fun y u=>hB y (by simp[u])
theorem ZfS {H:Hp}{i:Nat}{x:AObj}(h:H[i]?=some x):H.set i x=H:=by
 apply List.ext_getElem?;intro j;by_cases u:i=j
 ·subst u;rw[Zt _ h,h]
 ·rw[List.getElem?_set_ne u]
theorem ZuT (a b c:AV)(H:Hp):Yn cfg (Z9 cfg) (.fn (.func 44) [] [a,b,c]) [] H=Ll [a,b,c] H:=by kernel_rfl
structure FxAt (H:Hp)(zc sc ec mc cc o:Nat)(mem w:Int)(b:Bool):Prop where
 z:H[zc]?=some (.cells [.int .i64 mem,.int .i64 w])
 s:H[sc]?=some (.cells [.int .i64 0,.int .i64 0,.int .i64 0,.int .i64 0])
 e:H[ec]?=some (.cells [.int .i64 0])
 m:H[mc]?=some (.cells [.ptr o 0])
 c:H[cc]?=some (.cells [.bool b])
theorem FxAt.stp {H H':Hp}{D sc y A u o:Nat}{mem w:Int}{b:Bool}{C:List Nat}(h:FxAt H D sc y A u o mem w b)(hs:Stp C H H')(j:∀ a∈[D,sc,y,A,u],a∉C):FxAt H' D sc y A u o mem w b :=
 ⟨hs.get h.z (j _ (by simp)),hs.get h.s (j _ (by simp)),hs.get h.e (j _ (by simp)),hs.get h.m (j _ (by simp)),hs.get h.c (j _ (by simp))⟩
theorem FxAt.lt {H:Hp}{C sc u A j o:Nat}{mem w:Int}{b:Bool}(h:FxAt H C sc u A j o mem w b):∀ a∈[C,sc,u,A,j],a<H.length:=by
 intro a y;simp only[zD,zK,or_false]at y;rcases y with rfl|rfl|rfl|rfl|rfl
 ·exact Zg h.z
 ·exact Zg h.s
 ·exact Zg h.e
 ·exact Zg h.m
 ·exact Zg h.c
theorem FxAt.e0 {H:Hp}{z sc j y u o:Nat}{mem w:Int}{b:Bool}(h:FxAt H z sc j y u o mem w b):Ze 1 (.ptr j 0) (.int .i64 0) H=some (.tuple [],H):=by
 have:=Q5 h.e 0 (v:=.int .i64 0) rfl rfl (by simp);rw[this];congr 2;exact ZfS h.e
section
variable {o g t:Nat}{L:Loc}{lx cl e:AV}{p:Spec}{xp:AV}{B:List Fil}(hB:BOk B)(hl:LocAV (.agg (L.cells lx cl e)) L)(hok:LocOk L)(hsm:LocSm L)(hs:SpecAV (.agg (p.cells xp)) p)(hks:∀ k∈p.keys,KeOk k)(hkl:p.keys.length<=1048576)
include hB hl hok hsm hs hks hkl
theorem ZnQ {w:Nat}(hw:2<=w)(hw2:w<=32){U sc K T J:Nat}{mem:Int}{b:Bool}{r0 y0:Int}{l:List Zi}(X:AV)(H0:Hp):∀ (f:Nat) (a:PSt) (tm:Tmp) (s:Sto) (A S:List Nat) (H:Hp),a.O.length<=f->SInv L p r0 y0 l a ->
 XS B tm s a.P a.k->SysAt H o t tm s A->SrAt H g o A L lx cl e p xp a.O a.st S->FxAt H U sc K T J o mem (w:Int) b->(∀ x∈[U,sc,K,T,J],x∉S/\x∉A) ->
 ∃ H' A' V I s',Kc (.ptr U 0) (.ptr sc 0) (.ptr K 0) (.ptr T 0) (.ptr J 0) (.ptr g 0) X H0 H=Kb (.ptr sc 0) (.ptr K 0) (.ptr T 0) (.ptr J 0) (.ptr g 0) X H0 H' /\
  SInv L p r0 y0 l (K3 L p w f a)/\XS B I s' (K3 L p w f a).P (K3 L p w f a).k/\SysAt H' o t I s' A'/\SrAt H' g o A' L lx cl e p xp (K3 L p w f a).O (K3 L p w f a).st V/\FxAt H' U sc K T J o mem (w:Int) b /\
  (∀ x∈[U,sc,K,T,J],x∉V/\x∉A')/\Stp (S++A) H H'/\(∀ x∈A',x∈A\/H.length<=x)/\(∀ x∈V,x∈S\/H.length<=x):=by
 intro f
 induction f with
 |zero =>
  intro a tm s A S H hf C Y j W M Q;have E:=W;obtain⟨x,g1,g2,g3,g4,g5⟩:=W;have F:=ZU g1 12 (v:=x) rfl;have u:=SS.len g2.ss 9;rw[zS]at u;have l1:=ZU M.z 1 (v:=.int .i64 (w:Int)) rfl;have y:decide ((w:Int)<(a.O.length:Int))=false:=by rw[decide_eq_false_iff_not];omega
  refine⟨H,A,S,tm,s,?_,C,Y,j,E,M,Q,Stp.refl _ _,fun x h=>.inl h,fun x h=>.inl h⟩;rw[KV];simp only[go_sem,zF,F,u,l1,y]
 |succ f ih =>
  intro a tm s A S H hf C Y j W M Q;have E:=W;obtain⟨x,g1,g2,g3,g4,g5⟩:=W;have F:=ZU g1 12 (v:=x) rfl;have u:=SS.len g2.ss 9;rw[zS]at u;have l1:=ZU M.z 1 (v:=.int .i64 (w:Int)) rfl;by_cases Z:w<a.O.length
  ·have y:decide ((w:Int)<(a.O.length:Int))=true:=by rw[decide_eq_true_eq];omega
   have ag:=C.len;have af:=C.kle;have ah:=C.m;obtain⟨H1,A1,S1,tm1,s1,p1,p2,p3,p4,p5,p6,p7,p8⟩:=ZwO hB hl hok hsm hs hks hkl hw hw2 (by omega) C.short C.lines (by omega) ⟨by omega,by omega⟩ C.perm Y j E;have aa:=M.lt
   have N:=M.stp p6 fun x D h=>by
    rcases zE.1 h with h|h
    ·exact (Q x D).1 h
    ·exact (Q x D).2 h
   have ac:∀ x∈[U,sc,K,T,J],x∉S1/\x∉A1:=fun x D=>by
    have:=aa x D;refine⟨fun h=>?_,fun h=>?_⟩
    ·rcases p8 x h with h|h
     ·exact (Q x D).1 h
     ·omega
    ·rcases p7 x h with h|h
     ·exact (Q x D).2 h
     ·omega
   have ab:=PInv.sinv hw C Z p4
   have R:(NR L p w a).O.length<=f:=by
    have:=p4.len;have hc:=Zl6 hw Z;show (Yz L p w a.O (YN w a.O.length) ⟨[],a.P,a.k,a.st⟩).O.length<=f;omega
   obtain⟨H',A',V,I,s',m1,m2,m3,m4,m5,m6,m7,m8,m9,ad⟩:=ih (NR L p w a) tm1 s1 A1 S1 H1 R ab p3 p2 p5 N ac;have hr:K3 L p w (f+1) a=K3 L p w f (NR L p w a):=by simp only[K3,if_pos Z]
   rw[hr];have ae:=p6.len;have e0:((0:Int) != 0)=false:=rfl;have le:=ZU N.e 0 (v:=.int .i64 0) rfl;refine⟨H',A',V,I,s',?_,m2,m3,m4,m5,m6,m7,?_,fun x D=>?_,fun x D=>?_⟩
   ·rw[KV];simp only[go_sem,zF,F,u,l1,y,ZcB,p1,N.e0,le,e0];exact m1
   ·refine p6.trans m8 (fun _ h=>h) fun x h=>?_;rcases zE.1 h with h|h
    ·exact (p8 x h).imp (fun h=>List.mem_append_left _ h) id
    ·exact (p7 x h).imp (fun h=>zW _ h) id
   ·rcases m9 x D with h|h
    ·exact p7 x h
    ·exact .inr (by omega)
   ·rcases ad x D with h|h
    ·exact p8 x h
    ·exact .inr (by omega)
  ·have y:decide ((w:Int)<(a.O.length:Int))=false:=by rw[decide_eq_false_iff_not];omega
   have hr:K3 L p w (f+1) a=a:=by simp only[K3,if_neg Z]
   rw[hr];refine⟨H,A,S,tm,s,?_,C,Y,j,E,M,Q,Stp.refl _ _,fun x h=>.inl h,fun x h=>.inl h⟩;rw[KV];simp only[go_sem,zF,F,u,l1,y]
theorem Zui {w:Nat}{zc sc M V C:Nat}{mem:Int}{r0 y0:Int}{l:List Zi}(an:[zc,sc,M,V,C].Nodup)(H0:Hp){a:PSt}{tm:Tmp}{s:Sto}{A S:List Nat}{H:Hp}(hI:SInv L p r0 y0 l a)
 (D:XS B tm s a.P a.k) (ae:SysAt H o t tm s A) (hS:SrAt H g o A L lx cl e p xp a.O a.st S) (hF:FxAt H zc sc M V C o mem (w:Int) false) (hd:∀ x∈[zc,sc,M,V,C],x∉S/\x∉A) :
 ∃ H' y pk S1,Kb (.ptr sc 0) (.ptr M 0) (.ptr V 0) (.ptr C 0) (.ptr g 0) (.fn (.func 44) [] [.ptr M 0,.ptr C 0,.ptr V 0]) H0 H =
  some (.tuple [y,.agg [.int .i64 a.st.r,.int .i64 a.st.m,.int .i64 a.st.y,.int .i64 a.st.k],.int .i64 0],H')/\SS y (ZT L p l)/\StoreAt H' t ⟨262144,pk,B,false,0⟩ S1/\pk<=262144 /\
  Stp (sc::C::A) H H'/\(∀ x∈S1,x∈A\/H.length<=x):=by
 have ai:=hF.lt;have al:=hS.off;obtain⟨H1,y,q1,q2,q3,q4⟩:=Zth hB hl hok hsm hs hks hkl (by have:=hI.len;omega) hI.lines (fun x j=>hI.perm.mem_iff.2 j) D ae hS;obtain⟨Ps,c1,c2⟩:=hI.parts;rw[c1,Zdc,c2]at q2;have u:=hF.stp q4 fun x j h=>(hd x j).2 h;have aj:=hS.stp q4 al fun x h=>.inl h;have az:=q4.len
 -- closed is true
 have X:=Q5 u.c 0 (v:=.bool true) rfl rfl (by simp);have ag:(yN [AV.bool false] 0 (.bool true))=[.bool true]:=rfl;rw[ag]at X;have K:Stp [C] H1 (H1.set C (.cells [.bool true])):=Stp.set _ _ (by simp);have am:=Zt (zA [.bool true]) u.c;have ac:=an;simp only[zV,zD,zK,or_false,not_or,yG,not_false_eq_true,and_true]at ac;obtain⟨⟨n1,n2,n3,n4⟩,⟨n5,n6,n7⟩,⟨n8,n9⟩,aw⟩:=ac
 have R:FxAt (H1.set C (.cells [.bool true])) zc sc M V C o mem (w:Int) true :=
  ⟨K.get u.z (by simpa using n4),K.get u.s (by simpa using n7),K.get u.e (by simpa using n9),K.get u.m (by simpa using aw),am⟩
 have aa:=hd C (by simp);have I:=q3.stp K fun x j h=>aa.2 (by rw[<-zB.1 h];exact j);have T:=aj.stp (A':=A) K (fun x j h=>aa.1 (by rw[<-zB.1 h];exact j)) fun x h=>.inl h;have ay:=K.len;generalize bb:H1.set C (.cells [.bool true])=H2 at X K R I T ay
 -- Close
 obtain⟨Z,A3,bd,s3,k1,Q,k3,k4,k5,k6,k7,k8⟩:=Zrz I D.tmOk (D.stoOk hB) D.stE.2.2.2.1 D.stE.2.2.2.2 (by rw[D.tmE.2.1];exact D.nd) (fun n hn=>by
  rw[D.tmE.2.1]at hn;obtain⟨x,j,rfl⟩:=zY.1 hn;rw[D.get hB j];simp) D.tmE.2.2.2.2
 have ao:s3=⟨262144,s.peak,B,false,0⟩:=by
  rw[k8,D.tmE.2.1,D.stE.2.2.1,ZAc a.P D.nd (fun x j=>by obtain⟨i,_,_,e⟩:=D.num x j;rw[e];exact XS.notB hB i)];obtain⟨f1,f2,f3,f4,f5⟩:=D.stE;cases s;dsimp only at f1 f4 f5 ⊢;subst f1 f4 f5;rfl
 have F:=R.stp Q.stp fun x j h=>(hd x j).2 h;have ak:=T.stp Q.stp T.off Q.own;have ba:=Q.stp.len;obtain⟨x,g1,g2,g3,g4,g5⟩:=ak;have ap:Z3 true 4 (.ptr g 13) Z=some (.agg [.int .i64 a.st.r,.int .i64 a.st.m,.int .i64 a.st.y,.int .i64 a.st.k]):=by rw[YZ g1];rfl
 have W:=UL (off:=0) (sz:=4) (v:=.agg [.int .i64 a.st.r,.int .i64 a.st.m,.int .i64 a.st.y,.int .i64 a.st.k]) F.s rfl rfl (by simp);have ah:splice [zZ .i64 0,.int .i64 0,.int .i64 0,.int .i64 0] 0 (AV.agg [.int .i64 a.st.r,.int .i64 a.st.m,.int .i64 a.st.y,.int .i64 a.st.k]).cells=[.int .i64 a.st.r,.int .i64 a.st.m,.int .i64 a.st.y,.int .i64 a.st.k]:=rfl;rw[ah]at W;have t4:Stp [sc] Z (Z.set sc (.cells [.int .i64 a.st.r,.int .i64 a.st.m,.int .i64 a.st.y,.int .i64 a.st.k])):=Stp.set _ _ (by simp);have N:=Zt (zA [.int .i64 a.st.r,.int .i64 a.st.m,.int .i64 a.st.y,.int .i64 a.st.k]) F.s;have E:=t4.get F.e (by simpa using Ne.symm n5);have ab:=t4.get F.c (by simpa using Ne.symm n7);have ad:=hd sc (by simp)
 have J:=Q.at'.stp t4 fun x j h=>by
  rcases Q.own x j with k|k
  ·exact ad.2 (by rw[<-zB.1 h];exact k)
  ·have:=ai sc (by simp);rw[zB.1 h]at k;omega
 generalize bc:Z.set sc (.cells [.int .i64 a.st.r,.int .i64 a.st.m,.int .i64 a.st.y,.int .i64 a.st.k])=Y at W t4 N E ab J
 have ax:Ze 1 (.ptr M 0) (.int .i64 0) Y=some (.tuple [],Y):=by
  have:=Q5 E 0 (v:=.int .i64 0) rfl rfl (by simp);rw[this];congr 2;exact ZfS E
 have af:=ZU E 0 (v:=.int .i64 0) rfl;have au:Z3 true 4 (.ptr sc 0) Y=some (.agg [.int .i64 a.st.r,.int .i64 a.st.m,.int .i64 a.st.y,.int .i64 a.st.k]):=by rw[YZ N];rfl
 have e0:((0:Int) != 0)=false:=rfl
 have U:Yn cfg (Z9 cfg) (.fn (.func 44) [] [.ptr M 0,.ptr C 0,.ptr V 0]) [] Y=some (.tuple [],Y):=by
  rw[ZuT,Zay];unfold Lu;simp only[go_sem,af,e0]
 obtain⟨Bs,Ss,z1,z2,z3,z4⟩:=J;rw[ao]at z2;refine⟨Y,y,s.peak,Ss,?_,q2,z2,D.stE.2.1,?_,fun x j=>?_⟩
 ·have aq:=ZU u.e 0 (v:=.int .i64 0) rfl;have ar:=ZU F.e 0 (v:=.int .i64 0) rfl;have lm:=ZU R.m 0 (v:=.ptr o 0) rfl;rw[Zcy];simp only[q1,go_sem,zQ,zR,u.e0,aq,e0,Zcz,X,lm,k1,F.e0,ar,ZcA,zF,ap,W,ax,Zcw,U,au,af]
 ·have b1:Stp (sc::C::A) H H1:=q4.mono fun x j=>by simp[j]
  have b2:Stp (sc::C::A) H H2:=b1.trans K (fun _ h=>h) fun x h=>.inl (by rw[zB.1 h];simp);have b3:Stp (sc::C::A) H Z:=b2.trans Q.stp (fun _ h=>h) fun x h=>.inl (by simp[h]);exact b3.trans t4 (fun _ h=>h) fun x h=>.inl (by rw[zB.1 h];simp)
 ·have:x∈A3:=by rw[z4];exact zW _ j
  rcases Q.own x this with h|h
  ·exact .inl h
  ·exact .inr (by omega)
end
def ZI (mem:Int)(l:List Zi):List (List Zi):=UO (ZZ cS mem l)
def Wk (L:Loc)(p:Spec)(mem:Int)(w:Nat)(l:List Zi):Stt:=(K3 L p w 40 (Vm L p (ZI mem l))).st
def Zxd (st:Stt):AV:=.agg [.int .i64 st.r,.int .i64 st.m,.int .i64 st.y,.int .i64 st.k]
def ZrC (t:Nat)(s:Sto):Prop:=∀ (H:Hp) (S:List Nat),StoreAt H t s S->∃ H' A' o,UI [.ptr t 0,.str ZfF,.int .i64 262144] H=some (.tuple [.ptr o 0,.int .i64 0],H') /\
 SysAt H' o t ⟨ZfF,[],[],262144,0,false⟩ s A'/\Stp S H H'/\(∀ a∈A',a∈S\/H.length<=a)
theorem XS.start {B:List Fil}{pk:Nat}(u:pk<=262144):XS B ⟨ZfF,[],[],262144,0,false⟩ ⟨262144,pk,B,false,0⟩ [] 0 :=
 ⟨⟨rfl,rfl,rfl,rfl,rfl⟩,(fun x j=>by cases j),⟨rfl,u,by simp[Ys],rfl,rfl⟩,by simp,(fun x j=>by cases j),by omega,by simp,by simp,by simp[ZM],(fun x j=>by cases j)⟩
theorem ZuP {a q x:AV}{L:Loc}{p:Spec}{l:List Zi}(ha:LocAV a L)(hok:LocOk L)(hsm:LocSm L)(hq:SpecAV q p)(hks:∀ k∈p.keys,KeOk k)(hkl:p.keys.length<=1048576)(hx:SS x l)(ah:l.length<=40)(C:∀ s∈l,s.length<=200)
 {B:List Fil} (hB:BOk B) {w:Nat} {mem:Int} (ae:IQ p mem (w:Int) l=0) {t pk:Nat} {S0:List Nat} {H:Hp} (h:StoreAt H t ⟨262144,pk,B,false,0⟩ S0) (ax:pk<=262144) (V:ZrC t ⟨262144,pk,B,false,0⟩) :
 ∃ H' y ao S1,Ty [.ptr t 0,a,q,.agg [.int .i64 mem,.int .i64 (w:Int)],x] H=some (.tuple [y,Zxd (Wk L p mem w l),.int .i64 0],H')/\SS y (ZT L p l)/\StoreAt H' t ⟨262144,ao,B,false,0⟩ S1/\ao<=262144 /\
  Stp S0 H H'/\(∀ z∈S1,z∈S0\/H.length<=z)/\SInv L p ((ZI mem l).length:Int) (wT L p [] 0 ⟨0,0,0,0⟩ (ZI mem l)).y l (K3 L p w 40 (Vm L p (ZI mem l))):=by
 have F:Wc l:=fun s hs=>by have:=C s hs;omega
 obtain⟨bl,bq,hm2,br,hw2⟩:=Zoa ae;have M:=hq;have W:=ha;obtain⟨lx,cl,e,rfl,bp,bm,bn⟩:=ha;obtain⟨xp,rfl,bs⟩:=hq
 -- the first cells
 have Y:(H++[zA (L.cells lx cl e),.cells (p.cells xp),.cells [.int .i64 mem,.int .i64 (w:Int)],.cells [.int .i64 0,.int .i64 0,.int .i64 0,.int .i64 0],.cells [.int .i64 0]]).length=H.length+5:=by simp
 have b1:ZN (.agg (p.cells xp)) (H++[zA (L.cells lx cl e)])=some (.ptr (H.length+1) 0,H++[zA (L.cells lx cl e),.cells (p.cells xp)]):=by rw[YD];simp
 have b2:ZN (.agg [.int .i64 mem,.int .i64 (w:Int)]) (H++[zA (L.cells lx cl e),.cells (p.cells xp)])=some (.ptr (H.length+2) 0,H++[zA (L.cells lx cl e),.cells (p.cells xp),.cells [.int .i64 mem,.int .i64 (w:Int)]]):=by rw[YD];simp
 have f0:(H++[zA (L.cells lx cl e),.cells (p.cells xp),.cells [.int .i64 mem,.int .i64 (w:Int)],.cells [.int .i64 0,.int .i64 0,.int .i64 0,.int .i64 0],.cells [.int .i64 0]])[H.length]?=some (.cells (L.cells lx cl e)):=by simp
 have f1:(H++[zA (L.cells lx cl e),.cells (p.cells xp),.cells [.int .i64 mem,.int .i64 (w:Int)],.cells [.int .i64 0,.int .i64 0,.int .i64 0,.int .i64 0],.cells [.int .i64 0]])[H.length+1]?=some (.cells (p.cells xp)):=by simp
 have f2:(H++[zA (L.cells lx cl e),.cells (p.cells xp),.cells [.int .i64 mem,.int .i64 (w:Int)],.cells [.int .i64 0,.int .i64 0,.int .i64 0,.int .i64 0],.cells [.int .i64 0]])[H.length+2]?=some (.cells [.int .i64 mem,.int .i64 (w:Int)]):=by simp
 have f3:(H++[zA (L.cells lx cl e),.cells (p.cells xp),.cells [.int .i64 mem,.int .i64 (w:Int)],.cells [.int .i64 0,.int .i64 0,.int .i64 0,.int .i64 0],.cells [.int .i64 0]])[H.length+3]?=some (.cells [.int .i64 0,.int .i64 0,.int .i64 0,.int .i64 0]):=by simp
 have f4:(H++[zA (L.cells lx cl e),.cells (p.cells xp),.cells [.int .i64 mem,.int .i64 (w:Int)],.cells [.int .i64 0,.int .i64 0,.int .i64 0,.int .i64 0],.cells [.int .i64 0]])[H.length+4]?=some (.cells [.int .i64 0]):=by simp
 have t1:Stp [] H (H++[zA (L.cells lx cl e),.cells (p.cells xp),.cells [.int .i64 mem,.int .i64 (w:Int)],.cells [.int .i64 0,.int .i64 0,.int .i64 0,.int .i64 0],.cells [.int .i64 0]]):=Stp.push _ _
 have J:(H++[zA (L.cells lx cl e),.cells (p.cells xp),.cells [.int .i64 mem,.int .i64 (w:Int)]]++[zA [.int .i64 0,.int .i64 0,.int .i64 0,.int .i64 0]]++[zA [.int .i64 0]]) =
  (H++[zA (L.cells lx cl e),.cells (p.cells xp),.cells [.int .i64 mem,.int .i64 (w:Int)],.cells [.int .i64 0,.int .i64 0,.int .i64 0,.int .i64 0],.cells [.int .i64 0]]):=by simp
 have al:(H++[zA (L.cells lx cl e),.cells (p.cells xp),.cells [.int .i64 mem,.int .i64 (w:Int)]]).length=H.length+3:=by simp
 have am:(H++[zA (L.cells lx cl e),.cells (p.cells xp),.cells [.int .i64 mem,.int .i64 (w:Int)]]++[zA [.int .i64 0,.int .i64 0,.int .i64 0,.int .i64 0]]).length=H.length+4:=by simp
 generalize bj:(H++[zA (L.cells lx cl e),.cells (p.cells xp),.cells [.int .i64 mem,.int .i64 (w:Int)],.cells [.int .i64 0,.int .i64 0,.int .i64 0,.int .i64 0],.cells [.int .i64 0]])=H1 at Y f0 f1 f2 f3 f4 t1 J;have ls:=Gd f1;have lz:Z3 true 2 (.ptr (H.length+2) 0) H1=some (.agg [.int .i64 mem,.int .i64 (w:Int)]):=by rw[YZ f2];rfl
 obtain⟨H2,q1,Q⟩:=Zs9 hx F (by omega) M mem (w:Int) t H1;rw[ae]at q1;have E:∀ i,i∉([]:List Nat):=fun i h=>by cases h
 have ac:=h.lt;have h2:=(h.stp t1 fun a _=>E a).stp Q fun a _=>E a;obtain⟨j,A3,o,o1,o2,o3,o4⟩:=V H2 S0 h2;have bt:=Q.len;have bu:=o3.len;have aa:=o2.lt;have u:∀ i,H.length<=i->i<H2.length->i∉S0:=fun i h1 _ hS=>by have:=ac i hS;omega
 have aw:∀ i,H.length<=i->i<H2.length->i∉A3:=fun i h1 h2 hA=>by
  rcases o4 i hA with k|k
  ·exact u i h1 h2 k
  ·omega
 have g0:=o3.get (Q.get f0 (E _)) (u _ (by omega) (by omega));have g1:=o3.get (Q.get f1 (E _)) (u _ (by omega) (by omega));have g2:=o3.get (Q.get f2 (E _)) (u _ (by omega) (by omega));have g3:=o3.get (Q.get f3 (E _)) (u _ (by omega) (by omega));have g4:=o3.get (Q.get f4 (E _)) (u _ (by omega) (by omega))
 -- m,closed and the sorter
 have sm:=Q5 (H:=j++[zA [.nilp]]) (o:=j.length) (l:=[.nilp]) (by simp) 0 (v:=.ptr o 0) rfl rfl (by simp);have em:(j++[zA [.nilp]]).set j.length (.cells (yN [.nilp] 0 (.ptr o 0)))=j++[zA [.ptr o 0]]:=by simp
 rw[em]at sm;have S:(j++[zA [.ptr o 0]])[H.length+4]?=some (.cells [.int .i64 0]):=Yl g4 _
 have se:Ze 1 (.ptr (H.length+4) 0) (.int .i64 0) (j++[zA [.ptr o 0]])=some (.tuple [],j++[zA [.ptr o 0]]):=by
  have:=Q5 S 0 (v:=.int .i64 0) rfl rfl (by simp);rw[this];congr 2;exact ZfS S
 have ba:=ZU S 0 (v:=.int .i64 0) rfl;have an:(j++[zA [.ptr o 0]]).length=j.length+1:=by simp
 have sc:=Q5 (H:=j++[zA [.ptr o 0]]++[zA [.bool false]]) (o:=j.length+1) (l:=[.bool false]) (by simp) 0 (v:=.bool false) rfl rfl (by simp);have ec:(j++[zA [.ptr o 0]]++[zA [.bool false]]).set (j.length+1) (.cells (yN [.bool false] 0 (.bool false)))=j++[zA [.ptr o 0],.cells [.bool false]]:=by simp
 rw[ec]at sc;have t5:Stp [] j (j++[zA [.ptr o 0],.cells [.bool false],.cells (XN o L lx cl e p xp .nils ⟨0,0,0,0⟩)]):=Stp.push _ _;have bd:Z3 false 1 (.ptr j.length 0) (j++[zA [.ptr o 0],.cells [.bool false]])=some (.ptr o 0):=ZU (l:=[.ptr o 0]) (by simp) 0 rfl;have bc:Z3 true 6 (.ptr H.length 0) (j++[zA [.ptr o 0],.cells [.bool false]])=some (.agg (L.cells lx cl e)):=Zd3 (Yl g0 _);have be:Z3 true 5 (.ptr (H.length+1) 0) (j++[zA [.ptr o 0],.cells [.bool false]])=some (.agg (p.cells xp)):=Gd (Yl g1 _);have X:(Xj [(0,1,.ptr o 0),(1,6,.agg (L.cells lx cl e)),(7,5,.agg (p.cells xp))] [.nilp,(.str []),.nils,(.str []),(.str []),.nils,.nils,.nils,(.int .i64 0),(.int .i64 0),(.bool false),(.bool false),.nils,(.int .i64 0),(.int .i64 0),(.int .i64 0),(.int .i64 0)]).map AV.agg=some (AV.agg (XN o L lx cl e p xp .nils ⟨0,0,0,0⟩)):=rfl;have bx:ZN (.agg (XN o L lx cl e p xp .nils ⟨0,0,0,0⟩)) (j++[zA [.ptr o 0],.cells [.bool false]])=some (.ptr (j.length+2) 0,j++[zA [.ptr o 0],.cells [.bool false],.cells (XN o L lx cl e p xp .nils ⟨0,0,0,0⟩)]):=by rw[YD];simp
 have ai:(j++[zA [.ptr o 0],.cells [.bool false],.cells (XN o L lx cl e p xp .nils ⟨0,0,0,0⟩)])[j.length]?=some (.cells [.ptr o 0]):=by simp
 have ad:(j++[zA [.ptr o 0],.cells [.bool false],.cells (XN o L lx cl e p xp .nils ⟨0,0,0,0⟩)])[j.length+1]?=some (.cells [.bool false]):=by simp
 have ag:(j++[zA [.ptr o 0],.cells [.bool false],.cells (XN o L lx cl e p xp .nils ⟨0,0,0,0⟩)])[j.length+2]?=some (.cells (XN o L lx cl e p xp .nils ⟨0,0,0,0⟩)):=by simp
 have l5:(j++[zA [.ptr o 0],.cells [.bool false],.cells (XN o L lx cl e p xp .nils ⟨0,0,0,0⟩)]).length=j.length+3:=by simp
 generalize bk:(j++[zA [.ptr o 0],.cells [.bool false],.cells (XN o L lx cl e p xp .nils ⟨0,0,0,0⟩)])=R at t5 bx ai ad ag l5
 have T:FxAt R (H.length+2) (H.length+3) (H.length+4) j.length (j.length+1) o mem (w:Int) false :=
  ⟨t5.get g2 (E _),t5.get g3 (E _),t5.get g4 (E _),ai,ad⟩
 have Z:=o2.stp t5 fun a _=>E a
 have ap:SrAt R (j.length+2) o A3 L lx cl e p xp [] ⟨0,0,0,0⟩ [j.length+2] :=
  ⟨.nils,ag,.inl ⟨rfl,rfl⟩,fun a ha hA=>by have:=aa a hA;simp[ZG]at ha;omega,by simp[ZG],by simp[ZG]⟩
 have K:∀ z∈[H.length+2,H.length+3,H.length+4,j.length,j.length+1],z∉[j.length+2]/\z∉A3:=fun z D=>by
  simp only[zD,zK,or_false]at D ⊢;refine⟨by omega,fun hA=>?_⟩;have bo:=aa z hA;rcases o4 z hA with k|k
  ·have:=ac z k;omega
  ·omega
 have aj:[H.length+2,H.length+3,H.length+4,j.length,j.length+1].Nodup:=by
  simp only[zV,zD,zK,or_false,not_or,yG,not_false_eq_true,and_true];omega
 -- the runs are written
 obtain⟨I,af⟩:=Zl0 mem l;have aq:=Zjo af;rw[I]at aq;obtain⟨cc,v1,v2⟩:=Zre (mem:=mem) hx F (by omega) R;have az:=v2.len 29
 have ar:∀ c∈ZI mem l,c.length<=40/\∀ s∈c,s.length<=200:=fun c hc=>by
  have ak:∀ s∈c,s∈l:=fun s hs=>by rw[<-I];exact yB.2 ⟨c,hc,hs⟩
  refine⟨?_,fun s hs=>C s (ak s hs)⟩;have:c.length<=(ZI mem l).flatten.length:=(List.sublist_flatten_of_mem hc).length_le;unfold ZI at this;rw[I]at this;omega
 obtain⟨H6,A6,S6,bi,s6,w1,w2,w3,w4,w5,w6,w7⟩:=Zrx hB W hok M hks v2 (by omega) ar R (ZI mem l) [] [] 0 ⟨0,0,0,0⟩ _ _ A3 [j.length+2] R rfl (by unfold ZI;omega) (by unfold ZI;simp;omega) (fun x hx=>by cases hx)
  (by unfold ZI;rw[I];simp[Y2];omega) ⟨yA _,by unfold ZI;show (0:Int)+_<=1000;omega⟩ (XS.start ax) Z ap
 rw[zF]at w3
 have U:=T.stp w5 fun z D A=>by
  rcases zE.1 A with k|k
  ·exact (K z D).1 k
  ·exact (K z D).2 k
 have ab:=T.lt
 have au:∀ z∈[H.length+2,H.length+3,H.length+4,j.length,j.length+1],z∉S6/\z∉A6:=fun z D=>by
  have:=ab z D;refine⟨fun A=>?_,fun A=>?_⟩
  ·rcases w7 z A with k|k
   ·exact (K z D).1 k
   ·omega
  ·rcases w6 z A with k|k
   ·exact (K z D).2 k
   ·omega
 have bw:=w5.len
 -- the passes
 have hI:=Zuc (L:=L) (p:=p) I af ah C;obtain⟨H7,A7,S7,ca,s7,u1,u2,u3,u4,u5,u6,u7,u8,u9,cb⟩:=ZnQ hB W hok hsm M hks hkl (by omega) (by omega) (.fn (.func 44) [] [.ptr (H.length+4) 0,.ptr (j.length+1) 0,.ptr j.length 0]) H 40 (Vm L p (ZI mem l)) bi s6 A6 S6 H6 hI.len hI w3 w2 w4 U au;obtain⟨H8,y,bh,S8,z1,z2,z3,z4,z5,z6⟩:=Zui hB W hok hsm M hks hkl aj H u2 u3 u4 u5 u6 u7;have bz:=u8.len
 have N:∀ z∈A6,z∈S0\/H.length<=z:=fun z D=>by
  rcases w6 z D with k|k
  ·rcases o4 z k with k|k
   ·exact .inl k
   ·exact .inr (by omega)
  ·exact .inr (by omega)
 have O:∀ z∈A7,z∈S0\/H.length<=z:=fun z D=>by
  rcases u9 z D with k|k
  ·exact N z k
  ·exact .inr (by omega)
 refine⟨H8,y,bh,S8,?_,z2,z3,z4,?_,fun z D=>?_,u2⟩
 ·have e0:((0:Int) != 0)=false:=rfl
  have ay:Qa [.ptr (j.length+2) 0,x,.int .i64 mem] R=some (.int .i64 0,H6):=by
   rw[Mw];unfold BT;simp only[v1,go_sem,az];exact w1
  have bf:=ZU T.z 0 (v:=.int .i64 mem) rfl;have bb:=ZU U.e 0 (v:=.int .i64 0) rfl;rw[ZdO];unfold Ap;simp only[YD,go_sem,b1,b2,al,J,am,ls,lz,q1,e0,Zcu];have bg:UI [.ptr t 0,.str [115,111,114,116],.int .i64 262144] H2=some (.tuple [.ptr o 0,.int .i64 0],j):=o1;simp only[bg,go_sem,zQ,zR,sm,se,ba,e0,Zcv,an,sc,bd,bc,be,X,bx,zF,bf,ay,U.e0,bb,Zcx];refine u1.trans ?_;exact z1
 ·have k1:Stp S0 H H2:=(t1.mono fun a h=>absurd h (E a)).trans (Q.mono (B:=S0) fun a h=>absurd h (E a)) (fun _ h=>h) fun a h=>.inl h;have k2:Stp S0 H j:=k1.trans o3 (fun _ h=>h) fun a h=>.inl h;have k3:Stp S0 H R:=k2.trans (t5.mono (B:=S0) fun a h=>absurd h (E a)) (fun _ h=>h) fun a h=>.inl h
  have k4:Stp S0 H H6:=k3.trans w5 (fun _ h=>h) fun a A=>by
   rcases zE.1 A with k|k
   ·rw[zB.1 k];exact .inr (by omega)
   ·rcases o4 a k with k|k
    ·exact .inl k
    ·exact .inr (by omega)
  have k5:Stp S0 H H7:=k4.trans u8 (fun _ h=>h) fun a A=>by
   rcases zE.1 A with k|k
   ·rcases w7 a k with k|k
    ·rw[zB.1 k];exact .inr (by omega)
    ·exact .inr (by omega)
   ·exact N a k
  exact k5.trans z5 (fun _ h=>h) fun a A=>by
   rcases zD.1 A with k|A
   ·exact .inr (by omega)
   rcases zD.1 A with k|A
   ·exact .inr (by omega)
   ·exact O a A
 ·rcases z6 z D with k|k
  ·exact O z k
  ·exact .inr (by omega)
end Go.Am
