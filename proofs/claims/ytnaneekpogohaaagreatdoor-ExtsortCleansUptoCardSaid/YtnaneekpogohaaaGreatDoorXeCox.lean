/- The number of runs and passes of a sort -/
import Derived.Test.YtnaneekpogohaaaGreatDoorXeQcx
import Derived.Test.YtnaneekpogohaaaGreatDoorXeGXx
import Derived.Test.YtnaneekpogohaaaGreatDoorXeGRx
open Go.Am.AV renaming int->zZ
open Go.IntKind renaming i64->J
open List renaming length_append->zC,flatten_cons->zD,append_nil->zE,flatten_append->zF,getElem?_append_right->zG,take_of_length_le->zI,mapM_cons->zJ,map_cons->zK,length_cons->zL,map_append->zM,map_take->zS,map_drop->zT,any_nil->zU,map_nil->zV
open Nat renaming le_refl->zW,add_mul->zX,one_mul->zY
open Bool renaming false_eq_true->zA,not_true->zH,and_false->zN,false_and->zO,not_false->zP,and_true->zQ,true_and->zR
open Go.Am.AObj renaming cells->zB
namespace Go.Am
set_option linter.unusedSectionVars false
set_option maxRecDepth 100000
abbrev Hz (mem w:Int):Hp:=[.cells [zZ J mem,zZ J w]]
section
variable {mem w:Int}
theorem Mk:Z3 false 1 (.ptr 0 0) (Hz mem w)=some (zZ J mem):=rfl
theorem Dy:Z3 false 1 (.ptr 0 1) (Hz mem w)=some (zZ J w):=rfl
theorem hza:Z3 true 2 (.ptr 0 0) (Hz mem w)=some (.agg [zZ J mem,zZ J w]):=rfl
theorem ZkD:ZN (.agg [zZ J mem,zZ J w]) []=some (.ptr 0 0,Hz mem w):=rfl
end
theorem Ka (o:Nat):Z7 0 (.ptr o 0)=some (.ptr o 0):=rfl
theorem Zh1 (o:Nat):Z7 1 (.ptr o 0)=some (.ptr o 1):=rfl
def GD (mem w:Int):Bool:=decide (64<=mem)&&(decide (mem<=65536)&&(decide (2<=w)&&decide (w<=32)))
theorem ZtU (mem w:Int)(H:Hp)(n f:Nat):Zd H n (f+2) (.agg [zZ J mem,zZ J w])=some (.agg [zZ J mem,zZ J w]):=rfl
theorem Zf3 (mem w:Int)(H:Hp):Zf KH [.agg [zZ J mem,zZ J w]] H=some (.bool (GD mem w),H):=by
 refine Ws (args':=[.agg [zZ J mem,zZ J w]]) (H1:=Hz mem w) rfl ?_ rfl;rw[Zbr];unfold SI;have h:=@Mk mem w;have j:=@Dy mem w;unfold GD
 cases u:decide (64<=mem) <;> cases y:decide (mem<=65536) <;> cases z:decide (2<=w) <;> cases A:decide (w<=32) <;>
  simp only[ZkD,go_sem,Ka,Zh1,h,j,u,y,z,A,zQ,zN,zR,zO]
theorem ZmA (mem w:Int)(H:Hp):Zf Hc [.agg [zZ J mem,zZ J w]] H=some (.bool (GD mem w),H):=by
 refine Ws (args':=[.agg [zZ J mem,zZ J w]]) (H1:=Hz mem w) rfl ?_ rfl;rw[Zi8];unfold Zeu;have h:=@Mk mem w;have j:=@Dy mem w;unfold GD
 cases u:decide (64<=mem) <;> cases y:decide (mem<=65536) <;> cases z:decide (2<=w) <;> cases A:decide (w<=32) <;>
  simp only[ZkD,go_sem,Ka,Zh1,h,j,u,y,z,A,zQ,zN,zR,zO]
section
variable {mem w:Int}(hm:64<=mem)(hm2:mem<=65536)(hw:2<=w)(hw2:w<=32)
include hw hw2
include hm hm2
end
theorem ZnS {mem w:Int}(h:GD mem w=true):64<=mem/\mem<=65536/\2<=w/\w<=32:=by
 unfold GD at h;simp only[Bool.and_eq_true,decide_eq_true_eq]at h;exact h
def JH (l:List Zl):Bool:=l.any fun s=>decide (4096<s.length)
def Hy (p:Spec)(mem w:Int)(l:List Zl):Int :=
 if (ZJ p != 0)=true then ZJ p else if GD mem w=true then (if 8192<l.length then 3 else if JH l=true then 3 else 0) else 2
theorem ZtR {x:AV}{l:List Zl}(M:SS x l)(O:Wo l)(hl:l.length<=1048576)(K H:Hp):∀ (r d:List Zl),l=d++r ->
 Jz x (zZ J (l.length:Int)) (zZ J (d.length:Int)) K H=some (zZ J (if JH r=true then 3 else 0),H):=by
 intro r
 induction r with
 |nil =>
  intro d u;rw[zE]at u;subst u;have h:decide ((l.length:Int)<(l.length:Int))=false:=by simp
  rw[Tt];simp only[go_sem,h,ZaM,JH,zU,zA,if_false]
 |cons s r N =>
  intro d u;have F:l.length=d.length+(r.length+1):=by rw[u];simp
  have h:decide ((d.length:Int)<(l.length:Int))=true:=by rw[decide_eq_true_eq];omega
  have A:l[d.length]?=some s:=by rw[u,zG (zW _)];simp
  have j:=SS.idx M A;have C:IntKind.i64.wrap ((d.length:Int)+1)=((d++[s]).length:Int):=by rw[Zr (by omega) (by omega)];simp
  have D:=N (d++[s]) (by rw[u];simp);rw[Tt];by_cases E:4096<s.length
  ·have y:decide ((4096:Int)<(s.length:Int))=true:=by rw[decide_eq_true_eq];omega
   have z:JH (s::r)=true:=by simp[JH,E]
   simp only[go_sem,h,Ts,j,Zz,y,z,if_true]
  ·have y:decide ((4096:Int)<(s.length:Int))=false:=by rw[decide_eq_false_iff_not];omega
   have z:JH (s::r)=JH r:=by simp[JH,E]
   simp only[go_sem,h,Ts,j,Zz,y,ZaN,C,z];exact D
theorem Zrb {x q:AV}{l:List Zl}{p:Spec}(R:SS x l)(U:Wo l)(hl:l.length<=1048576)(Q:SpecAV q p)(mem w:Int)(t:Nat)(H:Hp) :
 ∃ H',FX [.ptr t 0,q,.agg [zZ J mem,zZ J w],x] H=some (zZ J (Hy p mem w l),H')/\Stp [] H H':=by
 have F:=Q;obtain⟨xp,rfl,V⟩:=Q;have h:Yy (.pointer 82) .eql (.ptr t 0) .nilp=some (.bool false):=rfl;have S:(H++[zB (p.cells xp),.cells [zZ J mem,zZ J w]])[H.length]?=some (.cells (p.cells xp)):=by simp
 have T:(H++[zB (p.cells xp),.cells [zZ J mem,zZ J w]])[H.length+1]?=some (.cells [zZ J mem,zZ J w]):=by simp
 have z:ZN (.agg [zZ J mem,zZ J w]) (H++[zB (p.cells xp)])=some (.ptr (H.length+1) 0,H++[zB (p.cells xp),.cells [zZ J mem,zZ J w]]):=by rw[Yu];simp
 have N:Stp [] H (H++[zB (p.cells xp),.cells [zZ J mem,zZ J w]]):=Stp.push _ _;have y:=Q9 S;have A:Z3 true 2 (.ptr (H.length+1) 0) (H++[zB (p.cells xp),.cells [zZ J mem,zZ J w]])=some (.agg [zZ J mem,zZ J w]):=by rw[YA T];rfl
 generalize H++[zB (p.cells xp),.cells [zZ J mem,zZ J w]]=H1 at z y A N;refine⟨H1,?_,N⟩;have O:=SS.len R 9;rw[Zbq];unfold SH Hy;have j:=MX F H1
 cases C:ZJ p != 0 with
 |true=>simp only[Yu,go_sem,z,h,Ux,y,j,C,if_true]
 |false =>
  have M:=Zf3 mem w H1
  cases K:GD mem w with
  |false=>simp only[Yu,go_sem,z,h,Ux,y,j,C,KC,A,M,K,zP,zA,if_false]
  |true =>
   by_cases u:8192<l.length
   ·have D:decide ((8192:Int)<(l.length:Int))=true:=by rw[decide_eq_true_eq];omega
    simp only[Yu,go_sem,z,h,Ux,y,j,C,KC,A,M,K,zH,zA,if_false,Tr,O,D,if_true,if_pos u]
   ·have D:decide ((8192:Int)<(l.length:Int))=false:=by rw[decide_eq_false_iff_not];omega
    have E:=ZtR R U hl H H1 l [] rfl;simp only[Yu,go_sem,z,h,Ux,y,j,C,KC,A,M,K,zH,zA,if_false,Tr,O,D,if_true,if_neg u,ZaL];exact E
theorem ZsH {x:AV}{l:List Zl}(M:SS x l)(Q:Wo l)(hl:l.length<=1048576)(N H:Hp):∀ (r d:List Zl),l=d++r ->
 Rm x (zZ J (d.length:Int)) N H=some (zZ J (if JH r=true then 3 else 0),H):=by
 have C:=SS.len M 9;intro r
 induction r with
 |nil =>
  intro d u;rw[zE]at u;subst u;have h:decide ((l.length:Int)<(l.length:Int))=false:=by simp
  rw[SY];simp only[go_sem,C,h,Zgx,JH,zU,zA,if_false]
 |cons s r O =>
  intro d u;have K:l.length=d.length+(r.length+1):=by rw[u];simp
  have h:decide ((d.length:Int)<(l.length:Int))=true:=by rw[decide_eq_true_eq];omega
  have A:l[d.length]?=some s:=by rw[u,zG (zW _)];simp
  have j:=SS.idx M A;have D:IntKind.i64.wrap ((d.length:Int)+1)=((d++[s]).length:Int):=by rw[Zr (by omega) (by omega)];simp
  have E:=O (d++[s]) (by rw[u];simp);rw[SY];by_cases F:4096<s.length
  ·have y:decide ((4096:Int)<(s.length:Int))=true:=by rw[decide_eq_true_eq];omega
   have z:JH (s::r)=true:=by simp[JH,F]
   simp only[go_sem,C,h,SX,j,Zz,y,z,if_true]
  ·have y:decide ((4096:Int)<(s.length:Int))=false:=by rw[decide_eq_false_iff_not];omega
   have z:JH (s::r)=JH r:=by simp[JH,F]
   simp only[go_sem,C,h,SX,j,Zz,y,Zgy,D,z];exact E
theorem ZsG {x q:AV}{l:List Zl}{p:Spec}(V:SS x l)(T:Wo l)(hl:l.length<=1048576)(U:SpecAV q p)(mem w:Int)(H:Hp) :
 Zf Hb [q,.agg [zZ J mem,zZ J w],x] H=some (zZ J (Hy p mem w l),H):=by
 obtain⟨q',X,Q⟩:=U.close [] 0 5;obtain⟨Y,S,N⟩:=SS.closed V [] 0 7;have M:=Q;obtain⟨xp,rfl,W⟩:=Q;have R:([zB (p.cells xp),.cells [zZ J mem,zZ J w]]:Hp)[0]?=some (.cells (p.cells xp)):=rfl;have Z:([zB (p.cells xp),.cells [zZ J mem,zZ J w]]:Hp)[1]?=some (.cells [zZ J mem,zZ J w]):=rfl;have A:ZN (.agg (p.cells xp)) []=some (.ptr 0 0,[zB (p.cells xp)]):=rfl;have y:ZN (.agg [zZ J mem,zZ J w]) [zB (p.cells xp)]=some (.ptr 1 0,[zB (p.cells xp),.cells [zZ J mem,zZ J w]]):=rfl;have u:=Q9 R;have z:Z3 true 2 (.ptr 1 0) [zB (p.cells xp),.cells [zZ J mem,zZ J w]]=some (.agg [zZ J mem,zZ J w]):=rfl;generalize ([zB (p.cells xp),.cells [zZ J mem,zZ J w]]:Hp)=H1 at y u z;refine Ws (args':=[.agg (p.cells xp),.agg [zZ J mem,zZ J w],Y]) (H1:=H1) (by rw[zJ,X,zJ,ZtU,zJ,S];rfl) ?_ rfl;have O:=SS.len N 9;rw[Zi7];unfold Zet Hy;have h:=ZnE M H1
 cases C:ZJ p != 0 with
 |true=>simp only[A,go_sem,y,u,h,C,if_true]
 |false =>
  have K:=ZmA mem w H1
  cases F:GD mem w with
  |false=>simp only[A,go_sem,y,u,h,C,Rk,z,K,F,zP,zA,if_false]
  |true =>
   by_cases j:8192<l.length
   ·have D:decide ((8192:Int)<(l.length:Int))=true:=by rw[decide_eq_true_eq];omega
    simp only[A,go_sem,y,u,h,C,Rk,z,K,F,zH,zA,if_false,SW,O,D,if_true,if_pos j]
   ·have D:decide ((8192:Int)<(l.length:Int))=false:=by rw[decide_eq_false_iff_not];omega
    have E:=ZsH N T hl [] H1 l [] rfl;simp only[A,go_sem,y,u,h,C,Rk,z,K,F,zH,zA,if_false,SW,O,D,if_true,if_neg j,Zgw];exact E
theorem ZnZ {p:Spec}{mem w:Int}{l:List Zl}(h:Hy p mem w l=0):ZJ p=0/\(64<=mem/\mem<=65536/\2<=w/\w<=32):=by
 unfold Hy at h
 cases j:ZJ p != 0 with
 |true =>
  rw[if_pos j]at h;simp[h]at j
 |false =>
  rw[if_neg (by rw[j];simp)]at h
  cases u:GD mem w with
  |false=>rw[u]at h;simp at h
  |true=>exact⟨by simpa using j,ZnS u⟩
def Zde (L:Loc)(p:Spec)(w:Nat)(a:PSt):PSt:=YK L p w a.O (cnt w a.O.length) ⟨[],a.P,a.k,a.st⟩
def M1 (L:Loc)(p:Spec)(w:Nat):Nat->PSt->PSt
 |0,a=>a
 |f+1,a=>if w<a.O.length then M1 L p w f (Zde L p w a) else a
def Zik (L:Loc)(p:Spec)(O:List Pr)(l:List Zl):Prop:=∃ h:List (List Zl),O.map (·.2)=h.map (ZM L p)/\h.flatten=l
theorem Zxz (L:Loc)(p:Spec)(k:Nat)(G:List Pr)(Q:List (List Zl))(h:G.map (·.2)=Q.map (ZM L p))(u:G≠[]):(gN L p k G).2=ZM L p Q.flatten:=by
 have j:Qd L p (G.map (·.2))=ZM L p Q.flatten:=by rw[h];exact Zdc Q
 cases G with
 |nil=>exact absurd rfl u
 |cons x r =>
  cases r with
  |nil =>
   cases Q with
   |nil=>simp at h
   |cons c r =>
    cases r with
    |nil =>
     have:x.2=ZM L p c:=by simpa using h
     show x.2=_;rw[this];simp
    |cons d r=>simp at h
  |cons y r=>exact j
theorem Zq7 {L:Loc}{p:Spec}{w:Nat}(hw:2<=w){R:List Pr}{u:List (List Zl)}(D:R.map (·.2)=u.map (ZM L p))(P0:List Pr)(k0:Nat)(j:Stt):∀ q,(∀ i<q,i*w<R.length) ->
 ∃ y:List (List Zl),(YK L p w R q ⟨[],P0,k0,j⟩).O.map (·.2)=y.map (ZM L p)/\y.flatten=(u.take (q*w)).flatten:=by
 intro q
 induction q with
 |zero=>intro _;exact⟨[],rfl,by simp⟩
 |succ q F =>
  intro h;obtain⟨y,z,A⟩:=F fun i hi=>h i (by omega)
  have C:(YZ w R q).map (·.2)=((u.drop (q*w)).take w).map (ZM L p):=by
   unfold YZ;rw[zS,zT,D,<-zT,<-zS]
  have E:=Zxz L p (YK L p w R q ⟨[],P0,k0,j⟩).k _ _ C (ZiD hw (h q (by omega)));refine⟨y++[((u.drop (q*w)).take w).flatten],?_,?_⟩
  ·show ((YK L p w R q ⟨[],P0,k0,j⟩).O++[gN L p (YK L p w R q ⟨[],P0,k0,j⟩).k (YZ w R q)]).map (fun x:Pr=>x.2)=_;rw[zM,z,zM];simp only[zK,zV,E]
  ·rw[zF,A,zX,zY,List.take_add,zF];simp
theorem Zq6 {L:Loc}{p:Spec}{w:Nat}(hw:2<=w){a:PSt}{l:List Zl}(h:Zik L p a.O l):Zik L p (Zde L p w a).O l:=by
 obtain⟨u,j,z⟩:=h
 have hl:u.length=a.O.length:=by
  have:=congrArg List.length j;simpa using this.symm
 obtain⟨y,A,C⟩:=Zq7 (L:=L) (p:=p) hw j a.P a.k a.st (cnt w a.O.length) fun i hi=>Zcd (by omega) hi;refine⟨y,A,?_⟩;rw[C,zI (by rw[hl];exact Zl1 (by omega)),z]
structure SInv (L:Loc)(p:Spec)(r0 y0:Int)(l:List Zl)(a:PSt):Prop where
 perm:a.P.Perm a.O
 len:a.O.length<=40
 kle:a.k+2*a.O.length<=120
 short:ShortP a.O
 lines:ZZ a.O<=40
 m:0<=a.st.m/\a.st.m+2*a.O.length<=120
 ry:a.st.r=r0/\a.st.y=y0
 parts:Zik L p a.O l
theorem Zl0 {w n:Nat}(hw:2<=w)(y:w<n):3*cnt w n<=2*n:=by
 have h:cnt w n*w<=n+w-1:=Nat.div_mul_le_self (n+w-1) w
 cases j:cnt w n with
 |zero=>omega
 |succ d =>
  rw[j,zX,zY]at h;have u:d*2<=d*w:=Nat.mul_le_mul_left _ hw;omega
theorem PInv.sinv {L:Loc}{p:Spec}{w:Nat}(hw:2<=w){z A:Int}{l:List Zl}{a:PSt}(h:SInv L p z A l a)(D:w<a.O.length)(u:PInv w a.O a.k a.st (cnt w a.O.length) (Zde L p w a)):SInv L p z A l (Zde L p w a):=by
 have H:=Zl0 hw D;have j:=Zl1 (w:=w) (i:=a.O.length) (by omega);have hk:=u.kle;have hm:=u.m;have E:=h.kle;have F:=h.m;have y:(Zde L p w a).O.length=cnt w a.O.length:=u.len;have C:=h.len;refine⟨?_,by rw[y];omega,by rw[y];omega,u.short,?_,⟨by omega,by rw[y];omega⟩,⟨u.ry.1.trans h.ry.1,u.ry.2.trans h.ry.2⟩,Zq6 hw h.parts⟩
 ·have:=u.perm
  rwa [List.drop_of_length_le j,zE]at this
 ·have:=u.lines;rw[zI j]at this;have:=h.lines;omega
theorem ZtS (mem:Int)(l:List Zl):(IH (Ys cS mem l)).flatten=l/\∀ c∈IH (Ys cS mem l),c≠[]:=by
 have h:=ZkV cS mem l;unfold IH;split
 ·rename_i u;have:=h.flat;rw[u,zE]at this;exact⟨this,h.ne⟩
 ·rename_i u;refine⟨by rw[zF];simpa using h.flat,fun c y=>?_⟩;rcases List.mem_append.1 y with j|j
  ·exact h.ne c j
  ·rw[List.mem_singleton.1 j];exact u
theorem Zjg {j:List (List Zl)}(h:∀ c∈j,c≠[]):j.length<=j.flatten.length:=by
 induction j with
 |nil=>simp
 |cons c j y =>
  have z:=y fun d u=>h d (by simp[u]);have A:0<c.length:=List.length_pos_iff.2 (h c (by simp));rw[zD,zC,zL];omega
def Zqo (L:Loc)(p:Spec)(h:List (List Zl)):PSt:=⟨wP L p [] 0 h,wP L p [] 0 h,h.length,wT L p [] 0 ⟨0,0,0,0⟩ h⟩
theorem Zyj (L:Loc)(p:Spec):∀ (r:List (List Zl)) (P:List Pr) (k:Nat) (st:Stt),(wT L p P k st r).r=st.r+r.length/\(wT L p P k st r).m=st.m:=by
 intro r
 induction r with
 |nil=>intro P k st;simp[wT]
 |cons c r u =>
  intro P k st;obtain⟨h,j⟩:=u (P++[Fx L p k c]) (k+1) ⟨st.r+1,st.m,max st.y (XX cS c),max st.k (ZG (P++[Fx L p k c]):Int)⟩;simp only[wT,h,j,zL];refine⟨by omega,trivial⟩
theorem ZpM:∀ (P:List Pr),ZZ P=(P.map (·.2)).flatten.length:=by
 intro P
 induction P with
 |nil=>rfl
 |cons x P h=>rw[zK,zD,zC,<-h];rfl
theorem Zkj (L:Loc)(p:Spec):∀ h:List (List Zl),(h.map (ZM L p)).flatten.length<=h.flatten.length:=by
 intro h
 induction h with
 |nil=>simp
 |cons c h j =>
  have:=Zdk L p c;rw[zK,zD,zC,zD,zC];omega
theorem Zt0 {L:Loc}{p:Spec}{h:List (List Zl)}{l:List Zl}(A:h.flatten=l)(E:∀ c∈h,c≠[])(hl:l.length<=40)(hs:∀ s∈l,s.length<=200) :
 SInv L p (h.length:Int) (wT L p [] 0 ⟨0,0,0,0⟩ h).y l (Zqo L p h):=by
 have C:=Zjg E;rw[A]at C;have j:=Zy1 L p h [] 0;simp only[zV,List.nil_append]at j;have D:=Zy0 L p h [] 0;simp only[List.length_nil,Nat.zero_add]at D;obtain⟨K,M⟩:=Zyj L p h [] 0 ⟨0,0,0,0⟩;refine⟨List.Perm.refl _,?_,?_,?_,?_,?_,⟨by show (wT L p [] 0 ⟨0,0,0,0⟩ h).r=_;rw[K];simp,rfl⟩,h,j,A⟩
 ·show (wP L p [] 0 h).length<=40;omega
 ·show h.length+2*(wP L p [] 0 h).length<=120;omega
 ·intro x H s u;have z:x.2∈(wP L p [] 0 h).map (·.2):=List.mem_map_of_mem H;rw[j]at z;obtain⟨c,F,e⟩:=List.mem_map.1 z;rw[<-e]at u;exact hs s (by rw[<-A];exact List.mem_flatten.2 ⟨c,F,CN L p c s u⟩)
 ·show ZZ (wP L p [] 0 h)<=40;rw[ZpM,j];have:=Zkj L p h;rw[A]at this;omega
 ·show 0<=(wT L p [] 0 ⟨0,0,0,0⟩ h).m/\(wT L p [] 0 ⟨0,0,0,0⟩ h).m+2*((wP L p [] 0 h).length:Int)<=120;rw[M];exact⟨Int.le_refl _,by show (0:Int)+_<=_;omega⟩
theorem EF {H:Hp}{i:Nat}{x:AObj}(h:H[i]?=some x):H.set i x=H:=by
 apply List.ext_getElem?;intro j;by_cases u:i=j
 ·subst u;rw[Zs _ h,h]
 ·rw[List.getElem?_set_ne u]
theorem Zfm (a b c:AV)(H:Hp):Yd cfg (Za cfg) (.fn (.func 44) [] [a,b,c]) [] H=Lw [a,b,c] H:=by kernel_rfl
structure FxAt (H:Hp)(zc sc ec mc cc o:Nat)(mem w:Int)(b:Bool):Prop where
 z:H[zc]?=some (.cells [zZ J mem,zZ J w])
 s:H[sc]?=some (.cells [zZ J 0,zZ J 0,zZ J 0,zZ J 0])
 e:H[ec]?=some (.cells [zZ J 0])
 m:H[mc]?=some (.cells [.ptr o 0])
 c:H[cc]?=some (.cells [.bool b])
theorem FxAt.stp {H H':Hp}{D sc y A u o:Nat}{mem w:Int}{b:Bool}{C:List Nat}(h:FxAt H D sc y A u o mem w b)(hs:Stp C H H')(j:∀ a∈[D,sc,y,A,u],a∉C):FxAt H' D sc y A u o mem w b :=
 ⟨hs.get h.z (j _ (by simp)),hs.get h.s (j _ (by simp)),hs.get h.e (j _ (by simp)),hs.get h.m (j _ (by simp)),hs.get h.c (j _ (by simp))⟩
theorem FxAt.lt {H:Hp}{C sc u A j o:Nat}{mem w:Int}{b:Bool}(h:FxAt H C sc u A j o mem w b):∀ a∈[C,sc,u,A,j],a<H.length:=by
 intro a y;simp only[List.mem_cons,List.not_mem_nil,or_false]at y;rcases y with rfl|rfl|rfl|rfl|rfl
 ·exact Zh h.z
 ·exact Zh h.s
 ·exact Zh h.e
 ·exact Zh h.m
 ·exact Zh h.c
theorem FxAt.e0 {H:Hp}{z sc j y u o:Nat}{mem w:Int}{b:Bool}(h:FxAt H z sc j y u o mem w b):Zb 1 (.ptr j 0) (zZ J 0) H=some (.tuple [],H):=by
 have:=Um h.e 0 (v:=zZ J 0) rfl rfl (by simp);rw[this];congr 2;exact EF h.e
section
variable {o g t:Nat}{L:Loc}{lx cl e:AV}{p:Spec}{xp:AV}{B:List Fil}(hB:BOk B)(hl:LocAV (.agg (L.cells lx cl e)) L)(hok:LocOk L)(hsm:LocSm L)(hs:SpecAV (.agg (p.cells xp)) p)(hks:∀ k∈p.keys,KeOk k)(hkl:p.keys.length<=1048576)
include hB hl hok hsm hs hks hkl
end
def Kq (mem:Int)(l:List Zl):List (List Zl):=IH (Ys cS mem l)
def IY (L:Loc)(p:Spec)(mem:Int)(w:Nat)(l:List Zl):Stt:=(M1 L p w 40 (Zqo L p (Kq mem l))).st
def Pw (st:Stt):AV:=.agg [zZ J st.r,zZ J st.m,zZ J st.y,zZ J st.k]
theorem XS.start {B:List Fil}{pk:Nat}(j:pk<=262144):XS B ⟨UK,[],[],262144,0,false⟩ ⟨262144,pk,B,false,0⟩ [] 0 :=
 ⟨⟨rfl,rfl,rfl,rfl,rfl⟩,(fun x h=>by cases h),⟨rfl,j,by simp[YE],rfl,rfl⟩,by simp,(fun x h=>by cases h),by omega,by simp,by simp,by simp[ZG],(fun x h=>by cases h)⟩
end Go.Am
