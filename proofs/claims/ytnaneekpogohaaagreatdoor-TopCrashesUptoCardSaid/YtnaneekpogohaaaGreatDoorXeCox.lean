/- The number of runs and passes of a sort -/
import Derived.Test.YtnaneekpogohaaaGreatDoorXeQcx
import Derived.Test.YtnaneekpogohaaaGreatDoorXeGXx
import Derived.Test.YtnaneekpogohaaaGreatDoorXeGRx
open Go.Am.AV renaming int->J
open Go.IntKind renaming i64->zZ
open List renaming length_append->zC,flatten_cons->zD,append_nil->zE,flatten_append->zF,getElem?_append_right->zG,take_of_length_le->zI,mapM_cons->zJ,map_cons->zK,length_cons->zL,map_append->zM,map_take->zS,map_drop->zT,any_nil->zU,map_nil->zV
open Nat renaming le_refl->zW,add_mul->zX,one_mul->zY
open Bool renaming false_eq_true->zA,not_true->zH,and_false->zN,false_and->zO,not_false->zP,and_true->zQ,true_and->zR
open Go.Am.AObj renaming cells->zB
namespace Go.Am
set_option linter.unusedSectionVars false
set_option maxRecDepth 100000
abbrev Hz (mem w:Int):Hp:=[.cells [J zZ mem,J zZ w]]
section
variable {mem w:Int}
theorem Mi:Z3 false 1 (.ptr 0 0) (Hz mem w)=some (J zZ mem):=rfl
theorem TG:Z3 false 1 (.ptr 0 1) (Hz mem w)=some (J zZ w):=rfl
theorem ZrL:ZQ (.agg [J zZ mem,J zZ w]) []=some (.ptr 0 0,Hz mem w):=rfl
end
theorem Me (o:Nat):Z6 0 (.ptr o 0)=some (.ptr o 0):=rfl
theorem ZsH (o:Nat):Z6 1 (.ptr o 0)=some (.ptr o 1):=rfl
def FG (mem w:Int):Bool:=decide (64<=mem)&&(decide (mem<=65536)&&(decide (2<=w)&&decide (w<=32)))
theorem ZuY (mem w:Int)(H:Hp)(n f:Nat):Ze H n (f+2) (.agg [J zZ mem,J zZ w])=some (.agg [J zZ mem,J zZ w]):=rfl
theorem ZoZ (mem w:Int)(H:Hp):Zh RT [.agg [J zZ mem,J zZ w]] H=some (.bool (FG mem w),H):=by
 refine U2 (args':=[.agg [J zZ mem,J zZ w]]) (H1:=Hz mem w) rfl ?_ rfl;rw[ZcR];unfold HF;have h:=@Mi mem w;have j:=@TG mem w;unfold FG
 cases u:decide (64<=mem) <;> cases y:decide (mem<=65536) <;> cases z:decide (2<=w) <;> cases A:decide (w<=32) <;>
  simp only[ZrL,go_sem,Me,ZsH,h,j,u,y,z,A,zQ,zN,zR,zO]
theorem ZnH (mem w:Int)(H:Hp):Zh AQ [.agg [J zZ mem,J zZ w]] H=some (.bool (FG mem w),H):=by
 refine U2 (args':=[.agg [J zZ mem,J zZ w]]) (H1:=Hz mem w) rfl ?_ rfl;rw[Zjc];unfold ZfH;have h:=@Mi mem w;have j:=@TG mem w;unfold FG
 cases u:decide (64<=mem) <;> cases y:decide (mem<=65536) <;> cases z:decide (2<=w) <;> cases A:decide (w<=32) <;>
  simp only[ZrL,go_sem,Me,ZsH,h,j,u,y,z,A,zQ,zN,zR,zO]
section
variable {mem w:Int}(hm:64<=mem)(hm2:mem<=65536)(hw:2<=w)(hw2:w<=32)
include hw hw2
include hm hm2
end
theorem ZoW {mem w:Int}(h:FG mem w=true):64<=mem/\mem<=65536/\2<=w/\w<=32:=by
 unfold FG at h;simp only[Bool.and_eq_true,decide_eq_true_eq]at h;exact h
def Kj (l:List Zl):Bool:=l.any fun s=>decide (4096<s.length)
def MH (p:Spec)(mem w:Int)(l:List Zl):Int :=
 if (ZK p != 0)=true then ZK p else if FG mem w=true then (if 8192<l.length then 3 else if Kj l=true then 3 else 0) else 2
theorem ZuV {x:AV}{l:List Zl}(K:SS x l)(N:We l)(hl:l.length<=1048576)(I H:Hp):∀ (r d:List Zl),l=d++r ->
 K9 x (J zZ (l.length:Int)) (J zZ (d.length:Int)) I H=some (J zZ (if Kj r=true then 3 else 0),H):=by
 intro r
 induction r with
 |nil =>
  intro d u;rw[zE]at u;subst u;have h:decide ((l.length:Int)<(l.length:Int))=false:=by simp
  rw[Pq];simp only[go_sem,h,Zcd,Kj,zU,zA,if_false]
 |cons s r M =>
  intro d u;have F:l.length=d.length+(r.length+1):=by rw[u];simp
  have h:decide ((d.length:Int)<(l.length:Int))=true:=by rw[decide_eq_true_eq];omega
  have A:l[d.length]?=some s:=by rw[u,zG (zW _)];simp
  have j:=SS.idx K A;have C:IntKind.i64.wrap ((d.length:Int)+1)=((d++[s]).length:Int):=by rw[Zp (by omega) (by omega)];simp
  have D:=M (d++[s]) (by rw[u];simp);rw[Pq];by_cases E:4096<s.length
  ·have y:decide ((4096:Int)<(s.length:Int))=true:=by rw[decide_eq_true_eq];omega
   have z:Kj (s::r)=true:=by simp[Kj,E]
   simp only[go_sem,h,Pp,j,Zz,y,z,if_true]
  ·have y:decide ((4096:Int)<(s.length:Int))=false:=by rw[decide_eq_false_iff_not];omega
   have z:Kj (s::r)=Kj r:=by simp[Kj,E]
   simp only[go_sem,h,Pp,j,Zz,y,Zce,C,z];exact D
theorem Zsa {x q:AV}{l:List Zl}{p:Spec}(Q:SS x l)(T:We l)(hl:l.length<=1048576)(O:SpecAV q p)(mem w:Int)(t:Nat)(H:Hp) :
 ∃ H',RR [.ptr t 0,q,.agg [J zZ mem,J zZ w],x] H=some (J zZ (MH p mem w l),H')/\Stp [] H H':=by
 have F:=O;obtain⟨xp,rfl,U⟩:=O;have h:Yr (.pointer 82) .eql (.ptr t 0) .nilp=some (.bool false):=rfl;have R:(H++[zB (p.cells xp),.cells [J zZ mem,J zZ w]])[H.length]?=some (.cells (p.cells xp)):=by simp
 have S:(H++[zB (p.cells xp),.cells [J zZ mem,J zZ w]])[H.length+1]?=some (.cells [J zZ mem,J zZ w]):=by simp
 have z:ZQ (.agg [J zZ mem,J zZ w]) (H++[zB (p.cells xp)])=some (.ptr (H.length+1) 0,H++[zB (p.cells xp),.cells [J zZ mem,J zZ w]]):=by rw[Yu];simp
 have M:Stp [] H (H++[zB (p.cells xp),.cells [J zZ mem,J zZ w]]):=Stp.push _ _;have y:=QE R;have A:Z3 true 2 (.ptr (H.length+1) 0) (H++[zB (p.cells xp),.cells [J zZ mem,J zZ w]])=some (.agg [J zZ mem,J zZ w]):=by rw[Yv S];rfl
 generalize H++[zB (p.cells xp),.cells [J zZ mem,J zZ w]]=H1 at z y A M;refine⟨H1,?_,M⟩;have N:=SS.len Q 9;rw[ZcQ];unfold HE MH;have j:=Eb F H1
 cases C:ZK p != 0 with
 |true=>simp only[Yu,go_sem,z,h,Q0,y,j,C,if_true]
 |false =>
  have K:=ZoZ mem w H1
  cases I:FG mem w with
  |false=>simp only[Yu,go_sem,z,h,Q0,y,j,C,Gk,A,K,I,zP,zA,if_false]
  |true =>
   by_cases u:8192<l.length
   ·have D:decide ((8192:Int)<(l.length:Int))=true:=by rw[decide_eq_true_eq];omega
    simp only[Yu,go_sem,z,h,Q0,y,j,C,Gk,A,K,I,zH,zA,if_false,Po,N,D,if_true,if_pos u]
   ·have D:decide ((8192:Int)<(l.length:Int))=false:=by rw[decide_eq_false_iff_not];omega
    have E:=ZuV Q T hl H H1 l [] rfl;simp only[Yu,go_sem,z,h,Q0,y,j,C,Gk,A,K,I,zH,zA,if_false,Po,N,D,if_true,if_neg u,Zcc];exact E
theorem ZtK {x:AV}{l:List Zl}(K:SS x l)(O:We l)(hl:l.length<=1048576)(M H:Hp):∀ (r d:List Zl),l=d++r ->
 Tj x (J zZ (d.length:Int)) M H=some (J zZ (if Kj r=true then 3 else 0),H):=by
 have C:=SS.len K 9;intro r
 induction r with
 |nil =>
  intro d u;rw[zE]at u;subst u;have h:decide ((l.length:Int)<(l.length:Int))=false:=by simp
  rw[HS];simp only[go_sem,C,h,ZhF,Kj,zU,zA,if_false]
 |cons s r N =>
  intro d u;have I:l.length=d.length+(r.length+1):=by rw[u];simp
  have h:decide ((d.length:Int)<(l.length:Int))=true:=by rw[decide_eq_true_eq];omega
  have A:l[d.length]?=some s:=by rw[u,zG (zW _)];simp
  have j:=SS.idx K A;have D:IntKind.i64.wrap ((d.length:Int)+1)=((d++[s]).length:Int):=by rw[Zp (by omega) (by omega)];simp
  have E:=N (d++[s]) (by rw[u];simp);rw[HS];by_cases F:4096<s.length
  ·have y:decide ((4096:Int)<(s.length:Int))=true:=by rw[decide_eq_true_eq];omega
   have z:Kj (s::r)=true:=by simp[Kj,F]
   simp only[go_sem,C,h,HR,j,Zz,y,z,if_true]
  ·have y:decide ((4096:Int)<(s.length:Int))=false:=by rw[decide_eq_false_iff_not];omega
   have z:Kj (s::r)=Kj r:=by simp[Kj,F]
   simp only[go_sem,C,h,HR,j,Zz,y,ZhG,D,z];exact E
theorem ZtJ {x q:AV}{l:List Zl}{p:Spec}(U:SS x l)(S:We l)(hl:l.length<=1048576)(T:SpecAV q p)(mem w:Int)(H:Hp) :
 Zh AP [q,.agg [J zZ mem,J zZ w],x] H=some (J zZ (MH p mem w l),H):=by
 obtain⟨Z,W,O⟩:=T.close [] 0 5;obtain⟨X,R,M⟩:=SS.closed U [] 0 7;have K:=O;obtain⟨xp,rfl,V⟩:=O;have Q:([zB (p.cells xp),.cells [J zZ mem,J zZ w]]:Hp)[0]?=some (.cells (p.cells xp)):=rfl;have Y:([zB (p.cells xp),.cells [J zZ mem,J zZ w]]:Hp)[1]?=some (.cells [J zZ mem,J zZ w]):=rfl;have A:ZQ (.agg (p.cells xp)) []=some (.ptr 0 0,[zB (p.cells xp)]):=rfl;have y:ZQ (.agg [J zZ mem,J zZ w]) [zB (p.cells xp)]=some (.ptr 1 0,[zB (p.cells xp),.cells [J zZ mem,J zZ w]]):=rfl;have u:=QE Q;have z:Z3 true 2 (.ptr 1 0) [zB (p.cells xp),.cells [J zZ mem,J zZ w]]=some (.agg [J zZ mem,J zZ w]):=rfl;generalize ([zB (p.cells xp),.cells [J zZ mem,J zZ w]]:Hp)=H1 at y u z;refine U2 (args':=[.agg (p.cells xp),.agg [J zZ mem,J zZ w],X]) (H1:=H1) (by rw[zJ,W,zJ,ZuY,zJ,R];rfl) ?_ rfl;have N:=SS.len M 9;rw[Zjb];unfold ZfG MH;have h:=ZoK K H1
 cases C:ZK p != 0 with
 |true=>simp only[A,go_sem,y,u,h,C,if_true]
 |false =>
  have I:=ZnH mem w H1
  cases F:FG mem w with
  |false=>simp only[A,go_sem,y,u,h,C,Th,z,I,F,zP,zA,if_false]
  |true =>
   by_cases j:8192<l.length
   ·have D:decide ((8192:Int)<(l.length:Int))=true:=by rw[decide_eq_true_eq];omega
    simp only[A,go_sem,y,u,h,C,Th,z,I,F,zH,zA,if_false,HQ,N,D,if_true,if_pos j]
   ·have D:decide ((8192:Int)<(l.length:Int))=false:=by rw[decide_eq_false_iff_not];omega
    have E:=ZtK M S hl [] H1 l [] rfl;simp only[A,go_sem,y,u,h,C,Th,z,I,F,zH,zA,if_false,HQ,N,D,if_true,if_neg j,ZhE];exact E
theorem Zp4 {p:Spec}{mem w:Int}{l:List Zl}(h:MH p mem w l=0):ZK p=0/\(64<=mem/\mem<=65536/\2<=w/\w<=32):=by
 unfold MH at h
 cases j:ZK p != 0 with
 |true =>
  rw[if_pos j]at h;simp[h]at j
 |false =>
  rw[if_neg (by rw[j];simp)]at h
  cases u:FG mem w with
  |false=>rw[u]at h;simp at h
  |true=>exact⟨by simpa using j,ZoW u⟩
def Zet (L:Loc)(p:Spec)(w:Nat)(a:PSt):PSt:=YM L p w a.O (cnt w a.O.length) ⟨[],a.P,a.k,a.st⟩
def L6 (L:Loc)(p:Spec)(w:Nat):Nat->PSt->PSt
 |0,a=>a
 |f+1,a=>if w<a.O.length then L6 L p w f (Zet L p w a) else a
def Zjk (L:Loc)(p:Spec)(O:List Pr)(l:List Zl):Prop:=∃ h:List (List Zl),O.map (·.2)=h.map (ZO L p)/\h.flatten=l
theorem ZyL (L:Loc)(p:Spec)(k:Nat)(G:List Pr)(Q:List (List Zl))(h:G.map (·.2)=Q.map (ZO L p))(u:G≠[]):(gN L p k G).2=ZO L p Q.flatten:=by
 have j:QI L p (G.map (·.2))=ZO L p Q.flatten:=by rw[h];exact Zer Q
 cases G with
 |nil=>exact absurd rfl u
 |cons x r =>
  cases r with
  |nil =>
   cases Q with
   |nil=>simp at h
   |cons c r =>
    cases r with
    |nil =>
     have:x.2=ZO L p c:=by simpa using h
     show x.2=_;rw[this];simp
    |cons d r=>simp at h
  |cons y r=>exact j
theorem Zr6 {L:Loc}{p:Spec}{w:Nat}(hw:2<=w){R:List Pr}{u:List (List Zl)}(D:R.map (·.2)=u.map (ZO L p))(P0:List Pr)(k0:Nat)(j:Stt):∀ q,(∀ i<q,i*w<R.length) ->
 ∃ y:List (List Zl),(YM L p w R q ⟨[],P0,k0,j⟩).O.map (·.2)=y.map (ZO L p)/\y.flatten=(u.take (q*w)).flatten:=by
 intro q
 induction q with
 |zero=>intro _;exact⟨[],rfl,by simp⟩
 |succ q F =>
  intro h;obtain⟨y,z,A⟩:=F fun i hi=>h i (by omega)
  have C:(X2 w R q).map (·.2)=((u.drop (q*w)).take w).map (ZO L p):=by
   unfold X2;rw[zS,zT,D,<-zT,<-zS]
  have E:=ZyL L p (YM L p w R q ⟨[],P0,k0,j⟩).k _ _ C (ZjF hw (h q (by omega)));refine⟨y++[((u.drop (q*w)).take w).flatten],?_,?_⟩
  ·show ((YM L p w R q ⟨[],P0,k0,j⟩).O++[gN L p (YM L p w R q ⟨[],P0,k0,j⟩).k (X2 w R q)]).map (fun x:Pr=>x.2)=_;rw[zM,z,zM];simp only[zK,zV,E]
  ·rw[zF,A,zX,zY,List.take_add,zF];simp
theorem Zr5 {L:Loc}{p:Spec}{w:Nat}(hw:2<=w){a:PSt}{l:List Zl}(h:Zjk L p a.O l):Zjk L p (Zet L p w a).O l:=by
 obtain⟨u,j,z⟩:=h
 have hl:u.length=a.O.length:=by
  have:=congrArg List.length j;simpa using this.symm
 obtain⟨y,A,C⟩:=Zr6 (L:=L) (p:=p) hw j a.P a.k a.st (cnt w a.O.length) fun i hi=>ZdD (by omega) hi;refine⟨y,A,?_⟩;rw[C,zI (by rw[hl];exact Zm6 (by omega)),z]
structure SInv (L:Loc)(p:Spec)(r0 y0:Int)(l:List Zl)(a:PSt):Prop where
 perm:a.P.Perm a.O
 len:a.O.length<=40
 kle:a.k+2*a.O.length<=120
 short:ShortP a.O
 lines:ZZ a.O<=40
 m:0<=a.st.m/\a.st.m+2*a.O.length<=120
 ry:a.st.r=r0/\a.st.y=y0
 parts:Zjk L p a.O l
theorem Zm5 {w n:Nat}(hw:2<=w)(y:w<n):3*cnt w n<=2*n:=by
 have h:cnt w n*w<=n+w-1:=Nat.div_mul_le_self (n+w-1) w
 cases j:cnt w n with
 |zero=>omega
 |succ d =>
  rw[j,zX,zY]at h;have u:d*2<=d*w:=Nat.mul_le_mul_left _ hw;omega
theorem PInv.sinv {L:Loc}{p:Spec}{w:Nat}(hw:2<=w){z A:Int}{l:List Zl}{a:PSt}(h:SInv L p z A l a)(D:w<a.O.length)(u:PInv w a.O a.k a.st (cnt w a.O.length) (Zet L p w a)):SInv L p z A l (Zet L p w a):=by
 have H:=Zm5 hw D;have j:=Zm6 (w:=w) (i:=a.O.length) (by omega);have hk:=u.kle;have hm:=u.m;have E:=h.kle;have F:=h.m;have y:(Zet L p w a).O.length=cnt w a.O.length:=u.len;have C:=h.len;refine⟨?_,by rw[y];omega,by rw[y];omega,u.short,?_,⟨by omega,by rw[y];omega⟩,⟨u.ry.1.trans h.ry.1,u.ry.2.trans h.ry.2⟩,Zr5 hw h.parts⟩
 ·have:=u.perm
  rwa [List.drop_of_length_le j,zE]at this
 ·have:=u.lines;rw[zI j]at this;have:=h.lines;omega
theorem ZuW (mem:Int)(l:List Zl):(Zah (Yy cS mem l)).flatten=l/\∀ c∈Zah (Yy cS mem l),c≠[]:=by
 have h:=Zm0 cS mem l;unfold Zah;split
 ·rename_i u;have:=h.flat;rw[u,zE]at this;exact⟨this,h.ne⟩
 ·rename_i u;refine⟨by rw[zF];simpa using h.flat,fun c y=>?_⟩;rcases List.mem_append.1 y with j|j
  ·exact h.ne c j
  ·rw[List.mem_singleton.1 j];exact u
theorem Zki {j:List (List Zl)}(h:∀ c∈j,c≠[]):j.length<=j.flatten.length:=by
 induction j with
 |nil=>simp
 |cons c j y =>
  have z:=y fun d u=>h d (by simp[u]);have A:0<c.length:=List.length_pos_iff.2 (h c (by simp));rw[zD,zC,zL];omega
def Zrm (L:Loc)(p:Spec)(h:List (List Zl)):PSt:=⟨wP L p [] 0 h,wP L p [] 0 h,h.length,wT L p [] 0 ⟨0,0,0,0⟩ h⟩
theorem Zzs (L:Loc)(p:Spec):∀ (r:List (List Zl)) (P:List Pr) (k:Nat) (st:Stt),(wT L p P k st r).r=st.r+r.length/\(wT L p P k st r).m=st.m:=by
 intro r
 induction r with
 |nil=>intro P k st;simp[wT]
 |cons c r u =>
  intro P k st;obtain⟨h,j⟩:=u (P++[Ri L p k c]) (k+1) ⟨st.r+1,st.m,max st.y (W5 cS c),max st.k (ZG (P++[Ri L p k c]):Int)⟩;simp only[wT,h,j,zL];refine⟨by omega,trivial⟩
theorem ZqL:∀ (P:List Pr),ZZ P=(P.map (·.2)).flatten.length:=by
 intro P
 induction P with
 |nil=>rfl
 |cons x P h=>rw[zK,zD,zC,<-h];rfl
theorem Zln (L:Loc)(p:Spec):∀ h:List (List Zl),(h.map (ZO L p)).flatten.length<=h.flatten.length:=by
 intro h
 induction h with
 |nil=>simp
 |cons c h j =>
  have:=Zez L p c;rw[zK,zD,zC,zD,zC];omega
theorem Zu4 {L:Loc}{p:Spec}{h:List (List Zl)}{l:List Zl}(A:h.flatten=l)(E:∀ c∈h,c≠[])(hl:l.length<=40)(hs:∀ s∈l,s.length<=200) :
 SInv L p (h.length:Int) (wT L p [] 0 ⟨0,0,0,0⟩ h).y l (Zrm L p h):=by
 have C:=Zki E;rw[A]at C;have j:=Zza L p h [] 0;simp only[zV,List.nil_append]at j;have D:=Zz9 L p h [] 0;simp only[List.length_nil,Nat.zero_add]at D;obtain⟨I,K⟩:=Zzs L p h [] 0 ⟨0,0,0,0⟩;refine⟨List.Perm.refl _,?_,?_,?_,?_,?_,⟨by show (wT L p [] 0 ⟨0,0,0,0⟩ h).r=_;rw[I];simp,rfl⟩,h,j,A⟩
 ·show (wP L p [] 0 h).length<=40;omega
 ·show h.length+2*(wP L p [] 0 h).length<=120;omega
 ·intro x H s u;have z:x.2∈(wP L p [] 0 h).map (·.2):=List.mem_map_of_mem H;rw[j]at z;obtain⟨c,F,e⟩:=List.mem_map.1 z;rw[<-e]at u;exact hs s (by rw[<-A];exact List.mem_flatten.2 ⟨c,F,AC L p c s u⟩)
 ·show ZZ (wP L p [] 0 h)<=40;rw[ZqL,j];have:=Zln L p h;rw[A]at this;omega
 ·show 0<=(wT L p [] 0 ⟨0,0,0,0⟩ h).m/\(wT L p [] 0 ⟨0,0,0,0⟩ h).m+2*((wP L p [] 0 h).length:Int)<=120;rw[K];exact⟨Int.le_refl _,by show (0:Int)+_<=_;omega⟩
theorem Ch {H:Hp}{i:Nat}{x:AObj}(h:H[i]?=some x):H.set i x=H:=by
 apply List.ext_getElem?;intro j;by_cases u:i=j
 ·subst u;rw[Zq _ h,h]
 ·rw[List.getElem?_set_ne u]
theorem Zgy (a b c:AV)(H:Hp):Yf cfg (Zb cfg) (.fn (.func 44) [] [a,b,c]) [] H=EQ [a,b,c] H:=by kernel_rfl
structure FxAt (H:Hp)(zc sc ec mc cc o:Nat)(mem w:Int)(b:Bool):Prop where
 z:H[zc]?=some (.cells [J zZ mem,J zZ w])
 s:H[sc]?=some (.cells [J zZ 0,J zZ 0,J zZ 0,J zZ 0])
 e:H[ec]?=some (.cells [J zZ 0])
 m:H[mc]?=some (.cells [.ptr o 0])
 c:H[cc]?=some (.cells [.bool b])
theorem FxAt.stp {H H':Hp}{D sc y A u o:Nat}{mem w:Int}{b:Bool}{C:List Nat}(h:FxAt H D sc y A u o mem w b)(hs:Stp C H H')(j:∀ a∈[D,sc,y,A,u],a∉C):FxAt H' D sc y A u o mem w b :=
 ⟨hs.get h.z (j _ (by simp)),hs.get h.s (j _ (by simp)),hs.get h.e (j _ (by simp)),hs.get h.m (j _ (by simp)),hs.get h.c (j _ (by simp))⟩
theorem FxAt.lt {H:Hp}{C sc u A j o:Nat}{mem w:Int}{b:Bool}(h:FxAt H C sc u A j o mem w b):∀ a∈[C,sc,u,A,j],a<H.length:=by
 intro a y;simp only[List.mem_cons,List.not_mem_nil,or_false]at y;rcases y with rfl|rfl|rfl|rfl|rfl
 ·exact Zg h.z
 ·exact Zg h.s
 ·exact Zg h.e
 ·exact Zg h.m
 ·exact Zg h.c
theorem FxAt.e0 {H:Hp}{z sc j y u o:Nat}{mem w:Int}{b:Bool}(h:FxAt H z sc j y u o mem w b):Za 1 (.ptr j 0) (J zZ 0) H=some (.tuple [],H):=by
 have:=V9 h.e 0 (v:=J zZ 0) rfl rfl (by simp);rw[this];congr 2;exact Ch h.e
section
variable {o g t:Nat}{L:Loc}{lx cl e:AV}{p:Spec}{xp:AV}{B:List Fil}(hB:BOk B)(hl:LocAV (.agg (L.cells lx cl e)) L)(hok:LocOk L)(hsm:LocSm L)(hs:SpecAV (.agg (p.cells xp)) p)(hks:∀ k∈p.keys,KeOk k)(hkl:p.keys.length<=1048576)
include hB hl hok hsm hs hks hkl
end
def Ga (mem:Int)(l:List Zl):List (List Zl):=Zah (Yy cS mem l)
def ZyI (L:Loc)(p:Spec)(mem:Int)(w:Nat)(l:List Zl):Stt:=(L6 L p w 40 (Zrm L p (Ga mem l))).st
def CB (st:Stt):AV:=.agg [J zZ st.r,J zZ st.m,J zZ st.y,J zZ st.k]
theorem XS.start {B:List Fil}{pk:Nat}(j:pk<=262144):XS B ⟨Wu,[],[],262144,0,false⟩ ⟨262144,pk,B,false,0⟩ [] 0 :=
 ⟨⟨rfl,rfl,rfl,rfl,rfl⟩,(fun x h=>by cases h),⟨rfl,j,by simp[YG],rfl,rfl⟩,by simp,(fun x h=>by cases h),by omega,by simp,by simp,by simp[ZG],(fun x h=>by cases h)⟩
end Go.Am
