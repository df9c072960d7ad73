/- The number of runs and passes of a sort -/
import Derived.Test.YtmclihijlmlpkaaGreatDoorXeRex
import Derived.Test.YtmclihijlmlpkaaGreatDoorXeGXx
import Derived.Test.YtmclihijlmlpkaaGreatDoorXeGRx
open Option renaming some->Z
open Bool renaming true->I,false->K
open List renaming length->N
open Go.db renaming cn->Y
open Go.Am.AV renaming int->J
open Go.IntKind renaming i64->X
open List renaming mem_singleton->zB,mem_append->zD,mem_cons->zF,length_append->zG,flatten_cons->zH,map_cons->zI,not_mem_nil->zJ,append_nil->zK,flatten_append->zL,getElem?_append_right->zM,getElem?_cons_zero->zO,getElem?_cons_succ->zP,take_of_length_le->zQ,nodup_cons->zR,mem_append_right->zS,mapM_cons->zT,length_cons->zU,mem_flatten->zV,map_append->zW,length_map->zX,nodup_nil->yB,map_take->yE,map_drop->yF,any_nil->yG,map_nil->yH,mem_map->yI,set->yJ
open Nat renaming zero_add->zE,le_refl->yK,add_mul->yL,one_mul->yM
open Bool renaming false_eq_true->zC,not_true->zN,and_false->zY,false_and->zZ,not_false->yA,and_true->yC,true_and->yD
open Int renaming le_refl->yN
open Go.Am.AObj renaming cells->zA
namespace Go.Am
set_option linter.unusedSectionVars false
set_option maxRecDepth 100000
abbrev Hz (mem w:Int):Hp:=[.cells [J X mem,J X w]]
section
variable {mem w:Int}
theorem Is:Z2 K 1 (.ptr 0 0) (Hz mem w)=Z (J X mem):=rfl
theorem DR:Z2 K 1 (.ptr 0 1) (Hz mem w)=Z (J X w):=rfl
theorem hza:Z2 I 2 (.ptr 0 0) (Hz mem w)=Z (.agg [J X mem,J X w]):=rfl
theorem ZmQ:ZF (.agg [J X mem,J X w]) []=Z (.ptr 0 0,Hz mem w):=rfl
end
theorem cM (o:Nat):Z8 0 (.ptr o 0)=Z (.ptr o 0):=rfl
theorem Zi1 (o:Nat):Z8 1 (.ptr o 0)=Z (.ptr o 1):=rfl
def Gx (mem w:Int):Bool:=decide (64<=mem)&&(decide (mem<=65536)&&(decide (2<=w)&&decide (w<=32)))
theorem Zwv (mem w:Int)(H:Hp)(n f:Nat):Zh H n (f+2) (.agg [J X mem,J X w])=Z (.agg [J X mem,J X w]):=rfl
theorem Zeo (mem w:Int)(H:Hp):Ze KA [.agg [J X mem,J X w]] H=Z (.bool (Gx mem w),H):=by
 refine Xi (args':=[.agg [J X mem,J X w]]) (H1:=Hz mem w) rfl ?_ rfl;rw[nS];unfold Aq;have h:=@Is mem w;have j:=@DR mem w;unfold Gx
 cases u:decide (64<=mem) <;> cases y:decide (mem<=65536) <;> cases z:decide (2<=w) <;> cases A:decide (w<=32) <;>
  simp only[ZmQ,go_sem,cM,Zi1,h,j,u,y,z,A,yC,zY,yD,zZ]
theorem ZoK (mem w:Int)(H:Hp):Ze O1 [.agg [J X mem,J X w]] H=Z (.bool (Gx mem w),H):=by
 refine Xi (args':=[.agg [J X mem,J X w]]) (H1:=Hz mem w) rfl ?_ rfl;rw[Zjq];unfold Zdm;have h:=@Is mem w;have j:=@DR mem w;unfold Gx
 cases u:decide (64<=mem) <;> cases y:decide (mem<=65536) <;> cases z:decide (2<=w) <;> cases A:decide (w<=32) <;>
  simp only[ZmQ,go_sem,cM,Zi1,h,j,u,y,z,A,yC,zY,yD,zZ]
section
variable {mem w:Int}(hm:64<=mem)(hm2:mem<=65536)(hw:2<=w)(hw2:w<=32)
include hw hw2
include hm hm2
end
theorem Zq3 {mem w:Int}(h:Gx mem w=I):64<=mem/\mem<=65536/\2<=w/\w<=32:=by
 unfold Gx at h;simp only[Bool.and_eq_true,decide_eq_true_eq]at h;exact h
def JI (l:List Zi):Bool:=l.any λs=>decide (4096<N s)
def Wb (p:Spec)(mem w:Int)(l:List Zi):Int :=
 if (ZP p != 0)=I then ZP p else if Gx mem w=I then (if 8192<N l then 3 else if JI l=I then 3 else 0) else 2
theorem Zwt {x:AV}{l:List Zi}(M:SS x l)(Q:YE l)(hl:N l<=1048576)(H0 H:Hp):∀ (r d:List Zi),l=d++r ->
 JC x (J X (N l:Int)) (J X (N d:Int)) H0 H=Z (J X (if JI r=I then 3 else 0),H):=by
 intro r
 induction r with
 |nil =>
  intro d u;rw[zK]at u;subst u;have h:decide ((N l:Int)<(N l:Int))=K:=Y
  rw[Px];simp only[go_sem,h,lW,JI,yG,zC,if_false]
 |cons s r O =>
  intro d u;have F:N l=N d+(N r+1):=by rw[u];simp
  have h:decide ((N d:Int)<(N l:Int))=I:=by rw[decide_eq_true_eq];omega
  have A:l[N d]?=Z s:=by rw[u,zM (yK _)];simp
  have j:=SS.idx M A;have C:IntKind.i64.wrap ((N d:Int)+1)=((d++[s]).length:Int):=by rw[Zo cm cm];simp
  have D:=O (d++[s]) (by rw[u];simp);rw[Px];by_cases E:4096<N s
  ·have y:decide ((4096:Int)<(N s:Int))=I:=by rw[decide_eq_true_eq];omega
   have z:JI (s::r)=I:=by simp[JI,E]
   simp only[go_sem,h,Pw,j,Zu,y,z,if_true]
  ·have y:decide ((4096:Int)<(N s:Int))=K:=by rw[decide_eq_false_iff_not];omega
   have z:JI (s::r)=JI r:=by simp[JI,E]
   simp only[go_sem,h,Pw,j,Zu,y,lX,C,z];exact D
theorem Zl2 {x q:AV}{l:List Zi}{p:Spec}(T:SS x l)(hL:YE l)(hl:N l<=1048576)(S:SpecAV q p)(mem w:Int)(t:Nat)(H:Hp) :
 ∃ H',RI [.ptr t 0,q,.agg [J X mem,J X w],x] H=Z (J X (Wb p mem w l),H')/\Stp [] H H':=by
 have F:=S;obtain⟨xp,rfl,aa⟩:=S;have h:YJ (.pointer 67) .eql (.ptr t 0) .nilp=Z (.bool K):=rfl;have g1:(H++[zA (p.cells xp),.cells [J X mem,J X w]])[N H]?=Z (.cells (p.cells xp)):=Y
 have g2:(H++[zA (p.cells xp),.cells [J X mem,J X w]])[N H+1]?=Z (.cells [J X mem,J X w]):=Y
 have z:ZF (.agg [J X mem,J X w]) (H++[zA (p.cells xp)])=Z (.ptr (N H+1) 0,H++[zA (p.cells xp),.cells [J X mem,J X w]]):=by rw[ZW];simp
 have Q:Stp [] H (H++[zA (p.cells xp),.cells [J X mem,J X w]]):=Stp.push _ _;have y:=X6 g1;have A:Z2 I 2 (.ptr (N H+1) 0) (H++[zA (p.cells xp),.cells [J X mem,J X w]])=Z (.agg [J X mem,J X w]):=by rw[Yk g2];rfl
 generalize H++[zA (p.cells xp),.cells [J X mem,J X w]]=H1 at z y A Q;refine⟨H1,?_,Q⟩;have R:=SS.len T 9;rw[nR];unfold Ap Wb;have j:=EN F H1
 cases C:ZP p != 0 with
 |true=>simp only[ZW,go_sem,z,h,UC,y,j,C,if_true]
 |false =>
  have O:=Zeo mem w H1
  cases M:Gx mem w with
  |false=>simp only[ZW,go_sem,z,h,UC,y,j,C,Kw,A,O,M,yA,zC,if_false]
  |true =>
   by_cases u:8192<N l
   ·have D:decide ((8192:Int)<(N l:Int))=I:=by rw[decide_eq_true_eq];omega
    simp only[ZW,go_sem,z,h,UC,y,j,C,Kw,A,O,M,zN,zC,if_false,Pv,R,D,if_true,if_pos u]
   ·have D:decide ((8192:Int)<(N l:Int))=K:=by rw[decide_eq_false_iff_not];omega
    have E:=Zwt T hL hl H H1 l [] rfl;simp only[ZW,go_sem,z,h,UC,y,j,C,Kw,A,O,M,zN,zC,if_false,Pv,R,D,if_true,if_neg u,lV];exact E
theorem Zva {x:AV}{l:List Zi}(O:SS x l)(R:YE l)(hl:N l<=1048576)(H0 H:Hp):∀ (r d:List Zi),l=d++r ->
 To x (J X (N d:Int)) H0 H=Z (J X (if JI r=I then 3 else 0),H):=by
 have C:=SS.len O 9;intro r
 induction r with
 |nil =>
  intro d u;rw[zK]at u;subst u;have h:decide ((N l:Int)<(N l:Int))=K:=Y
  rw[AO];simp only[go_sem,C,h,Zhi,JI,yG,zC,if_false]
 |cons s r Q =>
  intro d u;have M:N l=N d+(N r+1):=by rw[u];simp
  have h:decide ((N d:Int)<(N l:Int))=I:=by rw[decide_eq_true_eq];omega
  have A:l[N d]?=Z s:=by rw[u,zM (yK _)];simp
  have j:=SS.idx O A;have D:IntKind.i64.wrap ((N d:Int)+1)=((d++[s]).length:Int):=by rw[Zo cm cm];simp
  have E:=Q (d++[s]) (by rw[u];simp);rw[AO];by_cases F:4096<N s
  ·have y:decide ((4096:Int)<(N s:Int))=I:=by rw[decide_eq_true_eq];omega
   have z:JI (s::r)=I:=by simp[JI,F]
   simp only[go_sem,C,h,AN,j,Zu,y,z,if_true]
  ·have y:decide ((4096:Int)<(N s:Int))=K:=by rw[decide_eq_false_iff_not];omega
   have z:JI (s::r)=JI r:=by simp[JI,F]
   simp only[go_sem,C,h,AN,j,Zu,y,Zhj,D,z];exact E
theorem Zv9 {x q:AV}{l:List Zi}{p:Spec}(hx:SS x l)(hL:YE l)(hl:N l<=1048576)(hq:SpecAV q p)(mem w:Int)(H:Hp) :
 Ze O0 [q,.agg [J X mem,J X w],x] H=Z (J X (Wb p mem w l),H):=by
 obtain⟨q',k1,S⟩:=hq.close [] 0 5;obtain⟨x',h1,Q⟩:=SS.closed hx [] 0 7;have O:=S;obtain⟨xp,rfl,aa⟩:=S;have T:([zA (p.cells xp),.cells [J X mem,J X w]]:Hp)[0]?=Z (.cells (p.cells xp)):=rfl;have g2:([zA (p.cells xp),.cells [J X mem,J X w]]:Hp)[1]?=Z (.cells [J X mem,J X w]):=rfl;have A:ZF (.agg (p.cells xp)) []=Z (.ptr 0 0,[zA (p.cells xp)]):=rfl;have y:ZF (.agg [J X mem,J X w]) [zA (p.cells xp)]=Z (.ptr 1 0,[zA (p.cells xp),.cells [J X mem,J X w]]):=rfl;have u:=X6 T;have z:Z2 I 2 (.ptr 1 0) [zA (p.cells xp),.cells [J X mem,J X w]]=Z (.agg [J X mem,J X w]):=rfl;generalize ([zA (p.cells xp),.cells [J X mem,J X w]]:Hp)=H1 at y u z;refine Xi (args':=[.agg (p.cells xp),.agg [J X mem,J X w],x']) (H1:=H1) (by rw[zT,k1,zT,Zwv,zT,h1];rfl) ?_ rfl;have R:=SS.len Q 9;rw[Zjp];unfold Zdl Wb;have h:=Ml O H1
 cases C:ZP p != 0 with
 |true=>simp only[A,go_sem,y,u,h,C,if_true]
 |false =>
  have M:=ZoK mem w H1
  cases F:Gx mem w with
  |false=>simp only[A,go_sem,y,u,h,C,Tm,z,M,F,yA,zC,if_false]
  |true =>
   by_cases j:8192<N l
   ·have D:decide ((8192:Int)<(N l:Int))=I:=by rw[decide_eq_true_eq];omega
    simp only[A,go_sem,y,u,h,C,Tm,z,M,F,zN,zC,if_false,AM,R,D,if_true,if_pos j]
   ·have D:decide ((8192:Int)<(N l:Int))=K:=by rw[decide_eq_false_iff_not];omega
    have E:=Zva Q hL hl [] H1 l [] rfl;simp only[A,go_sem,y,u,h,C,Tm,z,M,F,zN,zC,if_false,AM,R,D,if_true,if_neg j,Zhh];exact E
theorem Zkk {p:Spec}{mem w:Int}{l:List Zi}(h:Wb p mem w l=0):ZP p=0/\(64<=mem/\mem<=65536/\2<=w/\w<=32):=by
 unfold Wb at h
 cases j:ZP p != 0 with
 |true =>
  rw[if_pos j]at h;simp[h]at j
 |false =>
  rw[if_neg (by rw[j];simp)]at h
  cases u:Gx mem w with
  |false=>rw[u]at h;simp at h
  |true=>exact⟨by simpa using j,Zq3 u⟩
def Gp (L:Loc)(p:Spec)(w:Nat)(a:PSt):PSt:=Yl L p w a.O (Yi w (N a.O)) ⟨[],a.P,a.k,a.st⟩
def JM (L:Loc)(p:Spec)(w:Nat):Nat->PSt->PSt
 |0,a=>a
 |f+1,a=>if w<N a.O then JM L p w f (Gp L p w a) else a
def ZjC (L:Loc)(p:Spec)(O:List Pr)(l:List Zi):Prop:=∃ h:List (List Zi),O.map (·.2)=h.map (ZX L p)/\h.flatten=l
theorem ZzZ (L:Loc)(p:Spec)(k:Nat)(G:List Pr)(Q:List (List Zi))(h:G.map (·.2)=Q.map (ZX L p))(u:G≠[]):(gN L p k G).2=ZX L p Q.flatten:=by
 have j:YS L p (G.map (·.2))=ZX L p Q.flatten:=by rw[h];exact Zbw Q
 cases G with
 |nil=>exact absurd rfl u
 |cons x r =>
  cases r with
  |nil =>
   cases Q with
   |nil=>simp at h
   |cons c r =>
    cases r with
    |nil =>
     have:x.2=ZX L p c:=by simpa using h
     show x.2=_;rw[this];simp
    |cons d r=>simp at h
  |cons y r=>exact j
theorem Zsn {L:Loc}{p:Spec}{w:Nat}(hw:2<=w){R:List Pr}{j:List (List Zi)}(C:R.map (·.2)=j.map (ZX L p))(P0:List Pr)(k0:Nat)(st0:Stt):∀ q,(∀ i<q,i*w<N R) ->
 ∃ u:List (List Zi),(Yl L p w R q ⟨[],P0,k0,st0⟩).O.map (·.2)=u.map (ZX L p)/\u.flatten=(j.take (q*w)).flatten:=by
 intro q
 induction q with
 |zero=>intro _;exact⟨[],rfl,Y⟩
 |succ q E =>
  intro h;obtain⟨u,y,z⟩:=E λi hi=>h i cm
  have A:(Yy w R q).map (·.2)=((j.drop (q*w)).take w).map (ZX L p):=by
   unfold Yy;rw[yE,yF,C,<-yF,<-yE]
  have D:=ZzZ L p (Yl L p w R q ⟨[],P0,k0,st0⟩).k _ _ A (Zc0 hw (h q cm));refine⟨u++[((j.drop (q*w)).take w).flatten],?_,?_⟩
  ·show ((Yl L p w R q ⟨[],P0,k0,st0⟩).O++[gN L p (Yl L p w R q ⟨[],P0,k0,st0⟩).k (Yy w R q)]).map (λx:Pr=>x.2)=_;rw[zW,y,zW];simp only[zI,yH,D]
  ·rw[zL,z,yL,yM,List.take_add,zL];simp
theorem Zsm {L:Loc}{p:Spec}{w:Nat}(hw:2<=w){a:PSt}{l:List Zi}(h:ZjC L p a.O l):ZjC L p (Gp L p w a).O l:=by
 obtain⟨u,j,z⟩:=h
 have hl:N u=N a.O:=by
  have:=congrArg List.length j;simpa using this.symm
 obtain⟨y,A,C⟩:=Zsn (L:=L) (p:=p) hw j a.P a.k a.st (Yi w (N a.O)) λi hi=>Gg cm hi;refine⟨y,A,?_⟩;rw[C,zQ (by rw[hl];exact fC cm),z]
structure SInv (L:Loc)(p:Spec)(r0 y0:Int)(l:List Zi)(a:PSt):Prop where
 perm:a.P.Perm a.O
 len:N a.O<=40
 kle:a.k+2*N a.O<=120
 short:ShortP a.O
 lines:ZS a.O<=40
 m:0<=a.st.m/\a.st.m+2*N a.O<=120
 ry:a.st.r=r0/\a.st.y=y0
 parts:ZjC L p a.O l
theorem Zfo {w n:Nat}(hw:2<=w)(y:w<n):3*Yi w n<=2*n:=by
 have h:Yi w n*w<=n+w-1:=Nat.div_mul_le_self (n+w-1) w
 cases j:Yi w n with
 |zero=>omega
 |succ d =>
  rw[j,yL,yM]at h;have u:d*2<=d*w:=Nat.mul_le_mul_left _ hw;omega
theorem PInv.sinv {L:Loc}{p:Spec}{w:Nat}(hw:2<=w){z A:Int}{l:List Zi}{a:PSt}(h:SInv L p z A l a)(D:w<N a.O)(u:PInv w a.O a.k a.st (Yi w (N a.O)) (Gp L p w a)):SInv L p z A l (Gp L p w a):=by
 have H:=Zfo hw D;have j:=fC (w:=w) (i:=N a.O) cm;have M:=u.kle;have hm:=u.m;have E:=h.kle;have F:=h.m;have y:(Gp L p w a).O.length=Yi w (N a.O):=u.len;have C:=h.len;refine⟨?_,by rw[y];omega,by rw[y];omega,u.short,?_,⟨cm,by rw[y];omega⟩,⟨u.ry.1.trans h.ry.1,u.ry.2.trans h.ry.2⟩,Zsm hw h.parts⟩
 ·have:=u.perm
  rwa [List.drop_of_length_le j,zK]at this
 ·have:=u.lines;rw[zQ j]at this;have:=h.lines;omega
theorem Zn6 (mem:Int)(l:List Zi):(Ty (ZV cS mem l)).flatten=l/\∀ c∈Ty (ZV cS mem l),c≠[]:=by
 have h:=ZhI cS mem l;unfold Ty;split
 ·rename_i u;have:=h.flat;rw[u,zK]at this;exact⟨this,h.ne⟩
 ·rename_i u;refine⟨by rw[zL];simpa using h.flat,λc y=>?_⟩;rcases zD.1 y with j|j
  ·exact h.ne c j
  ·rw[zB.1 j];exact u
theorem Zb3 {j:List (List Zi)}(h:∀ c∈j,c≠[]):N j<=N j.flatten:=by
 induction j with
 |nil=>simp
 |cons c j y =>
  have z:=y λd u=>h d (by simp[u]);have A:0<N c:=List.length_pos_iff.2 (h c Y);rw[zH,zG,zU];omega
def B7 (L:Loc)(p:Spec)(h:List (List Zi)):PSt:=⟨wP L p [] 0 h,wP L p [] 0 h,N h,wT L p [] 0 ⟨0,0,0,0⟩ h⟩
theorem Zyq (L:Loc)(p:Spec):∀ (r:List (List Zi)) (P:List Pr) (k:Nat) (st:Stt),(wT L p P k st r).r=st.r+N r/\(wT L p P k st r).m=st.m:=by
 intro r
 induction r with
 |nil=>intro P k st;simp[wT]
 |cons c r u =>
  intro P k st;obtain⟨h,j⟩:=u (P++[W3 L p k c]) (k+1) ⟨st.r+1,st.m,max st.y (Yj cS c),max st.k (ZG (P++[W3 L p k c]):Int)⟩;simp only[wT,h,j,zU];refine⟨cm,trivial⟩
theorem ZrZ:∀ (P:List Pr),ZS P=(P.map (·.2)).flatten.length:=by
 intro P
 induction P with
 |nil=>rfl
 |cons x P h=>rw[zI,zH,zG,<-h];rfl
theorem Zmn (L:Loc)(p:Spec):∀ h:List (List Zi),(h.map (ZX L p)).flatten.length<=N h.flatten:=by
 intro h
 induction h with
 |nil=>simp
 |cons c h j =>
  have:=IJ L p c;rw[zI,zH,zG,zH,zG];omega
theorem ZlJ {L:Loc}{p:Spec}{h:List (List Zi)}{l:List Zi}(A:h.flatten=l)(E:∀ c∈h,c≠[])(hl:N l<=40)(hs:∀ s∈l,N s<=200) :
 SInv L p (N h:Int) (wT L p [] 0 ⟨0,0,0,0⟩ h).y l (B7 L p h):=by
 have C:=Zb3 E;rw[A]at C;have j:=ZAr L p h [] 0;simp only[yH,List.nil_append]at j;have D:=ZAp L p h [] 0;simp only[List.length_nil,zE]at D;obtain⟨M,O⟩:=Zyq L p h [] 0 ⟨0,0,0,0⟩;refine⟨List.Perm.refl _,?_,?_,?_,?_,?_,⟨by show (wT L p [] 0 ⟨0,0,0,0⟩ h).r=_;rw[M];simp,rfl⟩,h,j,A⟩
 ·show (wP L p [] 0 h).length<=40;omega
 ·show N h+2*(wP L p [] 0 h).length<=120;omega
 ·intro x H s u;have z:x.2∈(wP L p [] 0 h).map (·.2):=List.mem_map_of_mem H;rw[j]at z;obtain⟨c,F,e⟩:=yI.1 z;rw[<-e]at u;exact hs s (by rw[<-A];exact zV.2 ⟨c,F,ZbF L p c s u⟩)
 ·show ZS (wP L p [] 0 h)<=40;rw[ZrZ,j];have:=Zmn L p h;rw[A]at this;omega
 ·show 0<=(wT L p [] 0 ⟨0,0,0,0⟩ h).m/\(wT L p [] 0 ⟨0,0,0,0⟩ h).m+2*((wP L p [] 0 h).length:Int)<=120;rw[O];exact⟨yN _,by show (0:Int)+_<=_;omega⟩
theorem ZAj {B:List Fil}:∀ (P:List Pr),(P.map (·.1)).Nodup->(∀ x∈P,x.1∉B.map Fil.name)->(P.map (·.1)).foldl Vt (B++Yx P)=B:=by
 intro P
 induction P with
 |nil=>intro _ _;simp[Yx]
 |cons x P u =>
  intro h hB;rw[zI,List.foldl_cons,ZiJ (hB x Y),Zoe h,ZhR h];rw[zI,zR]at h;exact u h.2 λy j=>hB y (by simp[j])
theorem iF {H:Hp}{i:Nat}{x:AObj}(h:H[i]?=Z x):H.set i x=H:=by
 apply List.ext_getElem?;intro j;by_cases u:i=j
 ·subst u;rw[Zs _ h,h]
 ·rw[List.getElem?_set_ne u]
theorem ZvZ (a b c:AV)(H:Hp):Yu cfg (Zb cfg) (.fn (.func 15) [] [a,b,c]) [] H=SB [a,b,c] H:=df
structure FxAt (H:Hp)(zc sc ec mc cc o:Nat)(mem w:Int)(b:Bool):Prop where
 z:H[zc]?=Z (.cells [J X mem,J X w])
 s:H[sc]?=Z (.cells [J X 0,J X 0,J X 0,J X 0])
 e:H[ec]?=Z (.cells [J X 0])
 m:H[mc]?=Z (.cells [.ptr o 0])
 c:H[cc]?=Z (.cells [.bool b])
theorem FxAt.stp {H H':Hp}{D sc y A u o:Nat}{mem w:Int}{b:Bool}{C:da}(h:FxAt H D sc y A u o mem w b)(hs:Stp C H H')(j:∀ a∈[D,sc,y,A,u],a∉C):FxAt H' D sc y A u o mem w b :=
 ⟨hs.get h.z (j _ Y),hs.get h.s (j _ Y),hs.get h.e (j _ Y),hs.get h.m (j _ Y),hs.get h.c (j _ Y)⟩
theorem FxAt.lt {H:Hp}{C sc u A j o:Nat}{mem w:Int}{b:Bool}(h:FxAt H C sc u A j o mem w b):∀ a∈[C,sc,u,A,j],a<N H:=by
 intro a y;simp only[zF,zJ,or_false]at y;rcases y with rfl|rfl|rfl|rfl|rfl
 ·exact Zn h.z
 ·exact Zn h.s
 ·exact Zn h.e
 ·exact Zn h.m
 ·exact Zn h.c
theorem FxAt.e0 {H:Hp}{z sc j y u o:Nat}{mem w:Int}{b:Bool}(h:FxAt H z sc j y u o mem w b):Zc 1 (.ptr j 0) (J X 0) H=Z (.tuple [],H):=by
 have:=Vb h.e 0 (v:=J X 0) rfl rfl Y;rw[this];congr 2;exact iF h.e
section
variable {o g t:Nat}{L:Loc}{lx cl e:AV}{p:Spec}{xp:AV}{B:List Fil}(hB:BOk B)(hl:LocAV (.agg (L.cells lx cl e)) L)(hok:LocOk L)(hsm:LocSm L)(hs:SpecAV (.agg (p.cells xp)) p)(hks:∀ k∈p.keys,KeOk k)(hkl:N p.keys<=1048576)
include hB hl hok hsm hs hks hkl
theorem ZpJ {w:Nat}(hw:2<=w)(hw2:w<=32){zc sc R mc Q:Nat}{mem:Int}{b:Bool}{r0 y0:Int}{l:List Zi}(ac:AV)(H0:Hp):∀ (f:Nat) (a:PSt) (tm:Tmp) (s:Sto) (A S:da) (H:Hp),N a.O<=f->SInv L p r0 y0 l a ->
 XS B tm s a.P a.k->SysAt H o t tm s A->SrAt H g o A L lx cl e p xp a.O a.st S->FxAt H zc sc R mc Q o mem (w:Int) b->(∀ x∈[zc,sc,R,mc,Q],x∉S/\x∉A) ->
 ∃ H' A' S' M s',KG (.ptr zc 0) (.ptr sc 0) (.ptr R 0) (.ptr mc 0) (.ptr Q 0) (.ptr g 0) ac H0 H=KF (.ptr sc 0) (.ptr R 0) (.ptr mc 0) (.ptr Q 0) (.ptr g 0) ac H0 H' /\
  SInv L p r0 y0 l (JM L p w f a)/\XS B M s' (JM L p w f a).P (JM L p w f a).k/\SysAt H' o t M s' A'/\SrAt H' g o A' L lx cl e p xp (JM L p w f a).O (JM L p w f a).st S'/\FxAt H' zc sc R mc Q o mem (w:Int) b /\
  (∀ x∈[zc,sc,R,mc,Q],x∉S'/\x∉A')/\Stp (S++A) H H'/\(∀ x∈A',x∈A\/N H<=x)/\(∀ x∈S',x∈S\/N H<=x):=by
 intro f
 induction f with
 |zero =>
  intro a tm s A S H hf C hX j hS T hd;have E:=hS;obtain⟨x,g1,g2,g3,g4,g5⟩:=hS;have F:=ZU g1 12 (v:=x) rfl;have u:=SS.len g2.ss 9;rw[zX]at u;have l1:=ZU T.z 1 (v:=J X (w:Int)) rfl;have y:decide ((w:Int)<(N a.O:Int))=K:=by rw[decide_eq_false_iff_not];omega
  refine⟨H,A,S,tm,s,?_,C,hX,j,E,T,hd,Stp.refl _ _,λx h=>.inl h,λx h=>.inl h⟩;rw[Gk];simp only[go_sem,zE,F,u,l1,y]
 |succ f ih =>
  intro a tm s A S H hf C hX j hS T hd;have E:=hS;obtain⟨x,g1,g2,g3,g4,g5⟩:=hS;have F:=ZU g1 12 (v:=x) rfl;have u:=SS.len g2.ss 9;rw[zX]at u;have l1:=ZU T.z 1 (v:=J X (w:Int)) rfl;by_cases hn:w<N a.O
  ·have y:decide ((w:Int)<(N a.O:Int))=I:=by rw[decide_eq_true_eq];omega
   have aj:=C.len;have ai:=C.kle;have ak:=C.m;obtain⟨H1,A1,S1,tm1,s1,p1,p2,p3,p4,p5,p6,p7,p8⟩:=ZxG hB hl hok hsm hs hks hkl hw hw2 cm C.short C.lines cm ⟨cm,cm⟩ C.perm hX j E;have ad:=T.lt
   have aa:=T.stp p6 λx D h=>by
    rcases zD.1 h with h|h
    ·exact (hd x D).1 h
    ·exact (hd x D).2 h
   have af:∀ x∈[zc,sc,R,mc,Q],x∉S1/\x∉A1:=λx D=>by
    have:=ad x D;refine⟨λh=>?_,λh=>?_⟩
    ·rcases p8 x h with h|h
     ·exact (hd x D).1 h
     ·omega
    ·rcases p7 x h with h|h
     ·exact (hd x D).2 h
     ·omega
   have ae:=PInv.sinv hw C hn p4
   have ab:(Gp L p w a).O.length<=f:=by
    have:=p4.len;have hc:=Zfo hw hn;show (Yl L p w a.O (Yi w (N a.O)) ⟨[],a.P,a.k,a.st⟩).O.length<=f;omega
   obtain⟨H',A',S',M,s',m1,m2,m3,m4,m5,m6,m7,m8,m9,ag⟩:=ih (Gp L p w a) tm1 s1 A1 S1 H1 ab ae p3 p2 p5 aa af;have hr:JM L p w (f+1) a=JM L p w f (Gp L p w a):=by simp only[JM,if_pos hn]
   rw[hr];have ah:=p6.len;have e0:((0:Int) != 0)=K:=rfl;have le:=ZU aa.e 0 (v:=J X 0) rfl;refine⟨H',A',S',M,s',?_,m2,m3,m4,m5,m6,m7,?_,λx D=>?_,λx D=>?_⟩
   ·rw[Gk];simp only[go_sem,zE,F,u,l1,y,ZaX,p1,aa.e0,le,e0];exact m1
   ·refine p6.trans m8 (λ_ h=>h) λx h=>?_;rcases zD.1 h with h|h
    ·exact (p8 x h).imp (λh=>List.mem_append_left _ h) id
    ·exact (p7 x h).imp (λh=>zS _ h) id
   ·rcases m9 x D with h|h
    ·exact p7 x h
    ·exact .inr cm
   ·rcases ag x D with h|h
    ·exact p8 x h
    ·exact .inr cm
  ·have y:decide ((w:Int)<(N a.O:Int))=K:=by rw[decide_eq_false_iff_not];omega
   have hr:JM L p w (f+1) a=a:=by simp only[JM,if_neg hn]
   rw[hr];refine⟨H,A,S,tm,s,?_,C,hX,j,E,T,hd,Stp.refl _ _,λx h=>.inl h,λx h=>.inl h⟩;rw[Gk];simp only[go_sem,zE,F,u,l1,y]
theorem Zvz {w:Nat}{zc sc T mc C:Nat}{mem:Int}{r0 y0:Int}{l:List Zi}(aw:[zc,sc,T,mc,C].Nodup)(H0:Hp){a:PSt}{tm:Tmp}{s:Sto}{A S:da}{H:Hp}(hI:SInv L p r0 y0 l a)
 (D:XS B tm s a.P a.k) (ak:SysAt H o t tm s A) (hS:SrAt H g o A L lx cl e p xp a.O a.st S) (hF:FxAt H zc sc T mc C o mem (w:Int) K) (hd:∀ x∈[zc,sc,T,mc,C],x∉S/\x∉A) :
 ∃ H' y pk S1,KF (.ptr sc 0) (.ptr T 0) (.ptr mc 0) (.ptr C 0) (.ptr g 0) (.fn (.func 15) [] [.ptr T 0,.ptr C 0,.ptr mc 0]) H0 H =
  Z (.tuple [y,.agg [J X a.st.r,J X a.st.m,J X a.st.y,J X a.st.k],J X 0],H')/\SS y (ZX L p l)/\StoreAt H' t ⟨262144,pk,B,K,0⟩ S1/\pk<=262144 /\
  Stp (sc::C::A) H H'/\(∀ x∈S1,x∈A\/N H<=x):=by
 have ao:=hF.lt;have ar:=hS.off;obtain⟨H1,y,q1,q2,q3,q4⟩:=ZuD hB hl hok hsm hs hks hkl (by have:=hI.len;omega) hI.lines (λx j=>hI.perm.mem_iff.2 j) D ak hS;obtain⟨Ps,c1,c2⟩:=hI.parts;rw[c1,Zbw,c2]at q2;have u:=hF.stp q4 λx j h=>(hd x j).2 h;have ap:=hS.stp q4 ar λx h=>.inl h;have bf:=q4.len
 -- closed is I
 have af:=Vb u.c 0 (v:=.bool I) rfl rfl Y;have am:(yJ [AV.bool K] 0 (.bool I))=[.bool I]:=rfl;rw[am]at af;have R:Stp [C] H1 (H1.set C (.cells [.bool I])):=Stp.set _ _ Y;have au:=Zs (zA [.bool I]) u.c;have ai:=aw;simp only[zR,zF,zJ,or_false,not_or,yB,not_false_eq_true,and_true]at ai;obtain⟨⟨n1,n2,n3,n4⟩,⟨n5,n6,n7⟩,⟨n8,n9⟩,bc⟩:=ai
 have ab:FxAt (H1.set C (.cells [.bool I])) zc sc T mc C o mem (w:Int) I :=
  ⟨R.get u.z (by simpa using n4),R.get u.s (by simpa using n7),R.get u.e (by simpa using n9),R.get u.m (by simpa using bc),au⟩
 have ag:=hd C Y;have M:=q3.stp R λx j h=>ag.2 (by rw[<-zB.1 h];exact j);have ac:=ap.stp (A':=A) R (λx j h=>ag.1 (by rw[<-zB.1 h];exact j)) λx h=>.inl h;have be:=R.len;generalize bh:H1.set C (.cells [.bool I])=H2 at af R ab M ac be
 -- Close
 obtain⟨H3,A3,bj,s3,k1,k2,k3,k4,k5,k6,k7,k8⟩:=Zt7 M D.tmOk (D.stoOk hB) D.stE.2.2.2.1 D.stE.2.2.2.2 (by rw[D.tmE.2.1];exact D.nd) (λn hn=>by
  rw[D.tmE.2.1]at hn;obtain⟨x,j,rfl⟩:=yI.1 hn;rw[D.get hB j];simp) D.tmE.2.2.2.2
 have ax:s3=⟨262144,s.peak,B,K,0⟩:=by
  rw[k8,D.tmE.2.1,D.stE.2.2.1,ZAj a.P D.nd (λx j=>by obtain⟨i,_,_,e⟩:=D.num x j;rw[e];exact XS.notB hB i)];obtain⟨f1,f2,f3,f4,f5⟩:=D.stE;cases s;dsimp only at f1 f4 f5 ⊢;subst f1 f4 f5;rfl
 have F:=ab.stp k2.stp λx j h=>(hd x j).2 h;have aq:=ac.stp k2.stp ac.off k2.own;have bg:=k2.stp.len;obtain⟨x,g1,g2,g3,g4,g5⟩:=aq;have ay:Z2 I 4 (.ptr g 13) H3=Z (.agg [J X a.st.r,J X a.st.m,J X a.st.y,J X a.st.k]):=by rw[Yk g1];rfl
 have ae:=YL (off:=0) (sz:=4) (v:=.agg [J X a.st.r,J X a.st.m,J X a.st.y,J X a.st.k]) F.s rfl rfl Y;have an:splice [AV.int .i64 0,J X 0,J X 0,J X 0] 0 (AV.agg [J X a.st.r,J X a.st.m,J X a.st.y,J X a.st.k]).cells=[J X a.st.r,J X a.st.m,J X a.st.y,J X a.st.k]:=rfl;rw[an]at ae;have t4:Stp [sc] H3 (H3.set sc (.cells [J X a.st.r,J X a.st.m,J X a.st.y,J X a.st.k])):=Stp.set _ _ Y;have aa:=Zs (zA [J X a.st.r,J X a.st.m,J X a.st.y,J X a.st.k]) F.s;have E:=t4.get F.e (by simpa using Ne.symm n5);have ah:=t4.get F.c (by simpa using Ne.symm n7);have aj:=hd sc Y
 have Q:=k2.at'.stp t4 λx j h=>by
  rcases k2.own x j with k|k
  ·exact aj.2 (by rw[<-zB.1 h];exact k)
  ·have:=ao sc Y;rw[zB.1 h]at k;omega
 generalize bi:H3.set sc (.cells [J X a.st.r,J X a.st.m,J X a.st.y,J X a.st.k])=H4 at ae t4 aa E ah Q
 have bd:Zc 1 (.ptr T 0) (J X 0) H4=Z (.tuple [],H4):=by
  have:=Vb E 0 (v:=J X 0) rfl rfl Y;rw[this];congr 2;exact iF E
 have al:=ZU E 0 (v:=J X 0) rfl;have bb:Z2 I 4 (.ptr sc 0) H4=Z (.agg [J X a.st.r,J X a.st.m,J X a.st.y,J X a.st.k]):=by rw[Yk aa];rfl
 have e0:((0:Int) != 0)=K:=rfl
 have ad:Yu cfg (Zb cfg) (.fn (.func 15) [] [.ptr T 0,.ptr C 0,.ptr mc 0]) [] H4=Z (.tuple [],H4):=by
  rw[ZvZ,lH];unfold SJ;simp only[go_sem,al,e0]
 obtain⟨Bs,Ss,z1,z2,z3,z4⟩:=Q;rw[ax]at z2;refine⟨H4,y,s.peak,Ss,?_,q2,z2,D.stE.2.1,?_,λx j=>?_⟩
 ·have az:=ZU u.e 0 (v:=J X 0) rfl;have ba:=ZU F.e 0 (v:=J X 0) rfl;have lm:=ZU ab.m 0 (v:=.ptr o 0) rfl;rw[ZaU];simp only[q1,go_sem,zO,zP,u.e0,az,e0,ZaV,af,lm,k1,F.e0,ba,ZaW,zE,ay,ae,bd,ZaS,ad,bb,al]
 ·have b1:Stp (sc::C::A) H H1:=q4.mono λx j=>by simp[j]
  have b2:Stp (sc::C::A) H H2:=b1.trans R (λ_ h=>h) λx h=>.inl (by rw[zB.1 h];simp);have b3:Stp (sc::C::A) H H3:=b2.trans k2.stp (λ_ h=>h) λx h=>.inl (by simp[h]);exact b3.trans t4 (λ_ h=>h) λx h=>.inl (by rw[zB.1 h];simp)
 ·have:x∈A3:=by rw[z4];exact zS _ j
  rcases k2.own x this with h|h
  ·exact .inl h
  ·exact .inr cm
end
def Ye (mem:Int)(l:List Zi):List (List Zi):=Ty (ZV cS mem l)
def Gi (L:Loc)(p:Spec)(mem:Int)(w:Nat)(l:List Zi):Stt:=(JM L p w 40 (B7 L p (Ye mem l))).st
def YN (st:Stt):AV:=.agg [J X st.r,J X st.m,J X st.y,J X st.k]
def Zt9 (t:Nat)(s:Sto):Prop:=∀ (H:Hp) (S:da),StoreAt H t s S->∃ H' A' o,Q1 [.ptr t 0,.str ZfO,J X 262144] H=Z (.tuple [.ptr o 0,J X 0],H') /\
 SysAt H' o t ⟨ZfO,[],[],262144,0,K⟩ s A'/\Stp S H H'/\(∀ a∈A',a∈S\/N H<=a)
theorem XS.start {B:List Fil}{pk:Nat}(j:pk<=262144):XS B ⟨ZfO,[],[],262144,0,K⟩ ⟨262144,pk,B,K,0⟩ [] 0 :=
 ⟨⟨rfl,rfl,rfl,rfl,rfl⟩,(λx h=>by cases h),⟨rfl,j,by simp[Yx],rfl,rfl⟩,Y,(λx h=>by cases h),cm,Y,Y,by simp[ZG],(λx h=>by cases h)⟩
theorem ZmO {a q x:AV}{L:Loc}{p:Spec}{l:List Zi}(ha:LocAV a L)(hok:LocOk L)(hsm:LocSm L)(hq:SpecAV q p)(hks:∀ k∈p.keys,KeOk k)(hkl:N p.keys<=1048576)(hx:SS x l)(ap:N l<=40)(C:∀ s∈l,N s<=200)
 {B:List Fil} (hB:BOk B) {w:Nat} {mem:Int} (am:Wb p mem (w:Int) l=0) {t pk:Nat} {S0:da} {H:Hp} (h:StoreAt H t ⟨262144,pk,B,K,0⟩ S0) (bf:pk<=262144) (ad:Zt9 t ⟨262144,pk,B,K,0⟩) :
 ∃ H' y az S1,U6 [.ptr t 0,a,q,.agg [J X mem,J X (w:Int)],x] H=Z (.tuple [y,YN (Gi L p mem w l),J X 0],H')/\SS y (ZX L p l)/\StoreAt H' t ⟨262144,az,B,K,0⟩ S1/\az<=262144 /\
  Stp S0 H H'/\(∀ z∈S1,z∈S0\/N H<=z)/\SInv L p ((Ye mem l).length:Int) (wT L p [] 0 ⟨0,0,0,0⟩ (Ye mem l)).y l (JM L p w 40 (B7 L p (Ye mem l))):=by
 have F:YE l:=λs hs=>by have:=C s hs;omega
 obtain⟨bt,cb,hm2,cc,hw2⟩:=Zkk am;have R:=hq;have ae:=ha;obtain⟨lx,cl,e,rfl,ca,bu,bw⟩:=ha;obtain⟨xp,rfl,cd⟩:=hq
 -- the first cells
 have ag:(H++[zA (L.cells lx cl e),.cells (p.cells xp),.cells [J X mem,J X (w:Int)],.cells [J X 0,J X 0,J X 0,J X 0],.cells [J X 0]]).length=N H+5:=Y
 have b1:ZF (.agg (p.cells xp)) (H++[zA (L.cells lx cl e)])=Z (.ptr (N H+1) 0,H++[zA (L.cells lx cl e),.cells (p.cells xp)]):=by rw[ZW];simp
 have b2:ZF (.agg [J X mem,J X (w:Int)]) (H++[zA (L.cells lx cl e),.cells (p.cells xp)])=Z (.ptr (N H+2) 0,H++[zA (L.cells lx cl e),.cells (p.cells xp),.cells [J X mem,J X (w:Int)]]):=by rw[ZW];simp
 have f0:(H++[zA (L.cells lx cl e),.cells (p.cells xp),.cells [J X mem,J X (w:Int)],.cells [J X 0,J X 0,J X 0,J X 0],.cells [J X 0]])[N H]?=Z (.cells (L.cells lx cl e)):=Y
 have f1:(H++[zA (L.cells lx cl e),.cells (p.cells xp),.cells [J X mem,J X (w:Int)],.cells [J X 0,J X 0,J X 0,J X 0],.cells [J X 0]])[N H+1]?=Z (.cells (p.cells xp)):=Y
 have f2:(H++[zA (L.cells lx cl e),.cells (p.cells xp),.cells [J X mem,J X (w:Int)],.cells [J X 0,J X 0,J X 0,J X 0],.cells [J X 0]])[N H+2]?=Z (.cells [J X mem,J X (w:Int)]):=Y
 have f3:(H++[zA (L.cells lx cl e),.cells (p.cells xp),.cells [J X mem,J X (w:Int)],.cells [J X 0,J X 0,J X 0,J X 0],.cells [J X 0]])[N H+3]?=Z (.cells [J X 0,J X 0,J X 0,J X 0]):=Y
 have f4:(H++[zA (L.cells lx cl e),.cells (p.cells xp),.cells [J X mem,J X (w:Int)],.cells [J X 0,J X 0,J X 0,J X 0],.cells [J X 0]])[N H+4]?=Z (.cells [J X 0]):=Y
 have t1:Stp [] H (H++[zA (L.cells lx cl e),.cells (p.cells xp),.cells [J X mem,J X (w:Int)],.cells [J X 0,J X 0,J X 0,J X 0],.cells [J X 0]]):=Stp.push _ _
 have O:(H++[zA (L.cells lx cl e),.cells (p.cells xp),.cells [J X mem,J X (w:Int)]]++[zA [J X 0,J X 0,J X 0,J X 0]]++[zA [J X 0]]) =
  (H++[zA (L.cells lx cl e),.cells (p.cells xp),.cells [J X mem,J X (w:Int)],.cells [J X 0,J X 0,J X 0,J X 0],.cells [J X 0]]):=Y
 have aw:(H++[zA (L.cells lx cl e),.cells (p.cells xp),.cells [J X mem,J X (w:Int)]]).length=N H+3:=Y
 have ax:(H++[zA (L.cells lx cl e),.cells (p.cells xp),.cells [J X mem,J X (w:Int)]]++[zA [J X 0,J X 0,J X 0,J X 0]]).length=N H+4:=Y
 generalize br:(H++[zA (L.cells lx cl e),.cells (p.cells xp),.cells [J X mem,J X (w:Int)],.cells [J X 0,J X 0,J X 0,J X 0],.cells [J X 0]])=H1 at ag f0 f1 f2 f3 f4 t1 O;have ls:=X6 f1;have lz:Z2 I 2 (.ptr (N H+2) 0) H1=Z (.agg [J X mem,J X (w:Int)]):=by rw[Yk f2];rfl
 obtain⟨H2,q1,q2⟩:=Zl2 hx F cm R mem (w:Int) t H1;rw[am]at q1;have E:∀ i,i∉([]:da):=λi h=>by cases h
 have ak:=h.lt;have h2:=(h.stp t1 λa _=>E a).stp q2 λa _=>E a;obtain⟨j,A3,o,o1,o2,o3,o4⟩:=ad H2 S0 h2;have ce:=q2.len;have cf:=o3.len;have ai:=o2.lt;have u:∀ i,N H<=i->i<N H2->i∉S0:=λi h1 _ hS=>by have:=ak i hS;omega
 have be:∀ i,N H<=i->i<N H2->i∉A3:=λi h1 h2 hA=>by
  rcases o4 i hA with k|k
  ·exact u i h1 h2 k
  ·omega
 have g0:=o3.get (q2.get f0 (E _)) (u _ cm cm);have g1:=o3.get (q2.get f1 (E _)) (u _ cm cm);have g2:=o3.get (q2.get f2 (E _)) (u _ cm cm);have g3:=o3.get (q2.get f3 (E _)) (u _ cm cm);have g4:=o3.get (q2.get f4 (E _)) (u _ cm cm)
 -- m,closed and the sorter
 have sm:=Vb (H:=j++[zA [.nilp]]) (o:=N j) (l:=[.nilp]) Y 0 (v:=.ptr o 0) rfl rfl Y;have em:(j++[zA [.nilp]]).set (N j) (.cells (yJ [.nilp] 0 (.ptr o 0)))=j++[zA [.ptr o 0]]:=Y
 rw[em]at sm;have aa:(j++[zA [.ptr o 0]])[N H+4]?=Z (.cells [J X 0]):=Y8 g4 _
 have se:Zc 1 (.ptr (N H+4) 0) (J X 0) (j++[zA [.ptr o 0]])=Z (.tuple [],j++[zA [.ptr o 0]]):=by
  have:=Vb aa 0 (v:=J X 0) rfl rfl Y;rw[this];congr 2;exact iF aa
 have bi:=ZU aa 0 (v:=J X 0) rfl;have ay:(j++[zA [.ptr o 0]]).length=N j+1:=Y
 have sc:=Vb (H:=j++[zA [.ptr o 0]]++[zA [.bool K]]) (o:=N j+1) (l:=[.bool K]) Y 0 (v:=.bool K) rfl rfl Y;have ec:(j++[zA [.ptr o 0]]++[zA [.bool K]]).set (N j+1) (.cells (yJ [.bool K] 0 (.bool K)))=j++[zA [.ptr o 0],.cells [.bool K]]:=Y
 rw[ec]at sc;have t5:Stp [] j (j++[zA [.ptr o 0],.cells [.bool K],.cells (W2 o L lx cl e p xp .nils ⟨0,0,0,0⟩)]):=Stp.push _ _;have bl:Z2 K 1 (.ptr (N j) 0) (j++[zA [.ptr o 0],.cells [.bool K]])=Z (.ptr o 0):=ZU (l:=[.ptr o 0]) Y 0 rfl;have bk:Z2 I 6 (.ptr (N H) 0) (j++[zA [.ptr o 0],.cells [.bool K]])=Z (.agg (L.cells lx cl e)):=Qd (Y8 g0 _);have bm:Z2 I 5 (.ptr (N H+1) 0) (j++[zA [.ptr o 0],.cells [.bool K]])=Z (.agg (p.cells xp)):=X6 (Y8 g1 _);have af:(Yq [(0,1,.ptr o 0),(1,6,.agg (L.cells lx cl e)),(7,5,.agg (p.cells xp))] [.nilp,(.str []),.nils,(.str []),(.str []),.nils,.nils,.nils,(J X 0),(J X 0),(.bool K),(.bool K),.nils,(J X 0),(J X 0),(J X 0),(J X 0)]).map AV.agg=Z (AV.agg (W2 o L lx cl e p xp .nils ⟨0,0,0,0⟩)):=rfl;have bx:ZF (.agg (W2 o L lx cl e p xp .nils ⟨0,0,0,0⟩)) (j++[zA [.ptr o 0],.cells [.bool K]])=Z (.ptr (N j+2) 0,j++[zA [.ptr o 0],.cells [.bool K],.cells (W2 o L lx cl e p xp .nils ⟨0,0,0,0⟩)]):=by rw[ZW];simp
 have aq:(j++[zA [.ptr o 0],.cells [.bool K],.cells (W2 o L lx cl e p xp .nils ⟨0,0,0,0⟩)])[N j]?=Z (.cells [.ptr o 0]):=Y
 have al:(j++[zA [.ptr o 0],.cells [.bool K],.cells (W2 o L lx cl e p xp .nils ⟨0,0,0,0⟩)])[N j+1]?=Z (.cells [.bool K]):=Y
 have ao:(j++[zA [.ptr o 0],.cells [.bool K],.cells (W2 o L lx cl e p xp .nils ⟨0,0,0,0⟩)])[N j+2]?=Z (.cells (W2 o L lx cl e p xp .nils ⟨0,0,0,0⟩)):=Y
 have l5:(j++[zA [.ptr o 0],.cells [.bool K],.cells (W2 o L lx cl e p xp .nils ⟨0,0,0,0⟩)]).length=N j+3:=Y
 generalize bs:(j++[zA [.ptr o 0],.cells [.bool K],.cells (W2 o L lx cl e p xp .nils ⟨0,0,0,0⟩)])=H5 at t5 bx aq al ao l5
 have ab:FxAt H5 (N H+2) (N H+3) (N H+4) (N j) (N j+1) o mem (w:Int) K :=
  ⟨t5.get g2 (E _),t5.get g3 (E _),t5.get g4 (E _),aq,al⟩
 have ah:=o2.stp t5 λa _=>E a
 have ba:SrAt H5 (N j+2) o A3 L lx cl e p xp [] ⟨0,0,0,0⟩ [N j+2] :=
  ⟨.nils,ao,.inl ⟨rfl,rfl⟩,λa ha hA=>by have:=ai a hA;simp[ZN]at ha;omega,by simp[ZN],by simp[ZN]⟩
 have Q:∀ z∈[N H+2,N H+3,N H+4,N j,N j+1],z∉[N j+2]/\z∉A3:=λz D=>by
  simp only[zF,zJ,or_false]at D ⊢;refine⟨cm,λhA=>?_⟩;have bz:=ai z hA;rcases o4 z hA with k|k
  ·have:=ak z k;omega
  ·omega
 have ar:[N H+2,N H+3,N H+4,N j,N j+1].Nodup:=by
  simp only[zR,zF,zJ,or_false,not_or,yB,not_false_eq_true,and_true];omega
 -- the runs are written
 obtain⟨M,an⟩:=Zn6 mem l;have bb:=Zb3 an;rw[M]at bb;obtain⟨ck,v1,v2⟩:=ZsP (mem:=mem) hx F cm H5;have bh:=v2.len 29
 have bc:∀ c∈Ye mem l,N c<=40/\∀ s∈c,N s<=200:=λc hc=>by
  have au:∀ s∈c,s∈l:=λs hs=>by rw[<-M];exact zV.2 ⟨c,hc,hs⟩
  refine⟨?_,λs hs=>C s (au s hs)⟩;have:N c<=(Ye mem l).flatten.length:=(List.sublist_flatten_of_mem hc).length_le;unfold Ye at this;rw[M]at this;omega
 obtain⟨H6,A6,S6,bq,s6,w1,w2,w3,w4,w5,w6,w7⟩:=Zt4 hB ae hok R hks v2 cm bc H5 (Ye mem l) [] [] 0 ⟨0,0,0,0⟩ _ _ A3 [N j+2] H5 rfl (by unfold Ye;omega) (by unfold Ye;simp;omega) (λx hx=>by cases hx)
  (by unfold Ye;rw[M];simp[ZS];omega) ⟨yN _,by unfold Ye;show (0:Int)+_<=1000;omega⟩ (XS.start bf) ah ba
 rw[zE]at w3
 have ac:=ab.stp w5 λz D A=>by
  rcases zD.1 A with k|k
  ·exact (Q z D).1 k
  ·exact (Q z D).2 k
 have aj:=ab.lt
 have bd:∀ z∈[N H+2,N H+3,N H+4,N j,N j+1],z∉S6/\z∉A6:=λz D=>by
  have:=aj z D;refine⟨λA=>?_,λA=>?_⟩
  ·rcases w7 z A with k|k
   ·exact (Q z D).1 k
   ·omega
  ·rcases w6 z A with k|k
   ·exact (Q z D).2 k
   ·omega
 have cg:=w5.len
 -- the passes
 have hI:=ZlJ (L:=L) (p:=p) M an ap C;obtain⟨H7,A7,S7,ci,s7,u1,u2,u3,u4,u5,u6,u7,u8,u9,cj⟩:=ZpJ hB ae hok hsm R hks hkl cm cm (.fn (.func 15) [] [.ptr (N H+4) 0,.ptr (N j+1) 0,.ptr (N j) 0]) H 40 (B7 L p (Ye mem l)) bq s6 A6 S6 H6 hI.len hI w3 w2 w4 ac bd;obtain⟨H8,y,bp,S8,z1,z2,z3,z4,z5,z6⟩:=Zvz hB ae hok hsm R hks hkl ar H u2 u3 u4 u5 u6 u7;have ch:=u8.len
 have S:∀ z∈A6,z∈S0\/N H<=z:=λz D=>by
  rcases w6 z D with k|k
  ·rcases o4 z k with k|k
   ·exact .inl k
   ·exact .inr cm
  ·exact .inr cm
 have T:∀ z∈A7,z∈S0\/N H<=z:=λz D=>by
  rcases u9 z D with k|k
  ·exact S z k
  ·exact .inr cm
 refine⟨H8,y,bp,S8,?_,z2,z3,z4,?_,λz D=>?_,u2⟩
 ·have e0:((0:Int) != 0)=K:=rfl
  have bg:Qu [.ptr (N j+2) 0,x,J X mem] H5=Z (J X 0,H6):=by
   rw[EA];unfold Ds;simp only[v1,go_sem,bh];exact w1
  have bn:=ZU ab.z 0 (v:=J X mem) rfl;have bj:=ZU ac.e 0 (v:=J X 0) rfl;rw[LT];unfold PV;simp only[ZW,go_sem,b1,b2,aw,O,ax,ls,lz,q1,e0,ZaQ];have bo:Q1 [.ptr t 0,.str [115,111,114,116],J X 262144] H2=Z (.tuple [.ptr o 0,J X 0],j):=o1;simp only[bo,go_sem,zO,zP,sm,se,bi,e0,ZaR,ay,sc,bl,bk,bm,af,bx,zE,bn,bg,ac.e0,bj,ZaT];refine u1.trans ?_;exact z1
 ·have k1:Stp S0 H H2:=(t1.mono λa h=>absurd h (E a)).trans (q2.mono (B:=S0) λa h=>absurd h (E a)) (λ_ h=>h) λa h=>.inl h;have k2:Stp S0 H j:=k1.trans o3 (λ_ h=>h) λa h=>.inl h;have k3:Stp S0 H H5:=k2.trans (t5.mono (B:=S0) λa h=>absurd h (E a)) (λ_ h=>h) λa h=>.inl h
  have k4:Stp S0 H H6:=k3.trans w5 (λ_ h=>h) λa A=>by
   rcases zD.1 A with k|k
   ·rw[zB.1 k];exact .inr cm
   ·rcases o4 a k with k|k
    ·exact .inl k
    ·exact .inr cm
  have k5:Stp S0 H H7:=k4.trans u8 (λ_ h=>h) λa A=>by
   rcases zD.1 A with k|k
   ·rcases w7 a k with k|k
    ·rw[zB.1 k];exact .inr cm
    ·exact .inr cm
   ·exact S a k
  exact k5.trans z5 (λ_ h=>h) λa A=>by
   rcases zF.1 A with k|A
   ·exact .inr cm
   rcases zF.1 A with k|A
   ·exact .inr cm
   ·exact T a A
 ·rcases z6 z D with k|k
  ·exact T z k
  ·exact .inr cm
end Go.Am
