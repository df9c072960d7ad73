/- The number of runs and passes of a sort -/
import Derived.Test.YtnaneekpogohaaaGreatDoorXeRfx
import Derived.Test.YtnaneekpogohaaaGreatDoorXeGXx
import Derived.Test.YtnaneekpogohaaaGreatDoorXeGRx
open List renaming mem_singleton->zB,mem_append->zD,mem_cons->zF,length_append->zG,flatten_cons->zH,map_cons->zI,not_mem_nil->zJ,append_nil->zK,flatten_append->zL,getElem?_append_right->zM,getElem?_cons_zero->zO,getElem?_cons_succ->zP,take_of_length_le->zQ,nodup_cons->zR,mem_append_right->zS,mapM_cons->zT,length_cons->zU,mem_flatten->zV,map_append->zW,length_map->zX,nodup_nil->yB,map_take->yE,map_drop->yF,any_nil->yG,map_nil->yH,mem_map->yI,set->yJ
open Nat renaming zero_add->zE,le_refl->yK,add_mul->yL,one_mul->yM
open Bool renaming false_eq_true->zC,not_true->zN,and_false->zY,false_and->zZ,not_false->yA,and_true->yC,true_and->yD
open Int renaming le_refl->yN
open Go.Am.AObj renaming cells->zA
namespace Go.Am
set_option linter.unusedSectionVars false
set_option maxRecDepth 100000
abbrev Hz (mem w:Int):Hp:=[.cells [.int .i64 mem,.int .i64 w]]
section
variable {mem w:Int}
theorem Hu:Z3 false 1 (.ptr 0 0) (Hz mem w)=some (.int .i64 mem):=rfl
theorem RY:Z3 false 1 (.ptr 0 1) (Hz mem w)=some (.int .i64 w):=rfl
theorem Zsd:ZO (.agg [.int .i64 mem,.int .i64 w]) []=some (.ptr 0 0,Hz mem w):=rfl
end
theorem ES (o:Nat):Z7 0 (.ptr o 0)=some (.ptr o 0):=rfl
theorem Ztd (o:Nat):Z7 1 (.ptr o 0)=some (.ptr o 1):=rfl
def DT (mem w:Int):Bool:=decide (64<=mem)&&(decide (mem<=65536)&&(decide (2<=w)&&decide (w<=32)))
theorem ZvI (mem w:Int)(H:Hp)(n f:Nat):Zb H n (f+2) (.agg [.int .i64 mem,.int .i64 w])=some (.agg [.int .i64 mem,.int .i64 w]):=rfl
theorem ZoQ (mem w:Int)(H:Hp):Ze Re [.agg [.int .i64 mem,.int .i64 w]] H=some (.bool (DT mem w),H):=by
 refine Vt (args':=[.agg [.int .i64 mem,.int .i64 w]]) (H1:=Hz mem w) rfl ?_ rfl;rw[Zch];unfold Cu;have j:=@Hu mem w;have u:=@RY mem w;unfold DT
 cases y:decide (64<=mem) <;> cases z:decide (mem<=65536) <;> cases A:decide (2<=w) <;> cases C:decide (w<=32) <;>
  simp only[Zsd,go_sem,ES,Ztd,j,u,y,z,A,C,yC,zY,yD,zZ]
theorem ZnA (mem w:Int)(H:Hp):Ze A8 [.agg [.int .i64 mem,.int .i64 w]] H=some (.bool (DT mem w),H):=by
 refine Vt (args':=[.agg [.int .i64 mem,.int .i64 w]]) (H1:=Hz mem w) rfl ?_ rfl;rw[Zj0];unfold Zfh;have j:=@Hu mem w;have u:=@RY mem w;unfold DT
 cases y:decide (64<=mem) <;> cases z:decide (mem<=65536) <;> cases A:decide (2<=w) <;> cases C:decide (w<=32) <;>
  simp only[Zsd,go_sem,ES,Ztd,j,u,y,z,A,C,yC,zY,yD,zZ]
section
variable {mem w:Int}(hm:64<=mem)(hm2:mem<=65536)(hw:2<=w)(hw2:w<=32)
include hw hw2
include hm hm2
end
theorem ZoP {mem w:Int}(h:DT mem w=true):64<=mem/\mem<=65536/\2<=w/\w<=32:=by
 unfold DT at h;simp only[Bool.and_eq_true,decide_eq_true_eq]at h;exact h
def Jm (l:List Zg):Bool:=l.any fun s=>decide (4096<s.length)
def OG (p:Spec)(mem w:Int)(l:List Zg):Int :=
 if (ZI p != 0)=true then ZI p else if DT mem w=true then (if 8192<l.length then 3 else if Jm l=true then 3 else 0) else 2
theorem ZvG {x:AV}{l:List Zg}(K:SS x l)(N:Xg l)(hl:l.length<=1048576)(J H:Hp):∀ (r d:List Zg),l=d++r ->
 Jf x (.int .i64 (l.length:Int)) (.int .i64 (d.length:Int)) J H=some (.int .i64 (if Jm r=true then 3 else 0),H):=by
 intro r
 induction r with
 |nil =>
  intro d y;rw[zK]at y;subst y;have j:decide ((l.length:Int)<(l.length:Int))=false:=by simp
  rw[TE];simp only[go_sem,j,Zbt,Jm,yG,zC,if_false]
 |cons s r M =>
  intro d y;have I:l.length=d.length+(r.length+1):=by rw[y];simp
  have j:decide ((d.length:Int)<(l.length:Int))=true:=by rw[decide_eq_true_eq];omega
  have C:l[d.length]?=some s:=by rw[y,zM (yK _)];simp
  have u:=SS.idx K C;have D:IntKind.i64.wrap ((d.length:Int)+1)=((d++[s]).length:Int):=by rw[Zr (by omega) (by omega)];simp
  have E:=M (d++[s]) (by rw[y];simp);rw[TE];by_cases F:4096<s.length
  ·have z:decide ((4096:Int)<(s.length:Int))=true:=by rw[decide_eq_true_eq];omega
   have A:Jm (s::r)=true:=by simp[Jm,F]
   simp only[go_sem,j,TD,u,ZE,z,A,if_true]
  ·have z:decide ((4096:Int)<(s.length:Int))=false:=by rw[decide_eq_false_iff_not];omega
   have A:Jm (s::r)=Jm r:=by simp[Jm,F]
   simp only[go_sem,j,TD,u,ZE,z,Zbu,D,A];exact E
theorem ZsF {x q:AV}{l:List Zg}{p:Spec}(Q:SS x l)(T:Xg l)(hl:l.length<=1048576)(O:SpecAV q p)(mem w:Int)(t:Nat)(H:Hp) :
 ∃ H',Rc [.ptr t 0,q,.agg [.int .i64 mem,.int .i64 w],x] H=some (.int .i64 (OG p mem w l),H')/\Stp [] H H':=by
 have I:=O;obtain⟨xp,rfl,U⟩:=O;have j:Ys (.pointer 82) .eql (.ptr t 0) .nilp=some (.bool false):=rfl;have R:(H++[zA (p.cells xp),.cells [.int .i64 mem,.int .i64 w]])[H.length]?=some (.cells (p.cells xp)):=by simp
 have S:(H++[zA (p.cells xp),.cells [.int .i64 mem,.int .i64 w]])[H.length+1]?=some (.cells [.int .i64 mem,.int .i64 w]):=by simp
 have A:ZO (.agg [.int .i64 mem,.int .i64 w]) (H++[zA (p.cells xp)])=some (.ptr (H.length+1) 0,H++[zA (p.cells xp),.cells [.int .i64 mem,.int .i64 w]]):=by rw[Yf];simp
 have M:Stp [] H (H++[zA (p.cells xp),.cells [.int .i64 mem,.int .i64 w]]):=Stp.push _ _;have z:=Gq R;have C:Z3 true 2 (.ptr (H.length+1) 0) (H++[zA (p.cells xp),.cells [.int .i64 mem,.int .i64 w]])=some (.agg [.int .i64 mem,.int .i64 w]):=by rw[YE S];rfl
 generalize H++[zA (p.cells xp),.cells [.int .i64 mem,.int .i64 w]]=H1 at A z C M;refine⟨H1,?_,M⟩;have N:=SS.len Q 9;rw[Zcg];unfold Ct OG;have u:=Gl I H1
 cases D:ZI p != 0 with
 |true=>simp only[Yf,go_sem,A,j,Uv,z,u,D,if_true]
 |false =>
  have K:=ZoQ mem w H1
  cases J:DT mem w with
  |false=>simp only[Yf,go_sem,A,j,Uv,z,u,D,Kb,C,K,J,yA,zC,if_false]
  |true =>
   by_cases y:8192<l.length
   ·have E:decide ((8192:Int)<(l.length:Int))=true:=by rw[decide_eq_true_eq];omega
    simp only[Yf,go_sem,A,j,Uv,z,u,D,Kb,C,K,J,zN,zC,if_false,TC,N,E,if_true,if_pos y]
   ·have E:decide ((8192:Int)<(l.length:Int))=false:=by rw[decide_eq_false_iff_not];omega
    have F:=ZvG Q T hl H H1 l [] rfl;simp only[Yf,go_sem,A,j,Uv,z,u,D,Kb,C,K,J,zN,zC,if_false,TC,N,E,if_true,if_neg y,Zbs];exact F
theorem Zuj {x:AV}{l:List Zg}(K:SS x l)(O:Xg l)(hl:l.length<=1048576)(M H:Hp):∀ (r d:List Zg),l=d++r ->
 RC x (.int .i64 (d.length:Int)) M H=some (.int .i64 (if Jm r=true then 3 else 0),H):=by
 have D:=SS.len K 9;intro r
 induction r with
 |nil =>
  intro d y;rw[zK]at y;subst y;have j:decide ((l.length:Int)<(l.length:Int))=false:=by simp
  rw[CM];simp only[go_sem,D,j,Zhl,Jm,yG,zC,if_false]
 |cons s r N =>
  intro d y;have J:l.length=d.length+(r.length+1):=by rw[y];simp
  have j:decide ((d.length:Int)<(l.length:Int))=true:=by rw[decide_eq_true_eq];omega
  have C:l[d.length]?=some s:=by rw[y,zM (yK _)];simp
  have u:=SS.idx K C;have E:IntKind.i64.wrap ((d.length:Int)+1)=((d++[s]).length:Int):=by rw[Zr (by omega) (by omega)];simp
  have F:=N (d++[s]) (by rw[y];simp);rw[CM];by_cases I:4096<s.length
  ·have z:decide ((4096:Int)<(s.length:Int))=true:=by rw[decide_eq_true_eq];omega
   have A:Jm (s::r)=true:=by simp[Jm,I]
   simp only[go_sem,D,j,CK,u,ZE,z,A,if_true]
  ·have z:decide ((4096:Int)<(s.length:Int))=false:=by rw[decide_eq_false_iff_not];omega
   have A:Jm (s::r)=Jm r:=by simp[Jm,I]
   simp only[go_sem,D,j,CK,u,ZE,z,Zhm,E,A];exact F
theorem Zui {x q:AV}{l:List Zg}{p:Spec}(U:SS x l)(S:Xg l)(hl:l.length<=1048576)(T:SpecAV q p)(mem w:Int)(H:Hp) :
 Ze A0 [q,.agg [.int .i64 mem,.int .i64 w],x] H=some (.int .i64 (OG p mem w l),H):=by
 obtain⟨Z,W,O⟩:=T.close [] 0 5;obtain⟨X,R,M⟩:=SS.closed U [] 0 7;have K:=O;obtain⟨xp,rfl,V⟩:=O;have Q:([zA (p.cells xp),.cells [.int .i64 mem,.int .i64 w]]:Hp)[0]?=some (.cells (p.cells xp)):=rfl;have Y:([zA (p.cells xp),.cells [.int .i64 mem,.int .i64 w]]:Hp)[1]?=some (.cells [.int .i64 mem,.int .i64 w]):=rfl;have C:ZO (.agg (p.cells xp)) []=some (.ptr 0 0,[zA (p.cells xp)]):=rfl;have z:ZO (.agg [.int .i64 mem,.int .i64 w]) [zA (p.cells xp)]=some (.ptr 1 0,[zA (p.cells xp),.cells [.int .i64 mem,.int .i64 w]]):=rfl;have y:=Gq Q;have A:Z3 true 2 (.ptr 1 0) [zA (p.cells xp),.cells [.int .i64 mem,.int .i64 w]]=some (.agg [.int .i64 mem,.int .i64 w]):=rfl;generalize ([zA (p.cells xp),.cells [.int .i64 mem,.int .i64 w]]:Hp)=H1 at z y A;refine Vt (args':=[.agg (p.cells xp),.agg [.int .i64 mem,.int .i64 w],X]) (H1:=H1) (by rw[zT,W,zT,ZvI,zT,R];rfl) ?_ rfl;have N:=SS.len M 9;rw[ZiZ];unfold Zfg OG;have j:=ZoB K H1
 cases D:ZI p != 0 with
 |true=>simp only[C,go_sem,z,y,j,D,if_true]
 |false =>
  have J:=ZnA mem w H1
  cases I:DT mem w with
  |false=>simp only[C,go_sem,z,y,j,D,RA,A,J,I,yA,zC,if_false]
  |true =>
   by_cases u:8192<l.length
   ·have E:decide ((8192:Int)<(l.length:Int))=true:=by rw[decide_eq_true_eq];omega
    simp only[C,go_sem,z,y,j,D,RA,A,J,I,zN,zC,if_false,CJ,N,E,if_true,if_pos u]
   ·have E:decide ((8192:Int)<(l.length:Int))=false:=by rw[decide_eq_false_iff_not];omega
    have F:=Zuj M S hl [] H1 l [] rfl;simp only[C,go_sem,z,y,j,D,RA,A,J,I,zN,zC,if_false,CJ,N,E,if_true,if_neg u,Zhk];exact F
theorem ZoX {p:Spec}{mem w:Int}{l:List Zg}(h:OG p mem w l=0):ZI p=0/\(64<=mem/\mem<=65536/\2<=w/\w<=32):=by
 unfold OG at h
 cases j:ZI p != 0 with
 |true =>
  rw[if_pos j]at h;simp[h]at j
 |false =>
  rw[if_neg (by rw[j];simp)]at h
  cases u:DT mem w with
  |false=>rw[u]at h;simp at h
  |true=>exact⟨by simpa using j,ZoP u⟩
def Ze1 (L:Loc)(p:Spec)(w:Nat)(a:PSt):PSt:=YJ L p w a.O (YR w a.O.length) ⟨[],a.P,a.k,a.st⟩
def PP (L:Loc)(p:Spec)(w:Nat):Nat->PSt->PSt
 |0,a=>a
 |f+1,a=>if w<a.O.length then PP L p w f (Ze1 L p w a) else a
def Zj8 (L:Loc)(p:Spec)(O:List Pr)(l:List Zg):Prop:=∃ j:List (List Zg),O.map (·.2)=j.map (ZJ L p)/\j.flatten=l
theorem ZzC (L:Loc)(p:Spec)(k:Nat)(G:List Pr)(Q:List (List Zg))(h:G.map (·.2)=Q.map (ZJ L p))(u:G≠[]):(gN L p k G).2=ZJ L p Q.flatten:=by
 have j:Wr L p (G.map (·.2))=ZJ L p Q.flatten:=by rw[h];exact ZdZ Q
 cases G with
 |nil=>exact absurd rfl u
 |cons x r =>
  cases r with
  |nil =>
   cases Q with
   |nil=>simp at h
   |cons c r =>
    cases r with
    |nil =>
     have:x.2=ZJ L p c:=by simpa using h
     show x.2=_;rw[this];simp
    |cons d r=>simp at h
  |cons y r=>exact j
theorem Zrt {L:Loc}{p:Spec}{w:Nat}(hw:2<=w){R:List Pr}{u:List (List Zg)}(D:R.map (·.2)=u.map (ZJ L p))(P0:List Pr)(k0:Nat)(j:Stt):∀ q,(∀ i<q,i*w<R.length) ->
 ∃ y:List (List Zg),(YJ L p w R q ⟨[],P0,k0,j⟩).O.map (·.2)=y.map (ZJ L p)/\y.flatten=(u.take (q*w)).flatten:=by
 intro q
 induction q with
 |zero=>intro _;exact⟨[],rfl,by simp⟩
 |succ q F =>
  intro h;obtain⟨y,z,A⟩:=F fun i hi=>h i (by omega)
  have C:(X0 w R q).map (·.2)=((u.drop (q*w)).take w).map (ZJ L p):=by
   unfold X0;rw[yE,yF,D,<-yF,<-yE]
  have E:=ZzC L p (YJ L p w R q ⟨[],P0,k0,j⟩).k _ _ C (Zju hw (h q (by omega)));refine⟨y++[((u.drop (q*w)).take w).flatten],?_,?_⟩
  ·show ((YJ L p w R q ⟨[],P0,k0,j⟩).O++[gN L p (YJ L p w R q ⟨[],P0,k0,j⟩).k (X0 w R q)]).map (fun x:Pr=>x.2)=_;rw[zW,z,zW];simp only[zI,yH,E]
  ·rw[zL,A,yL,yM,List.take_add,zL];simp
theorem Zrs {L:Loc}{p:Spec}{w:Nat}(hw:2<=w){a:PSt}{l:List Zg}(h:Zj8 L p a.O l):Zj8 L p (Ze1 L p w a).O l:=by
 obtain⟨u,j,z⟩:=h
 have hl:u.length=a.O.length:=by
  have:=congrArg List.length j;simpa using this.symm
 obtain⟨y,A,C⟩:=Zrt (L:=L) (p:=p) hw j a.P a.k a.st (YR w a.O.length) fun i hi=>Zd5 (by omega) hi;refine⟨y,A,?_⟩;rw[C,zQ (by rw[hl];exact ZlW (by omega)),z]
structure SInv (L:Loc)(p:Spec)(r0 y0:Int)(l:List Zg)(a:PSt):Prop where
 perm:a.P.Perm a.O
 len:a.O.length<=40
 kle:a.k+2*a.O.length<=120
 short:ShortP a.O
 lines:Y3 a.O<=40
 m:0<=a.st.m/\a.st.m+2*a.O.length<=120
 ry:a.st.r=r0/\a.st.y=y0
 parts:Zj8 L p a.O l
theorem ZlV {w n:Nat}(hw:2<=w)(z:w<n):3*YR w n<=2*n:=by
 have j:YR w n*w<=n+w-1:=Nat.div_mul_le_self (n+w-1) w
 cases u:YR w n with
 |zero=>omega
 |succ d =>
  rw[u,yL,yM]at j;have y:d*2<=d*w:=Nat.mul_le_mul_left _ hw;omega
theorem PInv.sinv {L:Loc}{p:Spec}{w:Nat}(hw:2<=w){z A:Int}{l:List Zg}{a:PSt}(h:SInv L p z A l a)(D:w<a.O.length)(u:PInv w a.O a.k a.st (YR w a.O.length) (Ze1 L p w a)):SInv L p z A l (Ze1 L p w a):=by
 have H:=ZlV hw D;have j:=ZlW (w:=w) (i:=a.O.length) (by omega);have I:=u.kle;have hm:=u.m;have E:=h.kle;have F:=h.m;have y:(Ze1 L p w a).O.length=YR w a.O.length:=u.len;have C:=h.len;refine⟨?_,by rw[y];omega,by rw[y];omega,u.short,?_,⟨by omega,by rw[y];omega⟩,⟨u.ry.1.trans h.ry.1,u.ry.2.trans h.ry.2⟩,Zrs hw h.parts⟩
 ·have:=u.perm
  rwa [List.drop_of_length_le j,zK]at this
 ·have:=u.lines;rw[zQ j]at this;have:=h.lines;omega
theorem ZlO (mem:Int)(l:List Zg):(J9 (Y9 cS mem l)).flatten=l/\∀ c∈J9 (Y9 cS mem l),c≠[]:=by
 have h:=ZlQ cS mem l;unfold J9;split
 ·rename_i u;have:=h.flat;rw[u,zK]at this;exact⟨this,h.ne⟩
 ·rename_i u;refine⟨by rw[zL];simpa using h.flat,fun c y=>?_⟩;rcases zD.1 y with j|j
  ·exact h.ne c j
  ·rw[zB.1 j];exact u
theorem Zdz {j:List (List Zg)}(h:∀ c∈j,c≠[]):j.length<=j.flatten.length:=by
 induction j with
 |nil=>simp
 |cons c j y =>
  have z:=y fun d u=>h d (by simp[u]);have A:0<c.length:=List.length_pos_iff.2 (h c (by simp));rw[zH,zG,zU];omega
def Zlm (L:Loc)(p:Spec)(j:List (List Zg)):PSt:=⟨wP L p [] 0 j,wP L p [] 0 j,j.length,wT L p [] 0 ⟨0,0,0,0⟩ j⟩
theorem ZAx (L:Loc)(p:Spec):∀ (r:List (List Zg)) (P:List Pr) (k:Nat) (st:Stt),(wT L p P k st r).r=st.r+r.length/\(wT L p P k st r).m=st.m:=by
 intro r
 induction r with
 |nil=>intro P k st;simp[wT]
 |cons c r z =>
  intro P k st;obtain⟨j,u⟩:=z (P++[Fz L p k c]) (k+1) ⟨st.r+1,st.m,max st.y (XP cS c),max st.k (ZN (P++[Fz L p k c]):Int)⟩;simp only[wT,j,u,zU];refine⟨by omega,trivial⟩
theorem Zr3:∀ (P:List Pr),Y3 P=(P.map (·.2)).flatten.length:=by
 intro P
 induction P with
 |nil=>rfl
 |cons x P j=>rw[zI,zH,zG,<-j];rfl
theorem Zbf (L:Loc)(p:Spec):∀ j:List (List Zg),(j.map (ZJ L p)).flatten.length<=j.flatten.length:=by
 intro j
 induction j with
 |nil=>simp
 |cons c j u =>
  have:=HO L p c;rw[zI,zH,zG,zH,zG];omega
theorem ZuC {L:Loc}{p:Spec}{j:List (List Zg)}{l:List Zg}(C:j.flatten=l)(F:∀ c∈j,c≠[])(hl:l.length<=40)(hs:∀ s∈l,s.length<=200) :
 SInv L p (j.length:Int) (wT L p [] 0 ⟨0,0,0,0⟩ j).y l (Zlm L p j):=by
 have D:=Zdz F;rw[C]at D;have u:=ZAb L p j [] 0;simp only[yH,List.nil_append]at u;have E:=ZAa L p j [] 0;simp only[List.length_nil,zE]at E;obtain⟨J,K⟩:=ZAx L p j [] 0 ⟨0,0,0,0⟩;refine⟨List.Perm.refl _,?_,?_,?_,?_,?_,⟨by show (wT L p [] 0 ⟨0,0,0,0⟩ j).r=_;rw[J];simp,rfl⟩,j,u,C⟩
 ·show (wP L p [] 0 j).length<=40;omega
 ·show j.length+2*(wP L p [] 0 j).length<=120;omega
 ·intro x I s z;have A:x.2∈(wP L p [] 0 j).map (·.2):=List.mem_map_of_mem I;rw[u]at A;obtain⟨c,H,e⟩:=yI.1 A;rw[<-e]at z;exact hs s (by rw[<-C];exact zV.2 ⟨c,H,NH L p c s z⟩)
 ·show Y3 (wP L p [] 0 j)<=40;rw[Zr3,u];have:=Zbf L p j;rw[C]at this;omega
 ·show 0<=(wT L p [] 0 ⟨0,0,0,0⟩ j).m/\(wT L p [] 0 ⟨0,0,0,0⟩ j).m+2*((wP L p [] 0 j).length:Int)<=120;rw[K];exact⟨yN _,by show (0:Int)+_<=_;omega⟩
theorem ZA4 {B:List Fil}:∀ (P:List Pr),(P.map (·.1)).Nodup->(∀ x∈P,x.1∉B.map Fil.name)->(P.map (·.1)).foldl Vc (B++Yq P)=B:=by
 intro P
 induction P with
 |nil=>intro _ _;simp[Yq]
 |cons x P z =>
  intro j hB;rw[zI,List.foldl_cons,Zix (hB x (by simp)),Zn6 j,ZhH j];rw[zI,zR]at j;exact z j.2 fun y u=>hB y (by simp[u])
theorem ZgJ {H:Hp}{i:Nat}{x:AObj}(h:H[i]?=some x):H.set i x=H:=by
 apply List.ext_getElem?;intro j;by_cases u:i=j
 ·subst u;rw[Zt _ h,h]
 ·rw[List.getElem?_set_ne u]
theorem Zv7 (a b c:AV)(H:Hp):Yd cfg (Z9 cfg) (.fn (.func 44) [] [a,b,c]) [] H=LZ [a,b,c] H:=by kernel_rfl
structure FxAt (H:Hp)(zc sc ec mc cc o:Nat)(mem w:Int)(b:Bool):Prop where
 z:H[zc]?=some (.cells [.int .i64 mem,.int .i64 w])
 s:H[sc]?=some (.cells [.int .i64 0,.int .i64 0,.int .i64 0,.int .i64 0])
 e:H[ec]?=some (.cells [.int .i64 0])
 m:H[mc]?=some (.cells [.ptr o 0])
 c:H[cc]?=some (.cells [.bool b])
theorem FxAt.stp {H H':Hp}{D sc y A u o:Nat}{mem w:Int}{b:Bool}{C:List Nat}(h:FxAt H D sc y A u o mem w b)(hs:Stp C H H')(j:∀ a∈[D,sc,y,A,u],a∉C):FxAt H' D sc y A u o mem w b :=
 ⟨hs.get h.z (j _ (by simp)),hs.get h.s (j _ (by simp)),hs.get h.e (j _ (by simp)),hs.get h.m (j _ (by simp)),hs.get h.c (j _ (by simp))⟩
theorem FxAt.lt {H:Hp}{C sc u A j o:Nat}{mem w:Int}{b:Bool}(h:FxAt H C sc u A j o mem w b):∀ a∈[C,sc,u,A,j],a<H.length:=by
 intro a y;simp only[zF,zJ,or_false]at y;rcases y with rfl|rfl|rfl|rfl|rfl
 ·exact Zh h.z
 ·exact Zh h.s
 ·exact Zh h.e
 ·exact Zh h.m
 ·exact Zh h.c
theorem FxAt.e0 {H:Hp}{z sc j y u o:Nat}{mem w:Int}{b:Bool}(h:FxAt H z sc j y u o mem w b):Zf 1 (.ptr j 0) (.int .i64 0) H=some (.tuple [],H):=by
 have:=Qb h.e 0 (v:=.int .i64 0) rfl rfl (by simp);rw[this];congr 2;exact ZgJ h.e
section
variable {o g t:Nat}{L:Loc}{lx cl e:AV}{p:Spec}{xp:AV}{B:List Fil}(hB:BOk B)(hl:LocAV (.agg (L.cells lx cl e)) L)(hok:LocOk L)(hsm:LocSm L)(hs:SpecAV (.agg (p.cells xp)) p)(hks:∀ k∈p.keys,KeOk k)(hkl:p.keys.length<=1048576)
include hB hl hok hsm hs hks hkl
theorem ZoA {w:Nat}(hw:2<=w)(hw2:w<=32){U sc K T J:Nat}{mem:Int}{b:Bool}{r0 y0:Int}{l:List Zg}(X:AV)(H0:Hp):∀ (f:Nat) (a:PSt) (tm:Tmp) (s:Sto) (A S:List Nat) (H:Hp),a.O.length<=f->SInv L p r0 y0 l a ->
 XS B tm s a.P a.k->SysAt H o t tm s A->SrAt H g o A L lx cl e p xp a.O a.st S->FxAt H U sc K T J o mem (w:Int) b->(∀ x∈[U,sc,K,T,J],x∉S/\x∉A) ->
 ∃ H' A' V I s',Km (.ptr U 0) (.ptr sc 0) (.ptr K 0) (.ptr T 0) (.ptr J 0) (.ptr g 0) X H0 H=Kk (.ptr sc 0) (.ptr K 0) (.ptr T 0) (.ptr J 0) (.ptr g 0) X H0 H' /\
  SInv L p r0 y0 l (PP L p w f a)/\XS B I s' (PP L p w f a).P (PP L p w f a).k/\SysAt H' o t I s' A'/\SrAt H' g o A' L lx cl e p xp (PP L p w f a).O (PP L p w f a).st V/\FxAt H' U sc K T J o mem (w:Int) b /\
  (∀ x∈[U,sc,K,T,J],x∉V/\x∉A')/\Stp (S++A) H H'/\(∀ x∈A',x∈A\/H.length<=x)/\(∀ x∈V,x∈S\/H.length<=x):=by
 intro f
 induction f with
 |zero =>
  intro a tm s A S H hf C Y j W M Q;have E:=W;obtain⟨x,g1,g2,g3,g4,g5⟩:=W;have F:=ZW g1 12 (v:=x) rfl;have u:=SS.len g2.ss 9;rw[zX]at u;have l1:=ZW M.z 1 (v:=.int .i64 (w:Int)) rfl;have y:decide ((w:Int)<(a.O.length:Int))=false:=by rw[decide_eq_false_iff_not];omega
  refine⟨H,A,S,tm,s,?_,C,Y,j,E,M,Q,Stp.refl _ _,fun x h=>.inl h,fun x h=>.inl h⟩;rw[G0];simp only[go_sem,zE,F,u,l1,y]
 |succ f ih =>
  intro a tm s A S H hf C Y j W M Q;have E:=W;obtain⟨x,g1,g2,g3,g4,g5⟩:=W;have F:=ZW g1 12 (v:=x) rfl;have u:=SS.len g2.ss 9;rw[zX]at u;have l1:=ZW M.z 1 (v:=.int .i64 (w:Int)) rfl;by_cases Z:w<a.O.length
  ·have y:decide ((w:Int)<(a.O.length:Int))=true:=by rw[decide_eq_true_eq];omega
   have ag:=C.len;have af:=C.kle;have ah:=C.m;obtain⟨H1,A1,S1,tm1,s1,p1,p2,p3,p4,p5,p6,p7,p8⟩:=ZwY hB hl hok hsm hs hks hkl hw hw2 (by omega) C.short C.lines (by omega) ⟨by omega,by omega⟩ C.perm Y j E;have aa:=M.lt
   have N:=M.stp p6 fun x D h=>by
    rcases zD.1 h with h|h
    ·exact (Q x D).1 h
    ·exact (Q x D).2 h
   have ac:∀ x∈[U,sc,K,T,J],x∉S1/\x∉A1:=fun x D=>by
    have:=aa x D;refine⟨fun h=>?_,fun h=>?_⟩
    ·rcases p8 x h with h|h
     ·exact (Q x D).1 h
     ·omega
    ·rcases p7 x h with h|h
     ·exact (Q x D).2 h
     ·omega
   have ab:=PInv.sinv hw C Z p4
   have R:(Ze1 L p w a).O.length<=f:=by
    have:=p4.len;have hc:=ZlV hw Z;show (YJ L p w a.O (YR w a.O.length) ⟨[],a.P,a.k,a.st⟩).O.length<=f;omega
   obtain⟨H',A',V,I,s',m1,m2,m3,m4,m5,m6,m7,m8,m9,ad⟩:=ih (Ze1 L p w a) tm1 s1 A1 S1 H1 R ab p3 p2 p5 N ac;have hr:PP L p w (f+1) a=PP L p w f (Ze1 L p w a):=by simp only[PP,if_pos Z]
   rw[hr];have ae:=p6.len;have e0:((0:Int) != 0)=false:=rfl;have le:=ZW N.e 0 (v:=.int .i64 0) rfl;refine⟨H',A',V,I,s',?_,m2,m3,m4,m5,m6,m7,?_,fun x D=>?_,fun x D=>?_⟩
   ·rw[G0];simp only[go_sem,zE,F,u,l1,y,Zdq,p1,N.e0,le,e0];exact m1
   ·refine p6.trans m8 (fun _ h=>h) fun x h=>?_;rcases zD.1 h with h|h
    ·exact (p8 x h).imp (fun h=>List.mem_append_left _ h) id
    ·exact (p7 x h).imp (fun h=>zS _ h) id
   ·rcases m9 x D with h|h
    ·exact p7 x h
    ·exact .inr (by omega)
   ·rcases ad x D with h|h
    ·exact p8 x h
    ·exact .inr (by omega)
  ·have y:decide ((w:Int)<(a.O.length:Int))=false:=by rw[decide_eq_false_iff_not];omega
   have hr:PP L p w (f+1) a=a:=by simp only[PP,if_neg Z]
   rw[hr];refine⟨H,A,S,tm,s,?_,C,Y,j,E,M,Q,Stp.refl _ _,fun x h=>.inl h,fun x h=>.inl h⟩;rw[G0];simp only[go_sem,zE,F,u,l1,y]
theorem ZuH {w:Nat}{zc sc M V C:Nat}{mem:Int}{r0 y0:Int}{l:List Zg}(an:[zc,sc,M,V,C].Nodup)(H0:Hp){a:PSt}{tm:Tmp}{s:Sto}{A S:List Nat}{H:Hp}(hI:SInv L p r0 y0 l a)
 (D:XS B tm s a.P a.k) (ae:SysAt H o t tm s A) (hS:SrAt H g o A L lx cl e p xp a.O a.st S) (hF:FxAt H zc sc M V C o mem (w:Int) false) (hd:∀ x∈[zc,sc,M,V,C],x∉S/\x∉A) :
 ∃ H' y pk S1,Kk (.ptr sc 0) (.ptr M 0) (.ptr V 0) (.ptr C 0) (.ptr g 0) (.fn (.func 44) [] [.ptr M 0,.ptr C 0,.ptr V 0]) H0 H =
  some (.tuple [y,.agg [.int .i64 a.st.r,.int .i64 a.st.m,.int .i64 a.st.y,.int .i64 a.st.k],.int .i64 0],H')/\SS y (ZJ L p l)/\StoreAt H' t ⟨262144,pk,B,false,0⟩ S1/\pk<=262144 /\
  Stp (sc::C::A) H H'/\(∀ x∈S1,x∈A\/H.length<=x):=by
 have ai:=hF.lt;have al:=hS.off;obtain⟨H1,y,q1,q2,q3,q4⟩:=ZtL hB hl hok hsm hs hks hkl (by have:=hI.len;omega) hI.lines (fun x j=>hI.perm.mem_iff.2 j) D ae hS;obtain⟨Ps,c1,c2⟩:=hI.parts;rw[c1,ZdZ,c2]at q2;have u:=hF.stp q4 fun x j h=>(hd x j).2 h;have aj:=hS.stp q4 al fun x h=>.inl h;have az:=q4.len
 -- closed is true
 have X:=Qb u.c 0 (v:=.bool true) rfl rfl (by simp);have ag:(yJ [AV.bool false] 0 (.bool true))=[.bool true]:=rfl;rw[ag]at X;have K:Stp [C] H1 (H1.set C (.cells [.bool true])):=Stp.set _ _ (by simp);have am:=Zt (zA [.bool true]) u.c;have ac:=an;simp only[zR,zF,zJ,or_false,not_or,yB,not_false_eq_true,and_true]at ac;obtain⟨⟨n1,n2,n3,n4⟩,⟨n5,n6,n7⟩,⟨n8,n9⟩,aw⟩:=ac
 have R:FxAt (H1.set C (.cells [.bool true])) zc sc M V C o mem (w:Int) true :=
  ⟨K.get u.z (by simpa using n4),K.get u.s (by simpa using n7),K.get u.e (by simpa using n9),K.get u.m (by simpa using aw),am⟩
 have aa:=hd C (by simp);have I:=q3.stp K fun x j h=>aa.2 (by rw[<-zB.1 h];exact j);have T:=aj.stp (A':=A) K (fun x j h=>aa.1 (by rw[<-zB.1 h];exact j)) fun x h=>.inl h;have ay:=K.len;generalize bb:H1.set C (.cells [.bool true])=H2 at X K R I T ay
 -- Close
 obtain⟨Z,A3,bd,s3,k1,Q,k3,k4,k5,k6,k7,k8⟩:=Zs5 I D.tmOk (D.stoOk hB) D.stE.2.2.2.1 D.stE.2.2.2.2 (by rw[D.tmE.2.1];exact D.nd) (fun n hn=>by
  rw[D.tmE.2.1]at hn;obtain⟨x,j,rfl⟩:=yI.1 hn;rw[D.get hB j];simp) D.tmE.2.2.2.2
 have ao:s3=⟨262144,s.peak,B,false,0⟩:=by
  rw[k8,D.tmE.2.1,D.stE.2.2.1,ZA4 a.P D.nd (fun x j=>by obtain⟨i,_,_,e⟩:=D.num x j;rw[e];exact XS.notB hB i)];obtain⟨f1,f2,f3,f4,f5⟩:=D.stE;cases s;dsimp only at f1 f4 f5 ⊢;subst f1 f4 f5;rfl
 have F:=R.stp Q.stp fun x j h=>(hd x j).2 h;have ak:=T.stp Q.stp T.off Q.own;have ba:=Q.stp.len;obtain⟨x,g1,g2,g3,g4,g5⟩:=ak;have ap:Z3 true 4 (.ptr g 13) Z=some (.agg [.int .i64 a.st.r,.int .i64 a.st.m,.int .i64 a.st.y,.int .i64 a.st.k]):=by rw[YE g1];rfl
 have W:=VU (off:=0) (sz:=4) (v:=.agg [.int .i64 a.st.r,.int .i64 a.st.m,.int .i64 a.st.y,.int .i64 a.st.k]) F.s rfl rfl (by simp);have ah:splice [AV.int .i64 0,.int .i64 0,.int .i64 0,.int .i64 0] 0 (AV.agg [.int .i64 a.st.r,.int .i64 a.st.m,.int .i64 a.st.y,.int .i64 a.st.k]).cells=[.int .i64 a.st.r,.int .i64 a.st.m,.int .i64 a.st.y,.int .i64 a.st.k]:=rfl;rw[ah]at W;have t4:Stp [sc] Z (Z.set sc (.cells [.int .i64 a.st.r,.int .i64 a.st.m,.int .i64 a.st.y,.int .i64 a.st.k])):=Stp.set _ _ (by simp);have N:=Zt (zA [.int .i64 a.st.r,.int .i64 a.st.m,.int .i64 a.st.y,.int .i64 a.st.k]) F.s;have E:=t4.get F.e (by simpa using Ne.symm n5);have ab:=t4.get F.c (by simpa using Ne.symm n7);have ad:=hd sc (by simp)
 have J:=Q.at'.stp t4 fun x j h=>by
  rcases Q.own x j with k|k
  ·exact ad.2 (by rw[<-zB.1 h];exact k)
  ·have:=ai sc (by simp);rw[zB.1 h]at k;omega
 generalize bc:Z.set sc (.cells [.int .i64 a.st.r,.int .i64 a.st.m,.int .i64 a.st.y,.int .i64 a.st.k])=Y at W t4 N E ab J
 have ax:Zf 1 (.ptr M 0) (.int .i64 0) Y=some (.tuple [],Y):=by
  have:=Qb E 0 (v:=.int .i64 0) rfl rfl (by simp);rw[this];congr 2;exact ZgJ E
 have af:=ZW E 0 (v:=.int .i64 0) rfl;have au:Z3 true 4 (.ptr sc 0) Y=some (.agg [.int .i64 a.st.r,.int .i64 a.st.m,.int .i64 a.st.y,.int .i64 a.st.k]):=by rw[YE N];rfl
 have e0:((0:Int) != 0)=false:=rfl
 have U:Yd cfg (Z9 cfg) (.fn (.func 44) [] [.ptr M 0,.ptr C 0,.ptr V 0]) [] Y=some (.tuple [],Y):=by
  rw[Zv7,Zbj];unfold E7;simp only[go_sem,af,e0]
 obtain⟨Bs,Ss,z1,z2,z3,z4⟩:=J;rw[ao]at z2;refine⟨Y,y,s.peak,Ss,?_,q2,z2,D.stE.2.1,?_,fun x j=>?_⟩
 ·have aq:=ZW u.e 0 (v:=.int .i64 0) rfl;have ar:=ZW F.e 0 (v:=.int .i64 0) rfl;have lm:=ZW R.m 0 (v:=.ptr o 0) rfl;rw[Zdn];simp only[q1,go_sem,zO,zP,u.e0,aq,e0,Zdo,X,lm,k1,F.e0,ar,Zdp,zE,ap,W,ax,Zdl,U,au,af]
 ·have b1:Stp (sc::C::A) H H1:=q4.mono fun x j=>by simp[j]
  have b2:Stp (sc::C::A) H H2:=b1.trans K (fun _ h=>h) fun x h=>.inl (by rw[zB.1 h];simp);have b3:Stp (sc::C::A) H Z:=b2.trans Q.stp (fun _ h=>h) fun x h=>.inl (by simp[h]);exact b3.trans t4 (fun _ h=>h) fun x h=>.inl (by rw[zB.1 h];simp)
 ·have:x∈A3:=by rw[z4];exact zS _ j
  rcases Q.own x this with h|h
  ·exact .inl h
  ·exact .inr (by omega)
end
def U1 (mem:Int)(l:List Zg):List (List Zg):=J9 (Y9 cS mem l)
def Zqm (L:Loc)(p:Spec)(mem:Int)(w:Nat)(l:List Zg):Stt:=(PP L p w 40 (Zlm L p (U1 mem l))).st
def ZrL (st:Stt):AV:=.agg [.int .i64 st.r,.int .i64 st.m,.int .i64 st.y,.int .i64 st.k]
def Zs8 (t:Nat)(s:Sto):Prop:=∀ (H:Hp) (S:List Nat),StoreAt H t s S->∃ H' A' o,UT [.ptr t 0,.str Zgw,.int .i64 262144] H=some (.tuple [.ptr o 0,.int .i64 0],H') /\
 SysAt H' o t ⟨Zgw,[],[],262144,0,false⟩ s A'/\Stp S H H'/\(∀ a∈A',a∈S\/H.length<=a)
theorem XS.start {B:List Fil}{pk:Nat}(u:pk<=262144):XS B ⟨Zgw,[],[],262144,0,false⟩ ⟨262144,pk,B,false,0⟩ [] 0 :=
 ⟨⟨rfl,rfl,rfl,rfl,rfl⟩,(fun x j=>by cases j),⟨rfl,u,by simp[Yq],rfl,rfl⟩,by simp,(fun x j=>by cases j),by omega,by simp,by simp,by simp[ZN],(fun x j=>by cases j)⟩
theorem Zv3 {a q x:AV}{L:Loc}{p:Spec}{l:List Zg}(ha:LocAV a L)(hok:LocOk L)(hsm:LocSm L)(hq:SpecAV q p)(hks:∀ k∈p.keys,KeOk k)(hkl:p.keys.length<=1048576)(hx:SS x l)(ah:l.length<=40)(C:∀ s∈l,s.length<=200)
 {B:List Fil} (hB:BOk B) {w:Nat} {mem:Int} (ae:OG p mem (w:Int) l=0) {t pk:Nat} {S0:List Nat} {H:Hp} (h:StoreAt H t ⟨262144,pk,B,false,0⟩ S0) (ax:pk<=262144) (V:Zs8 t ⟨262144,pk,B,false,0⟩) :
 ∃ H' y ao S1,P7 [.ptr t 0,a,q,.agg [.int .i64 mem,.int .i64 (w:Int)],x] H=some (.tuple [y,ZrL (Zqm L p mem w l),.int .i64 0],H')/\SS y (ZJ L p l)/\StoreAt H' t ⟨262144,ao,B,false,0⟩ S1/\ao<=262144 /\
  Stp S0 H H'/\(∀ z∈S1,z∈S0\/H.length<=z)/\SInv L p ((U1 mem l).length:Int) (wT L p [] 0 ⟨0,0,0,0⟩ (U1 mem l)).y l (PP L p w 40 (Zlm L p (U1 mem l))):=by
 have F:Xg l:=fun s hs=>by have:=C s hs;omega
 obtain⟨bl,bq,hm2,br,hw2⟩:=ZoX ae;have M:=hq;have W:=ha;obtain⟨lx,cl,e,rfl,bp,bm,bn⟩:=ha;obtain⟨xp,rfl,bs⟩:=hq
 -- the first cells
 have Y:(H++[zA (L.cells lx cl e),.cells (p.cells xp),.cells [.int .i64 mem,.int .i64 (w:Int)],.cells [.int .i64 0,.int .i64 0,.int .i64 0,.int .i64 0],.cells [.int .i64 0]]).length=H.length+5:=by simp
 have b1:ZO (.agg (p.cells xp)) (H++[zA (L.cells lx cl e)])=some (.ptr (H.length+1) 0,H++[zA (L.cells lx cl e),.cells (p.cells xp)]):=by rw[Yf];simp
 have b2:ZO (.agg [.int .i64 mem,.int .i64 (w:Int)]) (H++[zA (L.cells lx cl e),.cells (p.cells xp)])=some (.ptr (H.length+2) 0,H++[zA (L.cells lx cl e),.cells (p.cells xp),.cells [.int .i64 mem,.int .i64 (w:Int)]]):=by rw[Yf];simp
 have f0:(H++[zA (L.cells lx cl e),.cells (p.cells xp),.cells [.int .i64 mem,.int .i64 (w:Int)],.cells [.int .i64 0,.int .i64 0,.int .i64 0,.int .i64 0],.cells [.int .i64 0]])[H.length]?=some (.cells (L.cells lx cl e)):=by simp
 have f1:(H++[zA (L.cells lx cl e),.cells (p.cells xp),.cells [.int .i64 mem,.int .i64 (w:Int)],.cells [.int .i64 0,.int .i64 0,.int .i64 0,.int .i64 0],.cells [.int .i64 0]])[H.length+1]?=some (.cells (p.cells xp)):=by simp
 have f2:(H++[zA (L.cells lx cl e),.cells (p.cells xp),.cells [.int .i64 mem,.int .i64 (w:Int)],.cells [.int .i64 0,.int .i64 0,.int .i64 0,.int .i64 0],.cells [.int .i64 0]])[H.length+2]?=some (.cells [.int .i64 mem,.int .i64 (w:Int)]):=by simp
 have f3:(H++[zA (L.cells lx cl e),.cells (p.cells xp),.cells [.int .i64 mem,.int .i64 (w:Int)],.cells [.int .i64 0,.int .i64 0,.int .i64 0,.int .i64 0],.cells [.int .i64 0]])[H.length+3]?=some (.cells [.int .i64 0,.int .i64 0,.int .i64 0,.int .i64 0]):=by simp
 have f4:(H++[zA (L.cells lx cl e),.cells (p.cells xp),.cells [.int .i64 mem,.int .i64 (w:Int)],.cells [.int .i64 0,.int .i64 0,.int .i64 0,.int .i64 0],.cells [.int .i64 0]])[H.length+4]?=some (.cells [.int .i64 0]):=by simp
 have t1:Stp [] H (H++[zA (L.cells lx cl e),.cells (p.cells xp),.cells [.int .i64 mem,.int .i64 (w:Int)],.cells [.int .i64 0,.int .i64 0,.int .i64 0,.int .i64 0],.cells [.int .i64 0]]):=Stp.push _ _
 have J:(H++[zA (L.cells lx cl e),.cells (p.cells xp),.cells [.int .i64 mem,.int .i64 (w:Int)]]++[zA [.int .i64 0,.int .i64 0,.int .i64 0,.int .i64 0]]++[zA [.int .i64 0]]) =
  (H++[zA (L.cells lx cl e),.cells (p.cells xp),.cells [.int .i64 mem,.int .i64 (w:Int)],.cells [.int .i64 0,.int .i64 0,.int .i64 0,.int .i64 0],.cells [.int .i64 0]]):=by simp
 have al:(H++[zA (L.cells lx cl e),.cells (p.cells xp),.cells [.int .i64 mem,.int .i64 (w:Int)]]).length=H.length+3:=by simp
 have am:(H++[zA (L.cells lx cl e),.cells (p.cells xp),.cells [.int .i64 mem,.int .i64 (w:Int)]]++[zA [.int .i64 0,.int .i64 0,.int .i64 0,.int .i64 0]]).length=H.length+4:=by simp
 generalize bj:(H++[zA (L.cells lx cl e),.cells (p.cells xp),.cells [.int .i64 mem,.int .i64 (w:Int)],.cells [.int .i64 0,.int .i64 0,.int .i64 0,.int .i64 0],.cells [.int .i64 0]])=H1 at Y f0 f1 f2 f3 f4 t1 J;have ls:=Gq f1;have lz:Z3 true 2 (.ptr (H.length+2) 0) H1=some (.agg [.int .i64 mem,.int .i64 (w:Int)]):=by rw[YE f2];rfl
 obtain⟨H2,q1,Q⟩:=ZsF hx F (by omega) M mem (w:Int) t H1;rw[ae]at q1;have E:∀ i,i∉([]:List Nat):=fun i h=>by cases h
 have ac:=h.lt;have h2:=(h.stp t1 fun a _=>E a).stp Q fun a _=>E a;obtain⟨j,A3,o,o1,o2,o3,o4⟩:=V H2 S0 h2;have bt:=Q.len;have bu:=o3.len;have aa:=o2.lt;have u:∀ i,H.length<=i->i<H2.length->i∉S0:=fun i h1 _ hS=>by have:=ac i hS;omega
 have aw:∀ i,H.length<=i->i<H2.length->i∉A3:=fun i h1 h2 hA=>by
  rcases o4 i hA with k|k
  ·exact u i h1 h2 k
  ·omega
 have g0:=o3.get (Q.get f0 (E _)) (u _ (by omega) (by omega));have g1:=o3.get (Q.get f1 (E _)) (u _ (by omega) (by omega));have g2:=o3.get (Q.get f2 (E _)) (u _ (by omega) (by omega));have g3:=o3.get (Q.get f3 (E _)) (u _ (by omega) (by omega));have g4:=o3.get (Q.get f4 (E _)) (u _ (by omega) (by omega))
 -- m,closed and the sorter
 have sm:=Qb (H:=j++[zA [.nilp]]) (o:=j.length) (l:=[.nilp]) (by simp) 0 (v:=.ptr o 0) rfl rfl (by simp);have em:(j++[zA [.nilp]]).set j.length (.cells (yJ [.nilp] 0 (.ptr o 0)))=j++[zA [.ptr o 0]]:=by simp
 rw[em]at sm;have S:(j++[zA [.ptr o 0]])[H.length+4]?=some (.cells [.int .i64 0]):=Yl g4 _
 have se:Zf 1 (.ptr (H.length+4) 0) (.int .i64 0) (j++[zA [.ptr o 0]])=some (.tuple [],j++[zA [.ptr o 0]]):=by
  have:=Qb S 0 (v:=.int .i64 0) rfl rfl (by simp);rw[this];congr 2;exact ZgJ S
 have ba:=ZW S 0 (v:=.int .i64 0) rfl;have an:(j++[zA [.ptr o 0]]).length=j.length+1:=by simp
 have sc:=Qb (H:=j++[zA [.ptr o 0]]++[zA [.bool false]]) (o:=j.length+1) (l:=[.bool false]) (by simp) 0 (v:=.bool false) rfl rfl (by simp);have ec:(j++[zA [.ptr o 0]]++[zA [.bool false]]).set (j.length+1) (.cells (yJ [.bool false] 0 (.bool false)))=j++[zA [.ptr o 0],.cells [.bool false]]:=by simp
 rw[ec]at sc;have t5:Stp [] j (j++[zA [.ptr o 0],.cells [.bool false],.cells (XN o L lx cl e p xp .nils ⟨0,0,0,0⟩)]):=Stp.push _ _;have bd:Z3 false 1 (.ptr j.length 0) (j++[zA [.ptr o 0],.cells [.bool false]])=some (.ptr o 0):=ZW (l:=[.ptr o 0]) (by simp) 0 rfl;have bc:Z3 true 6 (.ptr H.length 0) (j++[zA [.ptr o 0],.cells [.bool false]])=some (.agg (L.cells lx cl e)):=ZdQ (Yl g0 _);have be:Z3 true 5 (.ptr (H.length+1) 0) (j++[zA [.ptr o 0],.cells [.bool false]])=some (.agg (p.cells xp)):=Gq (Yl g1 _);have X:(X5 [(0,1,.ptr o 0),(1,6,.agg (L.cells lx cl e)),(7,5,.agg (p.cells xp))] [.nilp,(.str []),.nils,(.str []),(.str []),.nils,.nils,.nils,(.int .i64 0),(.int .i64 0),(.bool false),(.bool false),.nils,(.int .i64 0),(.int .i64 0),(.int .i64 0),(.int .i64 0)]).map AV.agg=some (AV.agg (XN o L lx cl e p xp .nils ⟨0,0,0,0⟩)):=rfl;have bx:ZO (.agg (XN o L lx cl e p xp .nils ⟨0,0,0,0⟩)) (j++[zA [.ptr o 0],.cells [.bool false]])=some (.ptr (j.length+2) 0,j++[zA [.ptr o 0],.cells [.bool false],.cells (XN o L lx cl e p xp .nils ⟨0,0,0,0⟩)]):=by rw[Yf];simp
 have ai:(j++[zA [.ptr o 0],.cells [.bool false],.cells (XN o L lx cl e p xp .nils ⟨0,0,0,0⟩)])[j.length]?=some (.cells [.ptr o 0]):=by simp
 have ad:(j++[zA [.ptr o 0],.cells [.bool false],.cells (XN o L lx cl e p xp .nils ⟨0,0,0,0⟩)])[j.length+1]?=some (.cells [.bool false]):=by simp
 have ag:(j++[zA [.ptr o 0],.cells [.bool false],.cells (XN o L lx cl e p xp .nils ⟨0,0,0,0⟩)])[j.length+2]?=some (.cells (XN o L lx cl e p xp .nils ⟨0,0,0,0⟩)):=by simp
 have l5:(j++[zA [.ptr o 0],.cells [.bool false],.cells (XN o L lx cl e p xp .nils ⟨0,0,0,0⟩)]).length=j.length+3:=by simp
 generalize bk:(j++[zA [.ptr o 0],.cells [.bool false],.cells (XN o L lx cl e p xp .nils ⟨0,0,0,0⟩)])=R at t5 bx ai ad ag l5
 have T:FxAt R (H.length+2) (H.length+3) (H.length+4) j.length (j.length+1) o mem (w:Int) false :=
  ⟨t5.get g2 (E _),t5.get g3 (E _),t5.get g4 (E _),ai,ad⟩
 have Z:=o2.stp t5 fun a _=>E a
 have ap:SrAt R (j.length+2) o A3 L lx cl e p xp [] ⟨0,0,0,0⟩ [j.length+2] :=
  ⟨.nils,ag,.inl ⟨rfl,rfl⟩,fun a ha hA=>by have:=aa a hA;simp[ZG]at ha;omega,by simp[ZG],by simp[ZG]⟩
 have K:∀ z∈[H.length+2,H.length+3,H.length+4,j.length,j.length+1],z∉[j.length+2]/\z∉A3:=fun z D=>by
  simp only[zF,zJ,or_false]at D ⊢;refine⟨by omega,fun hA=>?_⟩;have bo:=aa z hA;rcases o4 z hA with k|k
  ·have:=ac z k;omega
  ·omega
 have aj:[H.length+2,H.length+3,H.length+4,j.length,j.length+1].Nodup:=by
  simp only[zR,zF,zJ,or_false,not_or,yB,not_false_eq_true,and_true];omega
 -- the runs are written
 obtain⟨I,af⟩:=ZlO mem l;have aq:=Zdz af;rw[I]at aq;obtain⟨cc,v1,v2⟩:=ZiF (mem:=mem) hx F (by omega) R;have az:=v2.len 29
 have ar:∀ c∈U1 mem l,c.length<=40/\∀ s∈c,s.length<=200:=fun c hc=>by
  have ak:∀ s∈c,s∈l:=fun s hs=>by rw[<-I];exact zV.2 ⟨c,hc,hs⟩
  refine⟨?_,fun s hs=>C s (ak s hs)⟩;have:c.length<=(U1 mem l).flatten.length:=(List.sublist_flatten_of_mem hc).length_le;unfold U1 at this;rw[I]at this;omega
 obtain⟨H6,A6,S6,bi,s6,w1,w2,w3,w4,w5,w6,w7⟩:=Zs3 hB W hok M hks v2 (by omega) ar R (U1 mem l) [] [] 0 ⟨0,0,0,0⟩ _ _ A3 [j.length+2] R rfl (by unfold U1;omega) (by unfold U1;simp;omega) (fun x hx=>by cases hx)
  (by unfold U1;rw[I];simp[Y3];omega) ⟨yN _,by unfold U1;show (0:Int)+_<=1000;omega⟩ (XS.start ax) Z ap
 rw[zE]at w3
 have U:=T.stp w5 fun z D A=>by
  rcases zD.1 A with k|k
  ·exact (K z D).1 k
  ·exact (K z D).2 k
 have ab:=T.lt
 have au:∀ z∈[H.length+2,H.length+3,H.length+4,j.length,j.length+1],z∉S6/\z∉A6:=fun z D=>by
  have:=ab z D;refine⟨fun A=>?_,fun A=>?_⟩
  ·rcases w7 z A with k|k
   ·exact (K z D).1 k
   ·omega
  ·rcases w6 z A with k|k
   ·exact (K z D).2 k
   ·omega
 have bw:=w5.len
 -- the passes
 have hI:=ZuC (L:=L) (p:=p) I af ah C;obtain⟨H7,A7,S7,ca,s7,u1,u2,u3,u4,u5,u6,u7,u8,u9,cb⟩:=ZoA hB W hok hsm M hks hkl (by omega) (by omega) (.fn (.func 44) [] [.ptr (H.length+4) 0,.ptr (j.length+1) 0,.ptr j.length 0]) H 40 (Zlm L p (U1 mem l)) bi s6 A6 S6 H6 hI.len hI w3 w2 w4 U au;obtain⟨H8,y,bh,S8,z1,z2,z3,z4,z5,z6⟩:=ZuH hB W hok hsm M hks hkl aj H u2 u3 u4 u5 u6 u7;have bz:=u8.len
 have N:∀ z∈A6,z∈S0\/H.length<=z:=fun z D=>by
  rcases w6 z D with k|k
  ·rcases o4 z k with k|k
   ·exact .inl k
   ·exact .inr (by omega)
  ·exact .inr (by omega)
 have O:∀ z∈A7,z∈S0\/H.length<=z:=fun z D=>by
  rcases u9 z D with k|k
  ·exact N z k
  ·exact .inr (by omega)
 refine⟨H8,y,bh,S8,?_,z2,z3,z4,?_,fun z D=>?_,u2⟩
 ·have e0:((0:Int) != 0)=false:=rfl
  have ay:Qf [.ptr (j.length+2) 0,x,.int .i64 mem] R=some (.int .i64 0,H6):=by
   rw[Lc];unfold D7;simp only[v1,go_sem,az];exact w1
  have bf:=ZW T.z 0 (v:=.int .i64 mem) rfl;have bb:=ZW U.e 0 (v:=.int .i64 0) rfl;rw[ZeC];unfold I7;simp only[Yf,go_sem,b1,b2,al,J,am,ls,lz,q1,e0,Zdj];have bg:UT [.ptr t 0,.str [115,111,114,116],.int .i64 262144] H2=some (.tuple [.ptr o 0,.int .i64 0],j):=o1;simp only[bg,go_sem,zO,zP,sm,se,ba,e0,Zdk,an,sc,bd,bc,be,X,bx,zE,bf,ay,U.e0,bb,Zdm];refine u1.trans ?_;exact z1
 ·have k1:Stp S0 H H2:=(t1.mono fun a h=>absurd h (E a)).trans (Q.mono (B:=S0) fun a h=>absurd h (E a)) (fun _ h=>h) fun a h=>.inl h;have k2:Stp S0 H j:=k1.trans o3 (fun _ h=>h) fun a h=>.inl h;have k3:Stp S0 H R:=k2.trans (t5.mono (B:=S0) fun a h=>absurd h (E a)) (fun _ h=>h) fun a h=>.inl h
  have k4:Stp S0 H H6:=k3.trans w5 (fun _ h=>h) fun a A=>by
   rcases zD.1 A with k|k
   ·rw[zB.1 k];exact .inr (by omega)
   ·rcases o4 a k with k|k
    ·exact .inl k
    ·exact .inr (by omega)
  have k5:Stp S0 H H7:=k4.trans u8 (fun _ h=>h) fun a A=>by
   rcases zD.1 A with k|k
   ·rcases w7 a k with k|k
    ·rw[zB.1 k];exact .inr (by omega)
    ·exact .inr (by omega)
   ·exact N a k
  exact k5.trans z5 (fun _ h=>h) fun a A=>by
   rcases zF.1 A with k|A
   ·exact .inr (by omega)
   rcases zF.1 A with k|A
   ·exact .inr (by omega)
   ·exact O a A
 ·rcases z6 z D with k|k
  ·exact O z k
  ·exact .inr (by omega)
end Go.Am
