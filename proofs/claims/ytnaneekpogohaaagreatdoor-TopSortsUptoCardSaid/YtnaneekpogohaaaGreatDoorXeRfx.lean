/- Some runs of a sort become one -/
import Derived.Test.YtnaneekpogohaaaGreatDoorXeQcx
import Derived.Test.YtnaneekpogohaaaGreatDoorXeSmx
import Derived.Test.YtnaneekpogohaaaGreatDoorXeQbx
import Derived.Test.YtnaneekpogohaaaGreatDoorXeGPx
open Go.IntKind renaming i64->yV
open List renaming mem_append_left->zA,mem_append_right->zB,mem_append->zC,getElem?_append_right->zD,append_nil->zF,getElem?_cons_zero->zG,getElem?_cons_succ->zH,map_append->zI,append_assoc->zJ,getElem?_append_left->zL,nodup_cons->zM,length_map->zN,length_append->zO,map_cons->zP,length_singleton->zQ,take_append_drop->zR,length_take->zS,mem_cons->zT,mem_of_mem_drop->zU,mem_map_of_mem->zV,nodup_append->zW,getElem?_eq_some_iff->zX,length_drop->zY,perm_append_comm->yB,getElem?_set_ne->yD,mem_of_mem_take->yE,mem_of_getElem?->yG,flatten_cons->yI,getElem?_map->yJ,flatten_nil->yK,mapM_cons->yM,map_nil->yQ
open Nat renaming le_refl->zE,zero_add->zK,le_mul_of_pos_right->zZ,le_trans->yA,mul_le_mul_right->yF,add_mul->yR,one_mul->yS
open Bool renaming not_false->yN
open Option renaming isSome->yH,getD->yL
open Go.Am.AObj renaming cells->yU
open Go.Am.AV renaming str->yO,vs->yP,ptr->yT
open List.Perm renaming append_left->yC
namespace Go.Am
set_option linter.unusedSectionVars false
set_option maxRecDepth 100000
def Iz:List Pr->List Pr->List Pr
 |[],P=>P
 |x::G,P=>Iz G (Wn x.1 P)
theorem ZsZ {n:Zo}{P:List Pr}{x:Pr}:x∈Wn n P↔x∈P/\x.1≠n:=by
 unfold Wn;rw[List.mem_filter];simp
theorem ZhH {x:Pr}{Q:List Pr}(h:((x::Q).map (·.1)).Nodup):Wn x.1 (x::Q)=Q:=by
 rw[zP,zM]at h;unfold Wn;rw[List.filter_cons,if_neg (by simp)];exact ZhI h.1
theorem Zo5:∀ (G P Q:List Pr),(P.map (·.1)).Nodup->P.Perm (G++Q)->(Iz G P).Perm Q:=by
 intro G
 induction G with
 |nil=>intro P Q _ h;exact h
 |cons x G z =>
  intro P Q hnd h;refine z _ Q (hnd.sublist (List.filter_sublist.map _)) ?_;have j:(Wn x.1 P).Perm (Wn x.1 (x::(G++Q))):=h.filter _;have u:Wn x.1 (x::(G++Q))=G++Q:=ZhH ((h.map (·.1)).nodup_iff.1 hnd);rw[u]at j;exact j
def gM (L:Loc)(p:Spec)(k:Nat)(G:List Pr):Pr:=(Y4 (k+1),Wr L p (G.map (·.2)))
def gN (L:Loc)(p:Spec)(k:Nat)(G:List Pr):Pr:=match G with
 |[x]=>x
 |G=>gM L p k G
def gP (L:Loc)(p:Spec)(k:Nat)(G P:List Pr):List Pr:=match G with
 |[_]=>P
 |G=>Iz G (P++[gM L p k G])
def gK (k:Nat)(G:List Pr):Nat:=match G with
 |[_]=>k
 |_=>k+1
def gT (L:Loc)(p:Spec)(k:Nat)(G P:List Pr)(st:Stt):Stt:=match G with
 |[_]=>st
 |G=>⟨st.r,st.m+1,st.y,max st.k (ZN (P++[gM L p k G]):Int)⟩
section
variable {o g t:Nat}{L:Loc}{lx cl e:AV}{p:Spec}{xp:AV}{B:List Fil}(hB:BOk B)
include hB
theorem Zz5 {xn:AV}{G:List Pr}(hx:SS xn (G.map (·.1)))(ac:G.length<=64)(J:(G.map (·.1)).Nodup)(x6:AV){R:List Pr}(H0:Hp):∀ (r d:List Pr) (P:List Pr) (k:Nat) (st:Stt) (tm:Tmp) (s:Sto) (A S:List Nat) (H:Hp),G=d++r->(∀ x∈r,x∈P) ->
 (ZN P:Int)<=st.k->XS B tm s P k->SysAt H o t tm s A->SrAt H g o A L lx cl e p xp R st S ->
 ∃ H' A' D s',WE (.ptr g 0) x6 xn (.int .i64 (G.length:Int)) (.int .i64 (d.length:Int)) H0 H=some (.tuple [x6,.int .i64 0],H')/\SysAt H' o t D s' A'/\XS B D s' (Iz r P) k /\
  SrAt H' g o A' L lx cl e p xp R st S/\Stp (S++A) H H'/\(∀ a∈A',a∈A\/H.length<=a):=by
 intro r
 induction r with
 |nil =>
  intro d P k st tm s A S H E _ _ u j K;rw[zF]at E;subst E;have F:decide ((G.length:Int)<(G.length:Int))=false:=by simp
  refine⟨H,A,tm,s,?_,j,u,K,Stp.refl _ _,fun a h=>.inl h⟩;rw[JN];simp only[go_sem,F,M7]
 |cons y r ih =>
  intro d P k st tm s A S H E hr ad u j K;have hlen:G.length=d.length+(r.length+1):=by rw[E];simp
  have F:decide ((d.length:Int)<(G.length:Int))=true:=by rw[decide_eq_true_eq];omega
  have hin:(G.map (·.1))[d.length]?=some y.1:=by rw[E];simp
  have Q:=SS.idx hx hin;have Z:yV.wrap ((d.length:Int)+1)=((d++[y]).length:Int):=by rw[Zr (by omega) (by omega)];simp
  have C:=hr y (by simp);have V:=K.off;have T:=K;obtain⟨x,g1,g2,g3,g4,g5⟩:=K;have l0:=ZW g1 0 (v:=.ptr o 0) rfl
  have Y:tm.names≠[]:=fun e=>by
   have:=zV (f:=fun x:Pr=>x.1) C;rw[u.tmE.2.1]at e;rw[e]at this;cases this
  obtain⟨H1,A1,sl,r1,I,r3⟩:=Zpx j u.tmOk (u.stoOk hB) u.stE.2.2.2.1 u.stE.2.2.2.2 (u.find C) Y (u.get hB C);have M:=u.remove hB C r3;have U:=T.stp I.stp V I.own;obtain⟨H2,u1,u2,u3,u4⟩:=ZgU hB M I.at' U
  have O:(ZN (Wn y.1 P):Int)<=st.k:=by
   have:=Zd8 (fun z=>!(z.1==y.1)) P;unfold Wn;omega
  have X:({ st with k:=max st.k (ZN (Wn y.1 P):Int) }:Stt)=st:=by
   cases st;simp only[Stt.mk.injEq,true_and];dsimp only at O;omega
  rw[X]at u3
  have hnd:y.1∉r.map (·.1):=by
   rw[E,zI,zP]at J;have:=(zW.1 J).2.1;exact (zM.1 this).1
  obtain⟨H',A',D,s',m1,m2,m3,m4,m5,m6⟩:=ih (d++[y]) (Wn y.1 P) k st _ _ A1 S H2 (by rw[E];simp) (fun z hz=>ZsZ.2 ⟨hr z (by simp[hz]),fun e=>hnd (e ▸ zV hz)⟩) O M u2 u3;have aa:=I.stp.len;have ab:=u4.len;refine⟨H',A',D,s',?_,m2,m3,m4,?_,fun a W=>?_⟩
  ·have e0:((0:Int) != 0)=false:=rfl;rw[JN];simp only[go_sem,F,M8,Q,ZE,zK,l0,r1,e0,Ma,u1,M9,Z];exact m1
  ·have b1:Stp (S++A) H H2:=(I.stp.mono fun a W=>zB _ W).trans u4 (fun _ h=>h) fun a h=>.inl (zA _ h);refine b1.trans m5 (fun _ h=>h) fun a h=>?_;rcases zC.1 h with h|h
   ·exact .inl (zA _ h)
   ·exact (I.own a h).imp (fun h=>zB _ h) id
  ·rcases m6 a W with h|h
   ·exact I.own a h
   ·exact .inr (by omega)
variable (hl:LocAV (.agg (L.cells lx cl e)) L)(hok:LocOk L)(hsm:LocSm L)(hs:SpecAV (.agg (p.cells xp)) p)(hks:∀ k∈p.keys,KeOk k)(hkl:p.keys.length<=1048576)
include hl hok hsm hs hks hkl
theorem Ztw {xn:AV}{G:List Pr}(hx:SS xn (G.map (·.1)))(z:G≠[])(K:G.length<=64)(X:(G.map (·.1)).Nodup){R P:List Pr}{k:Nat}{st:Stt}{tm:Tmp}{s:Sto}{A S:List Nat}{H:Hp}
 (M:∀ x∈G,x∈P) (hk:k<126) (hm:P.length<42) (hc:ZN P+ZN G<=100000) (ag:0<=st.m/\st.m<=1000) (hX:XS B tm s P k) (D:SysAt H o t tm s A) (Q:SrAt H g o A L lx cl e p xp R st S) :
 ∃ H' A' C s',Qd [.ptr g 0,xn] H=some (.tuple [.str (gN L p k G).1,.int .i64 0],H')/\SysAt H' o t C s' A'/\XS B C s' (gP L p k G P) (gK k G) /\
  SrAt H' g o A' L lx cl e p xp R (gT L p k G P st) S/\Stp (S++A) H H'/\(∀ a∈A',a∈A\/H.length<=a):=by
 have F:=SS.len hx 9;rw[zN]at F;rw[La];unfold D5;by_cases J:G.length=1
 ·obtain⟨y,rfl⟩:∃ y,G=[y]:=by
   match G,J with
   |[y],_=>exact⟨y,rfl⟩
  have U:(((([y]:List Pr).length:Nat):Int)==1)=true:=rfl;have j:=SS.idx hx (i:=0) (s:=y.1) rfl;refine⟨H,A,tm,s,?_,D,hX,Q,Stp.refl _ _,fun a h=>.inl h⟩;simp only[go_sem,F,U];have j:Zn 1 xn (.int .i64 0)=some (.vp [.str y.1]):=j;simp only[go_sem,j,ZE];rfl
 have U:((G.length:Int)==1)=false:=by rw[beq_eq_false_iff_ne];omega
 have f1:gN L p k G=gM L p k G:=by
  match G,J,z with
  |x::y::r,_,_=>rfl
 have f2:gP L p k G P=Iz G (P++[gM L p k G]):=by
  match G,J,z with
  |x::y::r,_,_=>rfl
 have f3:gK k G=k+1:=by
  match G,J,z with
  |x::y::r,_,_=>rfl
 have f4:gT L p k G P st=⟨st.r,st.m+1,st.y,max st.k (ZN (P++[gM L p k G]):Int)⟩:=by
  match G,J,z with
  |x::y::r,_,_=>rfl
 rw[f1,f2,f3,f4];obtain⟨H1,A1,tm1,s1,r1,r2,r3,r4,r5⟩:=Zs4 hl hok hsm hs hks hkl hB hX hk hm M K hx hc D;have Z:=Q.off;have Y:=Q.stp r4 Z r5;obtain⟨x,W,g2,g3,g4,g5⟩:=Q;have l0:=ZW W 0 (v:=.ptr o 0) rfl;have l1:=ZjK W;have l7:=ZgN W;obtain⟨x1,j1,j2,j3,j4,j5⟩:=Y;have aa:=zM.1 j4;have ab:=ZW j1 14 (v:=.int .i64 st.m) rfl;have wm:yV.wrap (st.m+1)=st.m+1:=Zr (by omega) (by omega);have I:=Qb j1 14 (v:=.int .i64 (st.m+1)) rfl rfl (by rw[LW];omega);have V:((XN o L lx cl e p xp x1 st).set 14 (.int .i64 (st.m+1)))=XN o L lx cl e p xp x1 { st with m:=st.m+1 }:=rfl;rw[V]at I;have i1:=Zt (yU (XN o L lx cl e p xp x1 { st with m:=st.m+1 })) j1;have T:Stp (g::ZG x1) H1 (H1.set g (.cells (XN o L lx cl e p xp x1 { st with m:=st.m+1 }))):=Stp.set _ _ (by simp);have u:SysAt (H1.set g (.cells (XN o L lx cl e p xp x1 { st with m:=st.m+1 }))) o t tm1 s1 A1:=r2.stp T fun a E hg=>j3 a hg E
 have O:SrAt (H1.set g (.cells (XN o L lx cl e p xp x1 { st with m:=st.m+1 }))) g o A1 L lx cl e p xp R { st with m:=st.m+1 } S :=
  ⟨x1,i1,j2.frame fun a E=>yD fun (e:g=a)=>aa.1 (by rw[e];exact E),j3,j4,j5⟩
 have ac:=T.len;generalize af:H1.set g (.cells (XN o L lx cl e p xp x1 { st with m:=st.m+1 }))=H2 at I u O T ac;obtain⟨H3,u1,u2,u3,u4⟩:=ZgU hB r3 u O;obtain⟨H',A',C,s',m1,m2,m3,m4,m5,m6⟩:=Zz5 hB hx K X (.str (Y4 (k+1))) H G [] (P++[gM L p k G]) (k+1) ⟨st.r,st.m+1,st.y,max st.k (ZN (P++[gM L p k G]):Int)⟩ tm1 s1 A1 S H3 rfl (fun y hy=>zA _ (M y hy)) (by show (ZN (P++[gM L p k G]):Int)<=max st.k (ZN (P++[gM L p k G]):Int);omega) r3 u2 u3;have ad:=r4.len;have ae:=u4.len;refine⟨H',A',C,s',?_,m2,m3,m4,?_,fun a E=>?_⟩
 ·have e0:((0:Int) != 0)=false:=rfl;simp only[go_sem,F,U,M5,zK,l0,l1,l7,r1,zG,zH,e0,M6,Nat.reduceAdd,ab,wm,I,u1];exact m1
 ·have b1:Stp (S++A) H H1:=r4.mono fun a E=>zB _ E;have b2:Stp (S++A) H H2:=b1.trans T (fun _ h=>h) fun a h=>.inl (zA _ (by rw[j5];exact h));have b3:Stp (S++A) H H3:=b2.trans u4 (fun _ h=>h) fun a h=>.inl (zA _ h);refine b3.trans m5 (fun _ h=>h) fun a h=>?_;rcases zC.1 h with h|h
  ·exact .inl (zA _ h)
  ·exact (r5 a h).imp (fun h=>zB _ h) id
 ·rcases m6 a E with h|h
  ·exact r5 a h
  ·exact .inr (by omega)
end
abbrev iv (n:Nat):AV:=.int .i64 (n:Int)
abbrev IS (x:AV)(l:List Nat):Prop:=Sl 1 x (l.map iv)
def ApI (H:Hp)(a:AV)(l:List Nat):Prop:=a=.nils/\l=[]\/∃ t e,a=.vs 1 (.own t e) (l.map iv)/\H[t]?=some (.tok e)
theorem ApI.is {H:Hp}{a:AV}{l:List Nat}(h:ApI H a l):IS a l:=by
 rcases h with ⟨rfl,rfl⟩|⟨t,e,rfl,_⟩
 ·exact .inl ⟨rfl,rfl⟩
 ·exact .inr ⟨_,rfl⟩
theorem IS.cell {x:AV}{l:List Nat}(h:IS x l):x.cells=[x]/\x.known=true:=by
 rcases h with ⟨rfl,_⟩|⟨t,rfl⟩ <;> exact⟨rfl,rfl⟩
theorem IS.len {x:AV}{l:List Nat}(h:IS x l)(e:Nat):Zl (.slice e) x=some (.int .i64 (l.length:Int)):=by
 rcases h with ⟨rfl,h⟩|⟨t,rfl⟩
 ·have:l=[]:=by simpa using h
  subst this;rfl
 ·simp[Zl]
theorem ApI.app {H:Hp}{a:AV}{l:List Nat}(h:ApI H a l)(n:Nat)(hl:l.length<=1048576) :
 ∃ (a':AV) (H':Hp),Ym 1 8 a (.vs 1 .clip [iv n]) H=some (a',H')/\ApI H' a' (l++[n])/\∀ (o e:Nat) (C:List AV),H[o]?=some (AObj.row e C)->H'[o]?=some (AObj.row e C):=by
 unfold Ym;have D:Go.Am.elems 1 (.vs 1 .clip [iv n]) H=some [iv n]:=rfl;rw[D];have j:YD ((l.map iv).length+[iv n].length) 8=true:=by simp[YD];omega
 have z:YD [iv n].length 8=true:=rfl;rcases h with ⟨rfl,rfl⟩|⟨t,e,rfl,E⟩
 ·refine⟨.vs 1 (.own H.length 1) [iv n],H++[.tok 1],?_,.inr ⟨H.length,1,rfl,by simp⟩,fun o F C u=>Yl u _⟩;simp only[Yv,z,if_true];rw[if_neg (by simp)];rfl
 ·refine⟨.vs 1 (.own t (e+1)) (l.map iv++[iv n]),H.set t (.tok (e+1)),?_,.inr ⟨t,e+1,by simp,Zt _ E⟩,fun o F C u=>?_⟩
  ·simp only[Yv,j,and_self,if_true,E];rw[if_neg (by simp)];rfl
  ·refine Yn _ (fun D=>?_) u;subst D;rw[E]at u;cases u
structure EI (es:List AV)(ls:List (List Nat)):Prop where
 len:es.length=ls.length
 at':∀ (i:Nat) (l:List Nat),ls[i]?=some l->∃ e,es[i]?=some e/\IS e l
theorem EI.nil:EI [] []:=⟨rfl,fun i l h=>by simp at h⟩
theorem EI.app {z:List AV}{ls:List (List Nat)}(h:EI z ls){e:AV}{l:List Nat}(D:IS e l):EI (z++[e]) (ls++[l]):=by
 refine⟨by simp[h.len],fun j m hm=>?_⟩;by_cases C:j<ls.length
 ·rw[zL C]at hm;rw[zL (by rw[h.len];exact C)];exact h.at' j m hm
 ·have u:=(zX.1 hm).1;have:j=ls.length:=by simp at u;omega
  subst this;rw[zD (zE _)]at hm;simp at hm;subst hm;exact⟨e,by rw[zD (by rw[h.len];exact zE _),h.len];simp,D⟩
theorem EI.tail {e:AV}{u:List AV}{l:List Nat}{ls:List (List Nat)}(h:EI (e::u) (l::ls)):IS e l/\EI u ls:=by
 obtain⟨j,z,C⟩:=h.at' 0 l rfl;obtain rfl:e=j:=Option.some.inj z
 exact⟨C,by have:=h.len;simpa using this,fun i m hm=>by
  obtain⟨j,D,E⟩:=h.at' (i+1) m (by simpa using hm);exact⟨j,by simpa using D,E⟩⟩
theorem EI.cons {e:AV}{j:List AV}{l:List Nat}{ls:List (List Nat)}(h:IS e l)(k:EI j ls):EI (e::j) (l::ls) :=
 ⟨by simp[k.len],fun i m hm=>by
  cases i with
  |zero=>simp at hm;subst hm;exact⟨e,rfl,h⟩
  |succ i=>simpa using k.at' i m (by simpa using hm)⟩
theorem ZtO (H:Hp)(n f:Nat):∀ l:List Nat,(l.map iv).mapM (Zb H n (f+1))=some (l.map iv):=by
 intro l
 induction l with
 |nil=>rfl
 |cons a l j=>rw[zP,yM,j];rfl
theorem IS.close {x:AV}{l:List Nat}(h:IS x l)(H:Hp)(n f:Nat):∃ j,Zb H n (f+2) x=some j/\IS j l:=by
 rcases h with ⟨rfl,h⟩|⟨t,rfl⟩
 ·exact⟨.nils,rfl,.inl ⟨rfl,h⟩⟩
 ·exact⟨_,by rw[OH,ZtO],.inr ⟨_,rfl⟩⟩
theorem EI.close {u:List AV}{ls:List (List Nat)}(h:EI u ls)(H:Hp)(n f:Nat):∃ j,u.mapM (Zb H n (f+2))=some j/\EI j ls:=by
 induction u generalizing ls with
 |nil =>
  have:ls=[]:=List.length_eq_zero_iff.1 (by rw[<-h.len];rfl);subst this;exact⟨[],rfl,EI.nil⟩
 |cons e u E =>
  cases ls with
  |nil=>have:=h.len;simp at this
  |cons l ls =>
   obtain⟨C,D⟩:=h.tail;obtain⟨z,F,I⟩:=IS.close C H n f;obtain⟨j,J,K⟩:=E D;exact⟨z::j,by rw[yM,F];simp[J],EI.cons I K⟩
def IV (x:AV)(ls:List (List Nat)):Prop:=x=.nils/\ls=[]\/∃ t j,x=.vs 1 t j/\EI j ls
theorem IV.len {x:AV}{ls:List (List Nat)}(h:IV x ls)(e:Nat):Zl (.slice e) x=some (.int .i64 (ls.length:Int)):=by
 rcases h with ⟨rfl,rfl⟩|⟨t,j,rfl,u⟩
 ·rfl
 ·show some (AV.int .i64 (j.length:Int))=_;rw[u.len]
theorem IV.get {x:AV}{ls:List (List Nat)}(h:IV x ls){i:Nat}{l:List Nat}(hi:ls[i]?=some l):∃ a,Zn 1 x (.int .i64 (i:Int))=some (.vp [a])/\IS a l:=by
 rcases h with ⟨rfl,rfl⟩|⟨t,C,rfl,z⟩
 ·simp at hi
 ·obtain⟨a,u,j⟩:=z.at' i l hi;refine⟨a,?_,j⟩;unfold Zn;dsimp only;rw[if_pos ⟨rfl,by omega⟩,Int.toNat_natCast,u];dsimp only;rw[j.cell.1]
theorem IS.idx {x:AV}{l:List Nat}(h:IS x l){i n:Nat}(hi:l[i]?=some n):Zn 1 x (.int .i64 (i:Int))=some (.vp [iv n]):=Sl.idx h (c:=iv n) (by simp[hi])
def RowI (H:Hp)(x:AV)(A:List (List Nat))(k:List Nat):Prop:=∃ o e j a,x=.ws false 1 o e (A.length+1)/\H[o]?=some (.row e (j++[a]))/\EI j A/\ApI H a k
def RowA (H:Hp)(x:AV)(ls:List (List Nat)):Prop:=x=.nils/\ls=[]\/∃ o e j,x=.ws false 1 o e ls.length/\H[o]?=some (.row e j)/\EI j ls
theorem RowI.all {H:Hp}{x:AV}{A:List (List Nat)}{k:List Nat}(h:RowI H x A k):RowA H x (A++[k]):=by
 obtain⟨o,e,j,a,rfl,u,z,C⟩:=h;exact .inr ⟨o,e,j++[a],by simp,u,z.app C.is⟩
theorem RowA.close {H:Hp}{x:AV}{ls:List (List Nat)}(h:RowA H x ls):∃ C,Zb H 0 9 x=some C/\IV C ls:=by
 rcases h with ⟨rfl,rfl⟩|⟨o,e,D,rfl,E,u⟩
 ·exact⟨.nils,rfl,.inl ⟨rfl,rfl⟩⟩
 ·obtain⟨j,F,I⟩:=u.close H 0 6
  have z:Go.Am.elems 1 (.ws false 1 o e ls.length) H=some D:=by
   unfold Go.Am.elems;dsimp only;rw[if_pos ⟨rfl,.inr rfl⟩,E];dsimp only;rw[if_pos ⟨rfl,by rw[u.len];omega⟩,<-u.len,At]
  exact⟨.vs 1 .no j,by rw[ZhD,if_neg (Nat.not_lt_zero _),z];dsimp only;rw[F],.inr ⟨_,j,rfl,I⟩⟩
theorem RowA.app {H:Hp}{x:AV}{ls:List (List Nat)}(h:RowA H x ls){a:AV}{k:List Nat}(C:ApI H a k)(hl:ls.length<=1048576) :
 ∃ K H',Wk false 1 24 x (.vs 1 .clip [a]) H=some (K,H')/\RowI H' K ls k:=by
 unfold Wk;have E:Go.Am.elems 1 (.vs 1 .clip [a]) H=some [a]:=rfl;rw[E];dsimp only;have F:YD 1 24=true:=rfl;have z:YD (ls.length+1) 24=true:=by simp[YD];omega
 rcases h with ⟨rfl,rfl⟩|⟨o,e,J,rfl,I,j⟩
 ·refine⟨.ws false 1 H.length 0 1,H++[.row 0 [a]],?_,H.length,0,[],a,rfl,by simp,EI.nil,?_⟩
  ·unfold VH;simp only[zQ,F,if_true,zP,yQ,yI,yK,C.is.cell.1,zF];rw[if_neg (by simp)]
  ·exact C.imp id fun⟨t,e,D,u⟩=>⟨t,e,D,Yl u _⟩
 ·refine⟨.ws false 1 o (e+1) (ls.length+1),H.set o (.row (e+1) (J++[a])),?_,o,e+1,J,a,rfl,Zt _ I,j,?_⟩
  ·unfold VH;simp only[zQ,z,and_self,if_true,I,j.len,Nat.mul_one,zE,Zek,List.take_of_length_le (Nat.le_of_eq j.len),zP,yQ,yI,yK,C.is.cell.1,zF];rw[if_neg (by simp)]
  ·refine C.imp id fun⟨t,M,D,u⟩=>⟨t,M,D,Yn _ (fun E=>?_) u⟩;subst E;rw[I]at u;cases u
theorem ZzX (n:Nat):(ZA 1 [(0,iv n)] [AV.int .i64 0]).map (yP 1 .clip)=some (.vs 1 .clip [iv n]):=rfl
theorem ZAq {i w:Nat}(hw:0<w):Z5 .rem (iv i) (iv w)=some (iv (i % w)):=by
 unfold Z5 W5;simp only[if_true,XH];rw[if_neg (by omega)];congr 2
section
variable {w:Nat}(hw:0<w)(hw2:w<=32)
include hw hw2
theorem ZlX (i:Nat):YR w i<=i:=by
 by_cases h0:i=0
 ·rw[h0,ZlY hw];exact zE _
 ·have h:=Nat.pos_of_ne_zero h0;by_cases hc:YR w i=0
  ·omega
  ·have j:=Zd5 (w:=w) (i:=i) (q:=YR w i-1) hw (by omega);have:YR w i-1<=(YR w i-1)*w:=zZ _ hw;omega
theorem Zue {n:Nat}(hn:n<=5000)(H0:Hp):∀ (k i:Nat) (x5:AV) (H:Hp),n-i=k->i<=n->(i % w=0/\RowA H x5 (Vv w i)\/∃ A g,Vv w i=A++[g]/\RowI H x5 A g) ->
 ∃ y H',F4 (iv w) x5 (iv n) (iv i) H0 H=some (y,H')/\RowA H' y (Vv w n):=by
 intro k
 induction k with
 |zero =>
  intro i x5 H hk hi j;have:i=n:=by omega
  subst this;have E:decide ((i:Int)<(i:Int))=false:=by simp
  rw[Sk];simp only[go_sem,E,Zgp];refine⟨_,_,rfl,?_⟩;rcases j with ⟨_,j⟩|⟨A,g,u,j⟩
  ·exact j
  ·rw[u];exact j.all
 |succ k ih =>
  intro i x5 H hk hi j;have E:decide ((i:Int)<(n:Int))=true:=by rw[decide_eq_true_eq];omega
  have ab:yV.wrap ((i:Int)+1)=((i+1:Nat):Int):=by rw[Zr (by omega) (by omega)];omega
  -- the last group grows
  have grow:∀ (A:List (List Nat)) (g:List Nat) (x:AV) (H:Hp),RowI H x A g->A.length<=5000->g.length<=5000->Vv w (i+1)=A++[g++[i]] ->
   ∃ y H',F3 (iv w) x (iv i) (iv n) (iv i) H0 H=some (y,H')/\RowA H' y (Vv w n):=by
   intro A g x H hR hA hg u;obtain⟨o,e,J,a,rfl,k2,T,k4⟩:=hR;have U:Zl (.slice 38) (.ws false 1 o e (A.length+1))=some (.int .i64 ((A.length+1:Nat):Int)):=rfl;have ac:yV.wrap (((A.length+1:Nat):Int)-1)=(A.length:Int):=by rw[Zr (by omega) (by omega)];omega
   have X:Zn 1 (.ws false 1 o e (A.length+1)) (.int .i64 (A.length:Int))=some (.wp o e (A.length*1)):=ZaI (by omega);have Y:Z3 false 1 (.wp o e (A.length*1)) H=some a:=ZjP k2 (by rw[<-T.len,zD (zE _)];simp);obtain⟨a',H1,p1,p2,p3⟩:=k4.app i (by omega);have I:=p3 o e _ k2;have z:=Zny (a:=a') I p2.is.cell (i:=A.length) (by simp[T.len]);have O:(J++[a]).set A.length a'=J++[a']:=by rw[<-T.len];simp
   rw[O]at z
   have V:ApI (H1.set o (.row e (J++[a']))) a' (g++[i]):=by
    refine p2.imp id fun⟨t,e',q1,S⟩=>⟨t,e',q1,Yn _ (fun he=>?_) S⟩;subst he;rw[I]at S;cases S
   obtain⟨y,H',Q,R⟩:=ih (i+1) (.ws false 1 o e (A.length+1)) (H1.set o (.row e (J++[a']))) (by omega) (by omega) (.inr ⟨A,g++[i],u,o,e,J,a',rfl,Zt _ I,T,V⟩);refine⟨y,H',?_,R⟩;rw[Zgs];simp only[U,go_sem,ac,X,Y,ZzX,p1,z,Zgr,ab];exact Q
  rw[Sk];simp only[go_sem,E,Zgq,ZAq hw];by_cases h0:i % w=0
  ·have W:(((i % w:Nat):Int)==0)=true:=by rw[h0];rfl
   have aa:RowA H x5 (Vv w i):=by
    rcases j with ⟨_,j⟩|⟨A,g,u,j⟩
    ·exact j
    ·rw[u];exact j.all
   have ad:=ZlX hw hw2 i;have F:(Vv w i).length<=5000:=by rw[Zgx];omega
   obtain⟨x',H1,q1,S⟩:=aa.app (a:=.nils) (k:=[]) (.inl ⟨rfl,rfl⟩) (by omega);have K:(ZA 1 [(0,AV.nils)] [AV.nils]).map (yP 1 .clip)=some (.vs 1 .clip [.nils]):=rfl;obtain⟨y,H',Q,R⟩:=grow (Vv w i) [] x' H1 S F (by simp) (Zx0 hw h0);refine⟨y,H',?_,R⟩;simp only[W,go_sem,K,q1];exact Q
  ·have W:(((i % w:Nat):Int)==0)=false:=by simp;omega
   obtain⟨A,g,u,Z,hg⟩:=Zx1 hw h0;have F:(Vv w i).length<=i:=by rw[Zgx];exact ZlX hw hw2 i
   rcases j with ⟨h1,_⟩|⟨A',g',M,j⟩
   ·exact absurd h1 h0
   ·rw[u]at M;have D:=List.append_inj' M rfl;obtain⟨rfl,C⟩:=D;injection C with C _;subst C;rw[u,zO]at F;obtain⟨y,H',Q,R⟩:=grow A g x5 H j (by omega) (by omega) Z;refine⟨y,H',?_,R⟩;simp only[W,go_sem];exact Q
end
def HY (j:Int):Nat:=(min (max j 2) 32).toNat
theorem Zxx (j:Int):0<HY j/\HY j<=32/\((HY j:Nat):Int)=min (max j 2) 32:=by unfold HY;omega
theorem Zud (n j:Int)(hn:n<=5000)(H:Hp):∃ y,Ze E4 [.int .i64 n,.int .i64 j] H=some (y,H)/\IV y (Vv (HY j) n.toNat):=by
 obtain⟨C,J,K⟩:=Zxx j;have z:Vv (HY j) 0=[]:=by unfold Vv;rw[ZlY C];rfl
 obtain⟨y,H',F,I⟩:=Zue C J (n:=n.toNat) (by omega) [] n.toNat 0 .nils [] (by omega) (by omega) (.inl ⟨by simp,.inl ⟨rfl,z⟩⟩);obtain⟨M,D,E⟩:=I.close;refine⟨M,?_,E⟩;refine Pq (args':=[.int .i64 n,.int .i64 j]) (H1:=H') (v:=y) rfl ?_ D;rw[ZgZ];unfold Zcm;have u:max n 0=((n.toNat:Nat):Int):=by omega
 simp only[go_sem,<-K,u];exact F
section
variable {w:Nat}(hw:0<w)(hw2:w<=32)
include hw hw2
end
section
variable {x y:AV}{ls:List (List Nat)}(hx:IV x ls)(hy:IV y ls)(hl:ls.length<=1048576)(hin:∀ k∈ls,k.length<=1048576)
include hx hy hl hin
end
section
variable {w n:Nat}(hw:0<w)(hw2:w<=32)(hn:n<=5000){x:AV}(hx:IV x (Vv w n)){a0:AV}
include hw hw2 hn hx
end
structure PSt where
 O:List Pr
 P:List Pr
 k:Nat
 st:Stt
def X0 (w:Nat)(R:List Pr)(q:Nat):List Pr:=(R.drop (q*w)).take w
def Zll (L:Loc)(p:Spec)(G:List Pr)(a:PSt):PSt:=⟨a.O++[gN L p a.k G],gP L p a.k G a.P,gK a.k G,gT L p a.k G a.P a.st⟩
def YJ (L:Loc)(p:Spec)(w:Nat)(R:List Pr):Nat->PSt->PSt
 |0,a=>a
 |q+1,a=>Zll L p (X0 w R q) (YJ L p w R q a)
structure PInv (w:Nat)(R:List Pr)(k0:Nat)(st0:Stt)(q:Nat)(a:PSt):Prop where
 perm:a.P.Perm (a.O++R.drop (q*w))
 kle:a.k<=k0+q
 len:a.O.length=q
 lines:Y3 a.O<=Y3 (R.take (q*w))
 short:ShortP a.O
 m:st0.m<=a.st.m/\a.st.m<=st0.m+q
 ry:a.st.r=st0.r/\a.st.y=st0.y
theorem Zm7 (w:Nat)(R:List Pr)(q:Nat):R.drop (q*w)=X0 w R q++R.drop ((q+1)*w):=by
 unfold X0;rw[yR,yS,<-List.drop_drop,zR]
theorem Zxo (w:Nat)(R:List Pr)(q:Nat):R.take ((q+1)*w)=R.take (q*w)++X0 w R q:=by
 unfold X0;rw[yR,yS,List.take_add]
theorem Zju {w q:Nat}{R:List Pr}(hw:2<=w)(h:q*w<R.length):X0 w R q≠[]:=by
 unfold X0;intro e;have:=congrArg List.length e;rw[zS,zY,List.length_nil]at this;omega
theorem ZmP (L:Loc)(p:Spec)(G:List Pr):(Wr L p (G.map (·.2))).length<=Y3 G:=by
 rw[<-ZdP];exact Zr8 L p _
theorem Zwm {L:Loc}{p:Spec}{k:Nat}{G:List Pr}(h:ShortP G)(h0:G≠[]):(∀ s∈(gN L p k G).2,s.length<=200)/\(gN L p k G).2.length<=Y3 G:=by
 have j:∀ s∈(gM L p k G).2,s.length<=200:=fun s hs=>by
  obtain⟨l,hl,u⟩:=List.mem_flatten.1 (Zii s hs);obtain⟨x,hx,rfl⟩:=List.mem_map.1 hl;exact h x hx s u
 match G,h0 with
 |[x],_=>exact⟨h x (by simp),by simp[gN,Y3]⟩
 |x::y::r,_=>exact⟨j,ZmP L p (x::y::r)⟩
theorem PInv.step {L:Loc}{p:Spec}{w:Nat}{R:List Pr}{k0:Nat}{u:Stt}{q:Nat}{a:PSt}(h:PInv w R k0 u q a)(hw:2<=w)(K:q*w<R.length)(I:ShortP R)(H:∀ l:List Zg,((a.P++[(Y4 (a.k+1),l)]).map (·.1)).Nodup) :
 PInv w R k0 u (q+1) (Zll L p (X0 w R q) a):=by
 have h0:=Zju hw K;have J:=Zm7 w R q;have M:=Zxo w R q;have D:∀ x∈X0 w R q,x∈R:=fun x hx=>zU (yE hx);have E:ShortP (X0 w R q):=fun x hx=>I x (D x hx);obtain⟨S,W⟩:=Zwm (L:=L) (p:=p) (k:=a.k) E h0;obtain⟨Q,V⟩:=h.m;have hk:=h.kle;have j:=h.perm;rw[J]at j;generalize X0 w R q=G at *;refine⟨?_,?_,?_,?_,?_,?_,?_⟩
 ·match G,h0 with
  |[x],_=>show a.P.Perm (a.O++[x]++_);rw[zJ];exact j
  |x::y::r,_ =>
   show (Iz (x::y::r) (a.P++[gM L p a.k (x::y::r)])).Perm (a.O++[gM L p a.k (x::y::r)]++_);refine Zo5 _ _ _ (H _) ?_;have U:=j.append_right [gM L p a.k (x::y::r)];refine U.trans ?_;generalize (x::y::r)=C;generalize gM L p a.k C=z;generalize R.drop ((q+1)*w)=T;rw[zJ,zJ,zJ]
   have F:(a.O++(C++(T++[z]))).Perm (C++(a.O++(T++[z]))):=by
    have:=(yB (l₁:=a.O) (l₂:=C)).append_right (T++[z])
    rwa [zJ,zJ]at this
   refine F.trans (yC _ (yC _ ?_));exact yB
 ·match G,h0 with
  |[x],_=>show a.k<=_;omega
  |x::y::r,_=>show a.k+1<=_;omega
 ·show (a.O++[_]).length=_;rw[zO,h.len];rfl
 ·show Y3 (a.O++[_])<=_;rw[M,Jj,Jj];have:=h.lines;simp only[Y3];omega
 ·intro x hx;rcases zC.1 hx with hx|hx
  ·exact h.short x hx
  ·rw[List.mem_singleton.1 hx];exact S
 ·match G,h0 with
  |[x],_=>exact⟨Q,by show a.st.m<=u.m+((q+1:Nat):Int);omega⟩
  |x::y::r,_=>exact⟨by show u.m<=a.st.m+1;omega,by show a.st.m+1<=u.m+((q+1:Nat):Int);omega⟩
 ·match G,h0 with
  |[x],_=>exact h.ry
  |x::y::r,_=>exact h.ry
section
variable {o g t:Nat}{L:Loc}{lx cl e:AV}{p:Spec}{xp:AV}
theorem Zrh {x:AV}{R:List Pr}(hx:SS x (R.map (·.1))){st:Stt}{N:Nat}(hgN:g<N){w q n:Nat}{T:AV}(V:IS T (RW w n q))(hn:n=R.length)(af:q*w<=n)(ae:n<=5000)(ag:w<=5000)
 (x5 O Q S:AV) (H0:Hp):∀ (r d:List Pr) (E:AV) (H:Hp),X0 w R q=d++r->NmAt H E (d.map (·.1))->(∀ a∈ZG E,N<=a)->N<=H.length->H[g]?=some (.cells (XN o L lx cl e p xp x st)) ->
 ∃ j H',V4 (.ptr g 0) x5 E O Q S T (.int .i64 ((RW w n q).length:Int)) (.int .i64 (d.length:Int)) H0 H=Qi (.ptr g 0) x5 j O Q S H0 H'/\NmAt H' j ((X0 w R q).map (·.1)) /\
  (∀ a,a<N->H'[a]?=H[a]?)/\N<=H'.length:=by
 have I:(RW w n q).length=(X0 w R q).length:=by
  rw[ZyE];unfold X0;rw[zS,zY,hn]
 have ac:(X0 w R q).length<=w:=by unfold X0;rw[zS];omega
 intro r
 induction r with
 |nil =>
  intro d E H z X W hl Z;rw[zF]at z;have D:decide ((d.length:Int)<((RW w n q).length:Int))=false:=by rw[I,z];simp
  refine⟨E,H,?_,by rw[z];exact X,fun _ _=>rfl,hl⟩;rw[Kr];simp only[go_sem,D]
 |cons y r ih =>
  intro d E H z X W hl Z;have hlen:(X0 w R q).length=d.length+(r.length+1):=by rw[z];simp
  have D:decide ((d.length:Int)<((RW w n q).length:Int))=true:=by rw[I,decide_eq_true_eq];omega
  have J:=V.idx (ZyD (w:=w) (i:=n) (q:=q) (k:=d.length) (by omega))
  have Y:(R.map (·.1))[q*w+d.length]?=some y.1:=by
   have U:(X0 w R q)[d.length]?=some y:=by rw[z,zD (zE _)];simp
   unfold X0 at U;rw[List.getElem?_take_of_lt (by omega),List.getElem?_drop]at U;rw[yJ,U];rfl
  have K:=SS.idx hx Y;have ab:=ZW Z 12 (v:=x) rfl;have aa:yV.wrap ((d.length:Int)+1)=((d++[y]).length:Int):=by rw[Zr (by omega) (by omega)];simp
  have M:(ZA 1 [(0,yO y.1)] [(.str [])]).map (yP 1 .clip)=some (.vs 1 .clip [.str y.1]):=rfl;obtain⟨x9,H1,n1,n2,n3,n4,n5,n6,n7⟩:=X.app y.1 (by simp;omega);have ad:=n3.len;have u:∀ a,a<N->H1[a]?=H[a]?:=fun a F=>n3.at' a (by omega) (fun h=>by have:=W a h;omega);obtain⟨j,H',m1,m2,m3,m4⟩:=ih (d++[y]) x9 H1 (by rw[z];simp) (by rw[zI];exact n2) (fun a F=>by rcases n4 a F with h|h;exact W a h;omega) (by omega) ((u g hgN).trans Z);refine⟨j,H',?_,m2,fun a F=>(m3 a F).trans (u a F),m4⟩;rw[Kr];have C:Zn 1 x (iv (q*w+d.length))=some (.vp [.str y.1]):=K;simp only[go_sem,D,Lu,J,ZE,zK,ab,C,M,n1,Lv,aa];exact m1
variable {B:List Fil}(hB:BOk B)(hl:LocAV (.agg (L.cells lx cl e)) L)(hok:LocOk L)(hsm:LocSm L)(hs:SpecAV (.agg (p.cells xp)) p)(hks:∀ k∈p.keys,KeOk k)(hkl:p.keys.length<=1048576)
include hB hl hok hsm hs hks hkl
theorem Zub {w:Nat}(hw:2<=w)(hw2:w<=32){R:List Pr}(bm:R.length<=41)(T:ShortP R)(bn:Y3 R<=40){k0:Nat}{j:Stt}(bt:k0+R.length<=125)(bw:0<=j.m/\j.m<=900)
 {Y:AV} (aq:IV Y (Vv w R.length)) {P0:List Pr} (H0:Hp):∀ (m q:Nat) (x5:AV) (tm:Tmp) (s:Sto) (A S:List Nat) (H:Hp),YR w R.length-q=m->q<=YR w R.length->PInv w R k0 j q (YJ L p w R q ⟨[],P0,k0,j⟩) ->
 XS B tm s (YJ L p w R q ⟨[],P0,k0,j⟩).P (YJ L p w R q ⟨[],P0,k0,j⟩).k->SysAt H o t tm s A->SrAt H g o A L lx cl e p xp R (YJ L p w R q ⟨[],P0,k0,j⟩).st S ->
 NmAt H x5 ((YJ L p w R q ⟨[],P0,k0,j⟩).O.map (·.1))->(∀ a∈ZG x5,a∉A/\a∉S)->(ZG x5).Nodup->x5.cells=[x5]->x5.known=true ->
 ∃ H' A' S' M s',V3 (.ptr g 0) x5 Y (.int .i64 (YR w R.length:Int)) (.int .i64 (q:Int)) H0 H=some (.int .i64 0,H')/\SysAt H' o t M s' A' /\
  XS B M s' (YJ L p w R (YR w R.length) ⟨[],P0,k0,j⟩).P (YJ L p w R (YR w R.length) ⟨[],P0,k0,j⟩).k/\PInv w R k0 j (YR w R.length) (YJ L p w R (YR w R.length) ⟨[],P0,k0,j⟩) /\
  SrAt H' g o A' L lx cl e p xp (YJ L p w R (YR w R.length) ⟨[],P0,k0,j⟩).O (YJ L p w R (YR w R.length) ⟨[],P0,k0,j⟩).st S' /\
  Stp (ZG x5++(S++A)) H H'/\(∀ a∈A',a∈A\/H.length<=a)/\(∀ a∈S',a∈S\/a∈ZG x5\/H.length<=a):=by
 have hw0:0<w:=by omega
 have bs:=ZlX hw0 hw2 R.length;intro m
 induction m with
 |zero =>
  intro q x5 tm s A S H hm hq E hX D Z h5 C ac aa ab;have:q=YR w R.length:=by omega
  subst this;have V:decide ((YR w R.length:Int)<(YR w R.length:Int))=false:=by simp
  obtain⟨x,g1,g2,g3,g4,rfl⟩:=Z;have ao:=Qb g1 12 (v:=x5) aa ab (by rw[LW];omega);generalize YJ L p w R (YR w R.length) ⟨[],P0,k0,j⟩=a at *;have ap:((XN o L lx cl e p xp x a.st).set 12 x5)=XN o L lx cl e p xp x5 a.st:=rfl;rw[ap]at ao;have an:Stp (g::ZG x) H (H.set g (.cells (XN o L lx cl e p xp x5 a.st))):=Stp.set _ _ (by simp);have ai:g∉ZG x5:=fun h=>(C g h).2 (by simp);refine⟨_,A,g::ZG x5,tm,s,?_,D.stp an fun b F hg=>g3 b hg F,hX,E,⟨x5,Zt _ g1,h5.frame fun b F=>yD fun (e:g=b)=>ai (by rw[e];exact F),fun b F Q=>?_,zM.2 ⟨ai,ac⟩,rfl⟩,an.mono fun b F=>zB _ (zA _ F),fun b h=>.inl h,fun b F=>?_⟩
  ·rw[Kq];simp only[go_sem,V,Lp,zK,ao]
  ·rcases zT.1 F with h|h
   ·exact g3 g (by simp) (h ▸ Q)
   ·exact (C b h).1 Q
  ·rcases zT.1 F with h|h
   ·exact .inl (by simp[h])
   ·exact .inr (.inl h)
 |succ m ih =>
  intro q x5 tm s A S H hm hq E hX D Z h5 C ac aa ab;have ak:q<YR w R.length:=by omega
  have V:decide ((q:Int)<(YR w R.length:Int))=true:=by rw[decide_eq_true_eq];omega
  have F:=Zd5 hw0 ak;have bf:yV.wrap ((q:Int)+1)=((q+1:Nat):Int):=by rw[Zr (by omega) (by omega)];omega
  obtain⟨bz,y1,y2⟩:=aq.get (ZwZ ak);have bc:=y2.len 3;have bk:(X0 w R q).length<=w:=by unfold X0;rw[zS];omega
  have af:=E.step (L:=L) (p:=p) hw F T hX.nd1;have al:YJ L p w R (q+1) ⟨[],P0,k0,j⟩=Zll L p (X0 w R q) (YJ L p w R q ⟨[],P0,k0,j⟩):=rfl;rw[<-al]at af;have bp:=Z.off;have bo:=Z.lt;have bj:=D.lt;have K:=h5.lt;have az:=Z;obtain⟨x,g1,g2,g3,g4,g5⟩:=Z;have be:=Zh g1;obtain⟨x8,H1,r1,r2,r3,r4⟩:=Zrh (o:=o) (g:=g) (L:=L) (lx:=lx) (cl:=cl) (e:=e) (p:=p) (xp:=xp) g2.ss (N:=H.length) be y2 rfl (Nat.le_of_lt F) (by omega) (by omega) x5 Y (.int .i64 (YR w R.length:Int)) (.int .i64 (q:Int)) H0 (X0 w R q) [] .nils H rfl (.inl ⟨rfl,rfl⟩) (fun a u=>by cases u) (zE _) g1;have t1:Stp [] H H1:=⟨r4,fun a u _=>r3 a u⟩;have W:=D.stp t1 fun a _ h=>by cases h
  have ba:=az.stp (A':=A) t1 (fun a _ h=>by cases h) fun a h=>.inl h;have ar:NmAt H1 x5 ((YJ L p w R q ⟨[],P0,k0,j⟩).O.map (·.1)):=h5.frame fun a u=>r3 a (K a u);have U:=Zm7 w R q;have aw:∀ z∈X0 w R q,z∈(YJ L p w R q ⟨[],P0,k0,j⟩).P:=fun z hz=>E.perm.mem_iff.2 (by rw[U];simp[hz])
  have ax:((X0 w R q).map (·.1)).Nodup:=by
   have:=(E.perm.map (·.1)).nodup_iff.1 hX.nd;rw[U,zI,zI]at this;exact (zW.1 (zW.1 this).2.1).1
  have ay:=E.len
  have bl:(YJ L p w R q ⟨[],P0,k0,j⟩).P.length<=41:=by
   have:=E.perm.length_eq;rw[zO,zY,ay]at this;have:q<=q*w:=zZ _ hw0;omega
  have bu:=E.kle;have ag:ShortP (X0 w R q):=fun z hz=>T z (zU (yE hz))
  have I:Y3 (X0 w R q)<=40:=by
   have:Y3 R=Y3 (R.take (q*w))+Y3 (R.drop (q*w)):=by rw[<-Jj,zR]
   rw[U,Jj]at this;omega
  have J:Y3 (YJ L p w R q ⟨[],P0,k0,j⟩).P<=40:=by
   rw[Zoq E.perm,Jj];have:Y3 R=Y3 (R.take (q*w))+Y3 (R.drop (q*w)):=by rw[<-Jj,zR]
   have:=E.lines;omega
  have am:ShortP (YJ L p w R q ⟨[],P0,k0,j⟩).P:=fun z hz=>by
   rcases zC.1 (E.perm.mem_iff.1 hz) with h|h
   ·exact E.short z h
   ·exact T z (zU h)
  have bq:=am.cost;have br:=ag.cost;have bx:=E.m
  have bd:ZN (YJ L p w R q ⟨[],P0,k0,j⟩).P+ZN (X0 w R q)<=100000:=by
   have a1:Y3 (YJ L p w R q ⟨[],P0,k0,j⟩).P*206<=40*206:=yF _ J;have a2:Y3 (X0 w R q)*206<=40*206:=yF _ I;omega
  obtain⟨H2,A2,bg,s2,u1,u2,u3,u4,u5,u6⟩:=Ztw hB hl hok hsm hs hks hkl r2.ss (Zju hw F) (by omega) ax aw (by omega) (by omega) bd ⟨by omega,by omega⟩ hX W ba
  have ad:∀ a∈ZG x5,a∉S++A:=fun a u h=>by
   rcases zC.1 h with h|h
   ·exact (C a u).2 h
   ·exact (C a u).1 h
  have au:NmAt H2 x5 ((YJ L p w R q ⟨[],P0,k0,j⟩).O.map (·.1)):=ar.frame fun a u=>u5.at' a (by have:=K a u;omega) (ad a u);obtain⟨x6,H3,n1,n2,n3,n4,n5,n6,n7⟩:=au.app (gN L p (YJ L p w R q ⟨[],P0,k0,j⟩).k (X0 w R q)).1 (by simp;omega);have bh:=u5.len;have bi:=n3.len
  have X:=u2.stp n3 fun a u h=>by
   rcases u6 a u with k|k
   ·exact (C a h).1 k
   ·have:=K a h;omega
  have bb:=u4.stp (A':=A2) n3 (fun a u h=>(C a h).2 u) fun a h=>.inl h;have ae:=u2.lt;have ah:=u4.lt;rw[show Zll L p (X0 w R q) (YJ L p w R q ⟨[],P0,k0,j⟩)=YJ L p w R (q+1) ⟨[],P0,k0,j⟩ from rfl]at *
  have eO:(YJ L p w R (q+1) ⟨[],P0,k0,j⟩).O.map (·.1)=(YJ L p w R q ⟨[],P0,k0,j⟩).O.map (·.1)++[(gN L p (YJ L p w R q ⟨[],P0,k0,j⟩).k (X0 w R q)).1]:=by
   show ((YJ L p w R q ⟨[],P0,k0,j⟩).O++[gN L p (YJ L p w R q ⟨[],P0,k0,j⟩).k (X0 w R q)]).map (fun x:Pr=>x.1)=_;rw[zI];rfl
  obtain⟨H',A',S',M,s',m1,m2,m3,m4,m5,m6,m7,m8⟩:=ih (q+1) x6 bg s2 A2 S H3 (by omega) (by omega) af u3 X bb (by rw[eO];exact n2) (fun a u=>by
   rcases n4 a u with h|h
   ·refine⟨fun Q=>?_,(C a h).2⟩;rcases u6 a Q with k|k
    ·exact (C a h).1 k
    ·have:=K a h;omega
   ·exact⟨fun Q=>by have:=ae a Q;omega,fun Q=>by have:=ah a Q;omega⟩) n7 n5 n6
  refine⟨H',A',S',M,s',?_,m2,m3,m4,m5,?_,fun a u=>?_,fun a u=>?_⟩
  ·have e0:((0:Int) != 0)=false:=rfl;have aj:(ZA 1 [(0,yO (gN L p (YJ L p w R q ⟨[],P0,k0,j⟩).k (X0 w R q)).1)] [(.str [])]).map (yP 1 .clip)=some (.vs 1 .clip [.str (gN L p (YJ L p w R q ⟨[],P0,k0,j⟩).k (X0 w R q)).1]):=rfl;rw[Kq];simp only[go_sem,V,Lq,y1,ZE,bc];refine r1.trans ?_;rw[Ls];simp only[u1,go_sem,zG,zH,e0,Lt,aj,n1,Lr,bf];exact m1
  ·have b1:Stp (ZG x5++(S++A)) H H2:=(t1.mono fun a h=>by cases h).trans u5 (fun _ h=>h) fun a h=>.inl (zB _ h);have b2:Stp (ZG x5++(S++A)) H H3:=b1.trans n3 (fun _ h=>h) fun a h=>.inl (zA _ h);refine b2.trans m6 (fun _ h=>h) fun a h=>?_;rcases zC.1 h with h|h
   ·rcases n4 a h with h|h
    ·exact .inl (zA _ h)
    ·exact .inr (by omega)
   ·rcases zC.1 h with h|h
    ·exact .inl (zB _ (zA _ h))
    ·rcases u6 a h with h|h
     ·exact .inl (zB _ (zB _ h))
     ·exact .inr (by omega)
  ·rcases m7 a u with h|h
   ·rcases u6 a h with h|h
    ·exact .inl h
    ·exact .inr (by omega)
   ·exact .inr (by omega)
  ·rcases m8 a u with h|h|h
   ·exact .inl h
   ·rcases n4 a h with h|h
    ·exact .inr (.inl h)
    ·exact .inr (.inr (by omega))
   ·exact .inr (.inr (by omega))
end
theorem Zjy {x1:AV}{C:List Zo}(hx:SS x1 C)(hl:C.length<=65536)(g o N:Nat){cs0:List AV}(K:cs0[0]?=some (.ptr o 0))(X:Hp):∀ (r d:List Zo) (x5:AV) (rs:List Nat) (H:Hp),C=d++r->rs.length=d.length->RowN N H 1 x5 (rs.map fun r=>yT r 0)->N<=H.length->H[g]?=some (.cells cs0) ->
 ∃ (H':Hp) (D:AV) (j:List Nat),WH (.ptr g 0) x5 x1 (.int .i64 (C.length:Int)) (.int .i64 (d.length:Int)) X H=UI (.ptr g 0) D X H'/\RowN N H' 1 D ((rs++j).map fun r=>yT r 0)/\j.length=r.length/\(∀ a,a<N->H'[a]?=H[a]?)/\(∀ (a:Nat) (E:List AV),H[a]?=some (.cells E)->H'[a]?=some (.cells E)) /\
  (∀ (i:Nat) (n:Zo),r[i]?=some n->∃ R,j[i]?=some R/\H'[R]?=some (.cells (VX o n 0 false false [])))/\j.Nodup/\(∀ R∈j,H.length<=R)/\H.length<=H'.length:=by
 intro r
 induction r with
 |nil =>
  intro d x5 rs H J Q u hN T;rw[zF]at J;subst J;have F:decide ((C.length:Int)<(C.length:Int))=false:=by simp
  refine⟨H,x5,[],?_,by rw[zF];exact u,rfl,fun _ _=>rfl,fun _ _ h=>h,fun i n h=>by simp at h,by simp,by simp,zE _⟩;rw[JO];simp only[go_sem,F]
 |cons n r ih =>
  intro d x5 rs H J Q u hN T;have U:C.length=d.length+(r.length+1):=by rw[J];simp
  have F:decide ((d.length:Int)<(C.length:Int))=true:=by rw[decide_eq_true_eq];omega
  have W:yV.wrap ((d.length:Int)+1)=((d.length+1:Nat):Int):=by rw[Zr (by omega) (by omega)];omega
  have hin:C[d.length]?=some n:=by rw[J,zD (zE _)];simp
  have M:=SS.idx hx hin;have V:=ZjR o n H;have O:(ZA 1 [(0,yT H.length 0)] [.nilp]).map (yP 1 .clip)=some (.vs 1 .clip [.ptr H.length 0]):=rfl;obtain⟨x',S,w1,w2,w3,w4,w5⟩:=(u.push [.cells (VX o n 0 false false [])]).app (by simp;omega) 8 (.vs 1 .clip [.ptr H.length 0]) [.ptr H.length 0] rfl (by simp;omega);have I:∀ (a:Nat) (E:List AV),(H++[yU (VX o n 0 false false [])])[a]?=some (.cells E)->S[a]?=some (.cells E):=w5;have z:S[H.length]?=some (.cells (VX o n 0 false false [])):=I _ _ (by simp);have aa:H.length<S.length:=Zh z;obtain⟨H3,D,j,Z,m2,m3,m4,m5,m6,m7,m8,m9⟩:=ih (d++[n]) x' (rs++[H.length]) S (by rw[J];simp) (by simp[Q]) (by rw[zI];exact w2) w3 (I _ _ (Yl T _));rw[zO,zQ]at Z;refine⟨H3,D,H.length::j,?_,by rw[show rs++H.length::j=rs++[H.length]++j by simp];exact m2,by simp[m3],fun a Y=>(m4 a Y).trans ((w4 a Y).trans (zL (by omega))),fun a E h=>m5 a E (I a E (Yl h _)),fun i k hi=>?_,?_,fun R hr=>?_,by omega⟩
  ·rw[JO];simp only[go_sem,F,Md,M,ZE,zK,ZW T 0 K,V,O,w1,Me,W];exact Z
  ·cases i with
   |zero =>
    simp at hi;subst hi;exact⟨H.length,rfl,m5 _ _ z⟩
   |succ i=>exact m6 i k (by simpa using hi)
  ·rw[zM];exact⟨fun h=>by have:=m8 _ h;omega,m7⟩
  ·rcases zT.1 hr with e'|h
   ·omega
   ·have:=m8 _ h;omega
section
variable {o t g N:Nat}{tm:Tmp}{s:Sto}{A:List Nat}{L:Loc}{lx c e:AV}{p:Spec}{xp:AV}{rx:AV}{rs:List Nat}
 (hm:TmpOk tm) (hk:StoOk s) (hc:s.crashed=false) (h0:s.count=0)
 (hl:LocAV (.agg (L.cells lx c e)) L) (hok:LocOk L) (hs:SpecAV (.agg (p.cells xp)) p) (hks:∀ k∈p.keys,KeOk k)
 (hrx:Sl 1 rx (rs.map fun r=>yT r 0)) (hnd:rs.Nodup) (hlen:rs.length<=1048576)
 (hgA:g∉A) (hgd:g∉rs) (hgN:g<N) (hrN:∀ r∈rs,r<N) (hAN:∀ a∈A,a<N)
include hm hk hc h0 hl hok hs hks hrx hnd hlen hgA hgd hgN hrN hAN
theorem Zr4 (H0:Hp):∀ (k:Nat) (O:List Rd) (last:Zo) (J:Bool) (x6:AV) (out:List Zg) (H:Hp),Y7 O<=k->out.length+Y7 O<=65536->last.length<=1048576->O.map Rd.r=rs->SysAt H o t tm s A->(∀ x∈O,RdAt H o tm s A x) ->
 H[g]?=some (.cells (JU L lx c e p xp (ZI p==0) rx last J))->RowN N H 1 x6 (out.map yO)->N<=H.length ->
 ∃ H' M j Q,WG (.ptr g 0) x6 H0 H=some (.tuple [M,.int .i64 0],H')/\AllD L p last J O j Q/\RowN N H' 1 M ((out++j).map yO) /\
  SysAt H' o t tm s A/\(∀ a,a<N->a∉g::rs++A->H'[a]?=H[a]?)/\N<=H'.length:=by
 have e0:((0:Int) != 0)=false:=rfl
 have V:∀ a,a∈g::rs++A->a<N:=fun a U=>by
  rcases zC.1 U with h|h
  ·rcases zT.1 h with e'|h
   ·omega
   ·exact hrN a h
  ·exact hAN a h
 have D:∀ {H H':Hp} {x:AV} {l:List AV},RowN N H 1 x l->Stp (g::rs++A) H H'->RowN N H' 1 x l:=fun h hS=>h.imp id fun⟨u,e',a1,a2,a3⟩=>⟨u,e',a1,hS.get a2 (fun h=>by have:=V u h;omega),a3⟩;intro k
 induction k with
 |zero =>
  intro O last J x6 out H ht ac C hr F K hg E Y;obtain⟨H1,z,R,p1,T,p3,I,p5,p6,p7⟩:=CG hm hk hc h0 hl hok hs hks hrx hnd hlen hgA hgd C hr F K hg
  cases z with
  |some a=>have:=T.less.2 a rfl;omega
  |none =>
   refine⟨H1,x6,[],_,?_,.done T,by rw[zF];exact D E I,p3,fun a U hn=>I.at' a (by omega) hn,yA Y I.len⟩;rw[Vs];simp only[go_sem,p1,zG,zH,e0,Vr,yH,yL,yN]
 |succ k ih =>
  intro O last J x6 out H ht ac C hr F K hg E Y;obtain⟨H1,z,R,p1,T,p3,I,p5,p6,p7⟩:=CG hm hk hc h0 hl hok hs hks hrx hnd hlen hgA hgd C hr F K hg
  cases z with
  |none =>
   refine⟨H1,x6,[],_,?_,.done T,by rw[zF];exact D E I,p3,fun a U hn=>I.at' a (by omega) hn,yA Y I.len⟩;rw[Vs];simp only[go_sem,p1,zG,zH,e0,Vr,yH,yL,yN]
  |some a =>
   have ab:a.length<=1048576:=by
    obtain⟨x,hx,U⟩:=T.mem a rfl;have:=List.all_eq_true.1 (K x hx).fit a U;simp at this;omega
   have ad:=T.less.2 a rfl;have aa:N<=H1.length:=yA Y I.len;obtain⟨x',H2,w1,w2,w3,w4,_⟩:=(D E I).app aa 16 (.vs 1 .clip [.str a]) [.str a] rfl (by simp;omega);have W:(ZA 1 [(0,yO a)] [(.str [])]).map (yP 1 .clip)=some (.vs 1 .clip [.str a]):=rfl;have S:SysAt H2 o t tm s A:=SysAt.frame p3 fun b Z=>w4 b (hAN b Z);have X:∀ y∈R,RdAt H2 o tm s A y:=fun y hy=>(p6 y hy).frame (w4 y.r (hrN _ (by rw[<-p5];exact zV hy)));obtain⟨H3,M,j,Q,m1,m2,m3,m4,m6,m7⟩:=ih R a true x' (out++[a]) H2 (by omega) (by simp;omega) ab p5 S X ((w4 g hgN).trans p7) (by rw[zI];exact w2) w3;refine⟨H3,M,a::j,Q,?_,.more T m2,by rw[show out++a::j=out++[a]++j by simp];exact m3,m4,fun b Z hn=>(m6 b Z hn).trans ((w4 b Z).trans (I.at' b (by omega) hn)),m7⟩;rw[Vs];simp only[go_sem,p1,zG,zH,e0,Vr,yH,yL,Bool.not_true,Mc,W,w1];exact m1
end
section
variable {o g t:Nat}{L:Loc}{lx cl e:AV}{p:Spec}{xp:AV}{B:List Fil}(hB:BOk B)(hl:LocAV (.agg (L.cells lx cl e)) L)(hok:LocOk L)(hsm:LocSm L)(hs:SpecAV (.agg (p.cells xp)) p)(hks:∀ k∈p.keys,KeOk k)(hkl:p.keys.length<=1048576)
include hB hl hok hsm hs hks hkl
theorem ZtL {R P:List Pr}(ai:R.length<=64)(aj:Y3 R<=40){k:Nat}{st:Stt}{tm:Tmp}{s:Sto}{A S:List Nat}{H:Hp}(aa:∀ x∈R,x∈P)(D:XS B tm s P k)(h:SysAt H o t tm s A)(hS:SrAt H g o A L lx cl e p xp R st S) :
 ∃ H' y,Qe [.ptr g 0] H=some (.tuple [y,.int .i64 0],H')/\SS y (Wr L p (R.map (·.2)))/\SysAt H' o t tm s A/\Stp A H H':=by
 have al:=hS.off;have ak:=hS.lt;have j:=h.lt;obtain⟨x,W,g2,g3,g4,rfl⟩:=hS;have ad:=ZW W 12 (v:=x) rfl;have O:=SS.len g2.ss 9;rw[zN]at O;have am:=Zh W;have M:(R.map (·.1)).length=R.length:=zN ..;obtain⟨H2,rx,rs,r1,r2,r3,r4,r5,r6,r7,r8,r9⟩:=Zjy g2.ss (by rw[M];omega) g o H.length (cs0:=XN o L lx cl e p xp x st) rfl H (R.map (·.1)) [] .nils [] H rfl rfl (RowN.nil _ _ _) (zE _) W;have K:=r5 _ _ W;have ao:rs.length=R.length:=by rw[r3,zN]
 rw[M]at r1;have l1:=ZjK K;have l7:=ZgN K;obtain⟨V,X,ap,c',e',ar,aq,n1,n2,n3,n4,n5,Z,n7⟩:=Zlr hl hsm hs hkl (rx:=rx) (rs:=rs) (by simpa using r2.sl) (by omega) H2;have ae:=Z.len;have Q:=Zh n2
 have E:∀ r∈rs,r<H2.length:=fun r U=>by
  obtain⟨i,hi⟩:=List.getElem?_of_mem U;have an:=(zX.1 hi).1;obtain⟨rr,C,Y⟩:=r6 i (R.map (·.1))[i] (List.getElem?_eq_getElem (by omega));rw[hi]at C;injection C with C;subst C;exact Zh Y
 have I:=h.frame (H':=V) fun b hb=>(Z.at' b (by have:=j b hb;omega) (by simp)).trans (r4 b (j b hb));obtain⟨d1,d2⟩:=Zuo rs (R.map (·.1)) (R.map (·.2)) r3 (by simp)
 have ac:∀ d∈Fd rs (R.map (·.1)) (R.map (·.2)),RdAt V o tm s A d:=fun d hd=>by
  obtain⟨i,r,n,l,e1,J,e3,rfl⟩:=Zgy _ _ _ d hd;obtain⟨rr,C,Y⟩:=r6 i n J;rw[e1]at C;injection C with C;subst C;rw[yJ]at J e3
  cases F:R[i]? with
  |none=>rw[F]at J;cases J
  |some z =>
   rw[F]at J e3;cases J;cases e3;have u:=aa z (yG F);have hc:=Zk0 u;have ah:=D.cost;refine⟨.inr (.inr ⟨[],?_,rfl⟩),fun hA=>?_,D.fit z u,by rw[W2];exact yA hc (by omega),.inl ⟨D.find u,_,D.get hB u,rfl⟩⟩
   ·exact (Z.at' r (Zh Y) (by simp)).trans Y
   ·have:=j r hA;have:=r8 r (yG e1);omega
 have hgA:X∉A:=fun hA=>by have:=j X hA;omega
 have ab:X∉rs:=fun U=>by have:=E X U;omega
 have af:Y7 (Fd rs (R.map (·.1)) (R.map (·.2)))=Y3 R:=by rw[<-LU,d2,ZdP]
 obtain⟨H4,y,out,ag,m1,m2,m3,m4,m6,m7⟩:=Zr4 (N:=V.length) D.tmOk (D.stoOk hB) D.stE.2.2.2.1 D.stE.2.2.2.2 n3 hok n4 hks n5 r7 (by omega) hgA ab Q (fun r U=>by have:=E r U;omega) (fun a ha=>by have:=j a ha;omega) H
  (Y3 R) (Fd rs (R.map (·.1)) (R.map (·.2))) [] false .nils [] V (by omega) (by simp;omega) (by simp) d1 I ac n2 (RowN.nil _ _ _) (zE _)
 have T:=m2.merge;rw[d2]at T;subst T;refine⟨H4,y,?_,m3.sl,m4,⟨by omega,fun a ha hn=>?_⟩⟩
 ·rw[Lb];unfold D6;simp only[go_sem,zK,ad,O];refine r1.trans ?_;rw[Mb];simp only[go_sem,zK,l1,l7,n1];exact m1
 ·rw[m6 a (by omega) (fun h=>?_),Z.at' a (by omega) (by simp),r4 a ha];rcases zC.1 h with h|h
  ·rcases zT.1 h with h|h
   ·omega
   ·have:=r8 a h;omega
  ·exact hn h
theorem ZwY {w:Nat}(hw:2<=w)(hw2:w<=32){R:List Pr}(I:R.length<=41)(K:ShortP R)(J:Y3 R<=40){k0:Nat}{j:Stt}(T:k0+R.length<=125)(U:0<=j.m/\j.m<=900){P0:List Pr}(hP:P0.Perm R)
 {tm:Tmp} {s:Sto} {A S:List Nat} {H:Hp} (hX:XS B tm s P0 k0) (D:SysAt H o t tm s A) (X:SrAt H g o A L lx cl e p xp R j S) :
 ∃ H' A' E u s',QC [.ptr g 0,.int .i64 (w:Int)] H=some (.int .i64 0,H')/\SysAt H' o t u s' A' /\
  XS B u s' (YJ L p w R (YR w R.length) ⟨[],P0,k0,j⟩).P (YJ L p w R (YR w R.length) ⟨[],P0,k0,j⟩).k/\PInv w R k0 j (YR w R.length) (YJ L p w R (YR w R.length) ⟨[],P0,k0,j⟩) /\
  SrAt H' g o A' L lx cl e p xp (YJ L p w R (YR w R.length) ⟨[],P0,k0,j⟩).O (YJ L p w R (YR w R.length) ⟨[],P0,k0,j⟩).st E /\
  Stp (S++A) H H'/\(∀ a∈A',a∈A\/H.length<=a)/\(∀ a∈E,a∈S\/H.length<=a):=by
 have hI:PInv w R k0 j 0 ⟨[],P0,k0,j⟩:=⟨by simpa using hP,zE _,rfl,by simp[Y3],(fun x hx=>by cases hx),⟨Int.le_refl _,by simp⟩,rfl,rfl⟩;have M:=X;obtain⟨x,Y,Z,g3,g4,g5⟩:=X;have W:=ZW Y 12 (v:=x) rfl;have z:=SS.len Z.ss 9;rw[zN]at z;have V:HY (w:Int)=w:=by unfold HY;omega
 obtain⟨y,p1,F⟩:=Zud (R.length:Int) (w:Int) (by omega) H;rw[V]at F;have hn:((R.length:Nat):Int).toNat=R.length:=by omega
 rw[hn]at F;have C:=F.len 38;rw[Zgx]at C;obtain⟨H',A',E,u,s',m1,m2,m3,m4,m5,m6,m7,m8⟩:=Zub hB hl hok hsm hs hks hkl hw hw2 I K J T U F (P0:=P0) H (YR w R.length) 0 .nils tm s A S H (by omega) (Nat.zero_le _) hI hX D M (.inl ⟨rfl,rfl⟩) (fun a Q=>by cases Q) (by simp[ZG]) rfl rfl;refine⟨H',A',E,u,s',?_,m2,m3,m4,m5,m6,m7,fun a Q=>?_⟩
 ·rw[E8];unfold FB;simp only[go_sem,zK,W,z,p1,C];exact m1
 ·rcases m8 a Q with h|h|h
  ·exact .inl h
  ·cases h
  ·exact .inr h
end
end Go.Am
