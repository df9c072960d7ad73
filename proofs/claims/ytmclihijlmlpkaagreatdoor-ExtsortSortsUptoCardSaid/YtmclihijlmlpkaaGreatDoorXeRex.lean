/- The runs of a sort are written -/
import Derived.Test.YtmclihijlmlpkaaGreatDoorXeQcx
import Derived.Test.YtmclihijlmlpkaaGreatDoorXeSmx
import Derived.Test.YtmclihijlmlpkaaGreatDoorXeQbx
import Derived.Test.YtmclihijlmlpkaaGreatDoorXeGPx
open Option renaming some->Y
open Bool renaming true->U,false->I
open List renaming length->Z
open Go.db renaming cm->K
open Go.Am.AV renaming int->J
open Go.IntKind renaming i64->X
open Go.IntKind renaming i64->xG
open List renaming mem_append_left->zA,mem_append_right->zB,mem_append->zC,getElem?_append_right->zD,getElem?_cons_zero->zE,getElem?_cons_succ->zF,append_nil->zH,map_append->zI,nodup_cons->zK,append_assoc->zL,range->zM,length_append->zN,mem_cons->zO,getElem?_append_left->zQ,length_map->zR,map_cons->zT,length_singleton->zU,take_append_drop->zV,length_take->zW,mem_of_getElem?->zX,mem_of_mem_drop->zY,mem_map_of_mem->zZ,mem_singleton->yA,range'->yB,flatten_cons->yC,nodup_append->yD,getElem?_eq_some_iff->yE,length_drop->yG,perm_append_comm->yI,getElem?_set_ne->yK,mem_of_mem_take->yL,length_range'->yN,getElem?_map->yP,length_cons->yQ,all_eq_true->yR,flatten_nil->yT,range_succ->yX,mapM_cons->yY,map_nil->xB
open Nat renaming le_refl->zG,zero_add->zJ,mul_le_mul_right->zP,le_mul_of_pos_right->zS,le_trans->yH,add_mul->yU,one_mul->yV,reduceAdd->xA,zero_le->xD
open Bool renaming not_false->yZ
open Option renaming isSome->yM,getD->yW
open Go.Am.AObj renaming cells->yF
open Go.Am.AV renaming vs->yO,str->yS,int->xC,ptr->xE,nils->xF
open List.Perm renaming append_left->yJ
namespace Go.Am
set_option linter.unusedSectionVars false
set_option maxRecDepth 100000
def W3 (L:Loc)(p:Spec)(k:Nat)(c:List Zi):Pr:=(Yd (k+1),ZX L p c)
def wP (L:Loc)(p:Spec):List Pr->Nat->List (List Zi)->List Pr
 |P,_,[]=>P
 |P,k,c::r=>wP L p (P++[W3 L p k c]) (k+1) r
def wT (L:Loc)(p:Spec):List Pr->Nat->Stt->List (List Zi)->Stt
 |_,_,st,[]=>st
 |P,k,st,c::r=>wT L p (P++[W3 L p k c]) (k+1) ⟨st.r+1,st.m,max st.y (Yj cS c),max st.k (ZG (P++[W3 L p k c]):Int)⟩ r
theorem ZAp (L:Loc)(p:Spec):∀ (r:List (List Zi)) (P:List Pr) (k:Nat),(wP L p P k r).length=Z P+Z r:=by
 intro r
 induction r with
 |nil=>intro P k;simp[wP]
 |cons c r h=>intro P k;simp only[wP,h];simp;omega
theorem ZAr (L:Loc)(p:Spec):∀ (r:List (List Zi)) (P:List Pr) (k:Nat),(wP L p P k r).map (·.2)=P.map (·.2)++r.map (ZX L p):=by
 intro r
 induction r with
 |nil=>intro P k;simp[wP]
 |cons c r h=>intro P k;simp only[wP,h];simp[W3]
theorem Zj7 {L:Loc}{p:Spec}{k:Nat}{c:List Zi}(h:∀ s∈c,Z s<=200):∀ s∈(W3 L p k c).2,Z s<=200:=λs hs=>h s (ZbF L p c s hs)
section
variable {o g t:Nat}{L:Loc}{lx cl e:AV}{p:Spec}{xp:AV}{B:List Fil}(hB:BOk B)
 (hl:LocAV (.agg (L.cells lx cl e)) L) (hok:LocOk L) (hs:SpecAV (.agg (p.cells xp)) p) (hks:∀ k∈p.keys,KeOk k)
 {x13:AV} {cs:List (List Zi)} (hx:LsV x13 cs) (hcl:Z cs<=40) (hcs:∀ c∈cs,Z c<=40/\∀ s∈c,Z s<=200)
include hB hl hok hs hks hx hcl hcs
theorem Zt4 (H0:Hp):∀ (r d:List (List Zi)) (P:List Pr) (k:Nat) (st:Stt) (tm:Tmp) (s:Sto) (A S:da) (H:Hp),cs=d++r->k+Z r<=60->Z P+Z r<=41->ShortP P->ZS P+Z r.flatten<=80 ->
 0<=st.r/\st.r+(Z r:Int)<=1000->XS B tm s P k->SysAt H o t tm s A->SrAt H g o A L lx cl e p xp P st S ->
 ∃ H' A' S' Q s',WU (.ptr g 0) x13 (J X (Z cs:Int)) (J X (Z d:Int)) H0 H=Y (J X 0,H')/\SysAt H' o t Q s' A'/\XS B Q s' (wP L p P k r) (k+Z r) /\
  SrAt H' g o A' L lx cl e p xp (wP L p P k r) (wT L p P k st r) S'/\Stp (S++A) H H'/\(∀ a∈A',a∈A\/Z H<=a)/\(∀ a∈S',a∈S\/Z H<=a):=by
 intro r
 induction r with
 |nil =>
  intro d P k st tm s A S H hd _ _ _ _ _ hX E hS;rw[zH]at hd;subst hd;have ad:decide ((Z cs:Int)<(Z cs:Int))=I:=cn
  refine⟨H,A,S,tm,s,?_,E,hX,hS,Stp.refl _ _,λa h=>.inl h,λa h=>.inl h⟩;rw[K5];simp only[go_sem,ad,Ls]
 |cons j r ih =>
  intro d P k st tm s A S H hd hk hm an bf bg hX E hS;have hlen:Z cs=Z d+(Z r+1):=by rw[hd];simp
  simp only[yQ,yC,zN]at hk hm bf;rw[yQ]at bg;have ad:decide ((Z d:Int)<(Z cs:Int))=U:=by rw[decide_eq_true_eq];omega
  have hin:cs[Z d]?=Y j:=by rw[hd,zD (zG _)];simp
  obtain⟨c1,c2⟩:=hcs j (zX hin);obtain⟨pt,av,q1,q2,q3⟩:=hx.get hin H;have bh:xG.wrap ((Z d:Int)+1)=((d++[j]).length:Int):=by rw[Zo K K];simp
  have bd:=hS.off;have br:=hS.lt;have bp:=E.lt;obtain⟨x,g1,g2,g3,g4,g5⟩:=hS;have l0:=ZU g1 0 (v:=.ptr o 0) rfl;have l1:=ZkN g1;have l7:=Zg2 g1;have bz:(ZX L p j).length<=Z j:=IJ L p j;have z:∀ y∈ZX L p j,Z y<=200:=λy hy=>c2 y (ZbF L p j y hy)
  have ab:X5 (ZX L p j)=U:=by
   unfold X5;rw[yR];intro y hy;have:=z y hy;simp;omega
  have bt:=Zat _ z;have bs:=an.cost;have bw:(ZX L p j).length*206<=40*206:=zP _ K;have bx:ZS P*206<=80*206:=zP _ K;have aa:ZG P+ZJ (ZX L p j)<=100000:=K
  have ao:ShortP (P++[W3 L p k j]):=λy hy=>by
   rcases zC.1 hy with h|h
   ·exact an y h
   ·rw[yA.1 h];exact Zj7 c2
  obtain⟨tm1,s1,s2,aw,s3,w1,w2,w3,w4,w5,w6,w7⟩:=hX.write hB ab K K aa;obtain⟨H1,A1,r1,r2⟩:=Ztb E hX.tmOk (hX.stoOk hB) (by rw[hX.tmE.2.2.2.1];omega) hl hok hs hks q3 (λy hy=>by have:=c2 y hy;omega) K K (λy hy=>by have:=z y hy;omega) w1 w2 w3 w4 w5 w6;have bc:SrAt H1 g o A1 L lx cl e p xp P st S:=SrAt.stp ⟨x,g1,g2,g3,g4,g5⟩ r2.stp bd r2.own;obtain⟨H2,u1,u2,u3,u4⟩:=Zg9 hB w7 r2.at' bc
  -- the name is kept
  obtain⟨x2,k1,k2,k3,k4,k5⟩:=u3;have bj:=ZU k1 12 (v:=x2) rfl;obtain⟨u,H3,n1,n2,n3,n4,n5,n6,n7⟩:=k2.app (Yd (k+1)) (by simp;omega);have ar:=zK.1 k4;have aq:H3[g]?=Y (.cells (W2 o L lx cl e p xp x2 { st with k:=max st.k (ZG (P++[(Yd (k+1),ZX L p j)]):Int) })):=n3.get k1 ar.1;have af:=Vb aq 12 (v:=u) n5 n6 (by rw[Sw];omega);have ax:((W2 o L lx cl e p xp x2 { st with k:=max st.k (ZG (P++[(Yd (k+1),ZX L p j)]):Int) }).set 12 u)=W2 o L lx cl e p xp u { st with k:=max st.k (ZG (P++[(Yd (k+1),ZX L p j)]):Int) }:=rfl;rw[ax]at af;have F:=Zs (yF (W2 o L lx cl e p xp u { st with k:=max st.k (ZG (P++[(Yd (k+1),ZX L p j)]):Int) })) aq;generalize ba:H3.set g (.cells (W2 o L lx cl e p xp u { st with k:=max st.k (ZG (P++[(Yd (k+1),ZX L p j)]):Int) }))=H4 at af F;have bk:=ZU F 13 (v:=J X st.r) rfl;have wr:xG.wrap (st.r+1)=st.r+1:=Zo K K;have ag:=Vb F 13 (v:=J X (st.r+1)) rfl rfl (by rw[Sw];omega);have ay:((W2 o L lx cl e p xp u { st with k:=max st.k (ZG (P++[(Yd (k+1),ZX L p j)]):Int) }).set 13 (J X (st.r+1)))=W2 o L lx cl e p xp u { st with r:=st.r+1,k:=max st.k (ZG (P++[(Yd (k+1),ZX L p j)]):Int) }:=rfl;rw[ay]at ag;have O:=Zs (yF (W2 o L lx cl e p xp u { st with r:=st.r+1,k:=max st.k (ZG (P++[(Yd (k+1),ZX L p j)]):Int) })) F;generalize bb:H4.set g (.cells (W2 o L lx cl e p xp u { st with r:=st.r+1,k:=max st.k (ZG (P++[(Yd (k+1),ZX L p j)]):Int) }))=H5 at ag O;have bl:=ZU O 15 (v:=J X st.y) rfl;have be:=Zrg q3 (λy hy=>by have:=c2 y hy;omega) K H5;have ah:=Vb O 15 (v:=J X (max st.y (Yj cS j))) rfl rfl (by rw[Sw];omega);have az:((W2 o L lx cl e p xp u { st with r:=st.r+1,k:=max st.k (ZG (P++[(Yd (k+1),ZX L p j)]):Int) }).set 15 (J X (max st.y (Yj cS j))))=W2 o L lx cl e p xp u ⟨st.r+1,st.m,max st.y (Yj cS j),max st.k (ZG (P++[(Yd (k+1),ZX L p j)]):Int)⟩:=rfl;rw[az]at ah;have ap:=Zs (yF (W2 o L lx cl e p xp u ⟨st.r+1,st.m,max st.y (Yj cS j),max st.k (ZG (P++[(Yd (k+1),ZX L p j)]):Int)⟩)) O;have t4:Stp [g] H3 H4:=by rw[<-ba];exact Stp.set _ _ cn
  have t5:Stp [g] H4 H5:=by rw[<-bb];exact Stp.set _ _ cn
  have t6:Stp [g] H5 (H5.set g (.cells (W2 o L lx cl e p xp u ⟨st.r+1,st.m,max st.y (Yj cS j),max st.k (ZG (P++[(Yd (k+1),ZX L p j)]):Int)⟩))):=Stp.set _ _ cn;generalize bq:H5.set g (.cells (W2 o L lx cl e p xp u ⟨st.r+1,st.m,max st.y (Yj cS j),max st.k (ZG (P++[(Yd (k+1),ZX L p j)]):Int)⟩))=H6 at ah ap t6;have au:Stp [g] H3 H6:=(t4.trans t5 (λ_ h=>h) λa h=>.inl h).trans t6 (λ_ h=>h) λa h=>.inl h;have ai:Stp (g::ZN x2) H2 H6:=(n3.mono λa C=>List.mem_cons_of_mem _ C).trans au (λ_ h=>h) λa h=>.inl (by rw[yA.1 h];simp);have ac:∀ a∈g::ZN x2,a∈S:=λa C=>by rw[k5];exact C
  have bn:=u4.len;have bm:=r2.stp.len;have bo:=ai.len;have aj:=r2.at'.lt;have ae:SysAt H6 o t aw s3 A1:=u2.stp ai λa C hg=>k3 a hg C;have D:∀ a∈ZN u,a∈ZN x2\/a=Z H2:=n4
  have ak:SrAt H6 g o A1 L lx cl e p xp (P++[W3 L p k j]) ⟨st.r+1,st.m,max st.y (Yj cS j),max st.k (ZG (P++[W3 L p k j]):Int)⟩ (g::ZN u):=by
   have bu:=Zn k1
   have T:g∉ZN u:=λhg=>by
    rcases D g hg with h|h
    ·exact ar.1 h
    ·omega
   refine⟨u,ap,?_,λa C hA=>?_,zK.2 ⟨T,n7⟩,rfl⟩
   ·have:(P++[W3 L p k j]).map (·.1)=P.map (·.1)++[Yd (k+1)]:=by simp[W3]
    rw[this];exact n2.frame λa C=>au.at' a (n2.lt a C) (by simp;exact λe=>T (e ▸ C))
   ·rcases zO.1 C with h|h
    ·exact k3 g cn (h ▸ hA)
    ·rcases D a h with h|h
     ·exact k3 a (by simp[h]) hA
     ·have:=aj a hA;omega
  have bi:=ih (d++[j]) (P++[W3 L p k j]) (k+1) ⟨st.r+1,st.m,max st.y (Yj cS j),max st.k (ZG (P++[W3 L p k j]):Int)⟩ aw s3 A1 (g::ZN u) H6 (by rw[hd];simp) K (by simp;omega) ao (by
   rw[Vj];simp only[ZS,W3];omega) ⟨by show 0<=st.r+1;omega,by show st.r+1+(Z r:Int)<=1000;omega⟩ w7 ae ak
  obtain⟨H',A',S',Q,s',m1,m2,m3,m4,m5,m6,m7⟩:=bi;have R:=r2.own
  have al:∀ a∈g::ZN u,a∈S\/Z H<=a:=λa C=>by
   rcases zO.1 C with h|h
   ·exact .inl (h ▸ ac g cn)
   ·rcases D a h with h|h
    ·exact .inl (ac a (by simp[h]))
    ·exact .inr K
  refine⟨H',A',S',Q,s',?_,m2,?_,m4,?_,λa C=>?_,λa C=>?_⟩
  ·have am:(Zt 1 [(0,yS (Yd (k+1)))] [(.str [])]).map (yO 1 .clip)=Y (.vs 1 .clip [.str (Yd (k+1))]):=rfl;have e0:((0:Int) != 0)=I:=rfl;rw[K5];simp only[go_sem,ad,Lt,q1,q2,zJ,l0,l1,l7,r1,zE,zF,e0,Lv,u1,bj,am,n1,af,xA,Nat.add_zero,bk,wr,ag,bl,be,ah,Lu,bh];exact m1
  ·rw[show k+(j::r).length=k+1+Z r by simp;omega];exact m3
  ·have b1:Stp (S++A) H H1:=r2.stp.mono λa C=>zB _ C;have b2:Stp (S++A) H H2:=b1.trans u4 (λ_ h=>h) λa h=>.inl (zA _ h);have b3:Stp (S++A) H H6:=b2.trans ai (λ_ h=>h) λa h=>.inl (zA _ (ac a h));refine b3.trans m5 (λ_ h=>h) λa h=>?_;rcases zC.1 h with h|h
   ·exact (al a h).imp (λh=>zA _ h) id
   ·exact (R a h).imp (λh=>zB _ h) id
  ·rcases m6 a C with h|h
   ·exact R a h
   ·exact .inr K
  ·rcases m7 a C with h|h
   ·exact al a h
   ·exact .inr K
end
def CK:List Pr->List Pr->List Pr
 |[],P=>P
 |x::G,P=>CK G (Wx x.1 P)
theorem ZtZ {n:Zx}{P:List Pr}{x:Pr}:x∈Wx n P↔x∈P/\x.1≠n:=by
 unfold Wx;rw[List.mem_filter];simp
theorem ZhR {x:Pr}{Q:List Pr}(h:((x::Q).map (·.1)).Nodup):Wx x.1 (x::Q)=Q:=by
 rw[zT,zK]at h;unfold Wx;rw[List.filter_cons,if_neg cn];exact ZhS h.1
theorem Zpe:∀ (G P Q:List Pr),(P.map (·.1)).Nodup->P.Perm (G++Q)->(CK G P).Perm Q:=by
 intro G
 induction G with
 |nil=>intro P Q _ h;exact h
 |cons x G z =>
  intro P Q hnd h;refine z _ Q (hnd.sublist (List.filter_sublist.map _)) ?_;have j:(Wx x.1 P).Perm (Wx x.1 (x::(G++Q))):=h.filter _;have u:Wx x.1 (x::(G++Q))=G++Q:=ZhR ((h.map (·.1)).nodup_iff.1 hnd);rw[u]at j;exact j
def gM (L:Loc)(p:Spec)(k:Nat)(G:List Pr):Pr:=(Yd (k+1),YS L p (G.map (·.2)))
def gN (L:Loc)(p:Spec)(k:Nat)(G:List Pr):Pr:=match G with
 |[x]=>x
 |G=>gM L p k G
def gP (L:Loc)(p:Spec)(k:Nat)(G P:List Pr):List Pr:=match G with
 |[_]=>P
 |G=>CK G (P++[gM L p k G])
def gK (k:Nat)(G:List Pr):Nat:=match G with
 |[_]=>k
 |_=>k+1
def gT (L:Loc)(p:Spec)(k:Nat)(G P:List Pr)(st:Stt):Stt:=match G with
 |[_]=>st
 |G=>⟨st.r,st.m+1,st.y,max st.k (ZG (P++[gM L p k G]):Int)⟩
section
variable {o g t:Nat}{L:Loc}{lx cl e:AV}{p:Spec}{xp:AV}{B:List Fil}(hB:BOk B)
include hB
theorem Zzs {xn:AV}{G:List Pr}(hx:SS xn (G.map (·.1)))(al:Z G<=64)(Q:(G.map (·.1)).Nodup)(x6:AV){R:List Pr}(H0:Hp):∀ (r d:List Pr) (P:List Pr) (k:Nat) (st:Stt) (tm:Tmp) (s:Sto) (A S:da) (H:Hp),G=d++r->(∀ x∈r,x∈P) ->
 (ZG P:Int)<=st.k->XS B tm s P k->SysAt H o t tm s A->SrAt H g o A L lx cl e p xp R st S ->
 ∃ H' A' D s',WQ (.ptr g 0) x6 xn (J X (Z G:Int)) (J X (Z d:Int)) H0 H=Y (.tuple [x6,J X 0],H')/\SysAt H' o t D s' A'/\XS B D s' (CK r P) k /\
  SrAt H' g o A' L lx cl e p xp R st S/\Stp (S++A) H H'/\(∀ a∈A',a∈A\/Z H<=a):=by
 intro r
 induction r with
 |nil =>
  intro d P k st tm s A S H E _ _ u j T;rw[zH]at E;subst E;have F:decide ((Z G:Int)<(Z G:Int))=I:=cn
  refine⟨H,A,tm,s,?_,j,u,T,Stp.refl _ _,λa h=>.inl h⟩;rw[K3];simp only[go_sem,F,Lk]
 |cons y r ih =>
  intro d P k st tm s A S H E hr am u j T;have hlen:Z G=Z d+(Z r+1):=by rw[E];simp
  have F:decide ((Z d:Int)<(Z G:Int))=U:=by rw[decide_eq_true_eq];omega
  have hin:(G.map (·.1))[Z d]?=Y y.1:=by rw[E];simp
  have ac:=SS.idx hx hin;have ai:xG.wrap ((Z d:Int)+1)=((d++[y]).length:Int):=by rw[Zo K K];simp
  have C:=hr y cn;have af:=T.off;have ad:=T;obtain⟨x,g1,g2,g3,g4,g5⟩:=T;have l0:=ZU g1 0 (v:=.ptr o 0) rfl
  have ah:tm.names≠[]:=λe=>by
   have:=zZ (f:=λx:Pr=>x.1) C;rw[u.tmE.2.1]at e;rw[e]at this;cases this
  obtain⟨H1,A1,sl,r1,O,r3⟩:=ZqF j u.tmOk (u.stoOk hB) u.stE.2.2.2.1 u.stE.2.2.2.2 (u.find C) ah (u.get hB C);have aa:=u.remove hB C r3;have ae:=ad.stp O.stp af O.own;obtain⟨H2,u1,u2,u3,u4⟩:=Zg9 hB aa O.at' ae
  have ab:(ZG (Wx y.1 P):Int)<=st.k:=by
   have:=Zas (λz=>!(z.1==y.1)) P;unfold Wx;omega
  have ag:({ st with k:=max st.k (ZG (Wx y.1 P):Int) }:Stt)=st:=by
   cases st;simp only[Stt.mk.injEq,true_and];dsimp only at ab;omega
  rw[ag]at u3
  have hnd:y.1∉r.map (·.1):=by
   rw[E,zI,zT]at Q;have:=(yD.1 Q).2.1;exact (zK.1 this).1
  obtain⟨H',A',D,s',m1,m2,m3,m4,m5,m6⟩:=ih (d++[y]) (Wx y.1 P) k st _ _ A1 S H2 (by rw[E];simp) (λz hz=>ZtZ.2 ⟨hr z (by simp[hz]),λe=>hnd (e ▸ zZ hz)⟩) ab aa u2 u3;have aj:=O.stp.len;have ak:=u4.len;refine⟨H',A',D,s',?_,m2,m3,m4,?_,λa ha=>?_⟩
  ·have e0:((0:Int) != 0)=I:=rfl;rw[K3];simp only[go_sem,F,Ll,ac,Zu,zJ,l0,r1,e0,Ln,u1,Lm,ai];exact m1
  ·have b1:Stp (S++A) H H2:=(O.stp.mono λa ha=>zB _ ha).trans u4 (λ_ h=>h) λa h=>.inl (zA _ h);refine b1.trans m5 (λ_ h=>h) λa h=>?_;rcases zC.1 h with h|h
   ·exact .inl (zA _ h)
   ·exact (O.own a h).imp (λh=>zB _ h) id
  ·rcases m6 a ha with h|h
   ·exact O.own a h
   ·exact .inr K
variable (hl:LocAV (.agg (L.cells lx cl e)) L)(hok:LocOk L)(hsm:LocSm L)(hs:SpecAV (.agg (p.cells xp)) p)(hks:∀ k∈p.keys,KeOk k)(hkl:Z p.keys<=1048576)
include hl hok hsm hs hks hkl
theorem Zuq {xn:AV}{G:List Pr}(hx:SS xn (G.map (·.1)))(z:G≠[])(aa:Z G<=64)(ae:(G.map (·.1)).Nodup){R P:List Pr}{k:Nat}{st:Stt}{tm:Tmp}{s:Sto}{A S:da}{H:Hp}
 (ab:∀ x∈G,x∈P) (hk:k<126) (hm:Z P<42) (hc:ZG P+ZG G<=100000) (an:0<=st.m/\st.m<=1000) (hX:XS B tm s P k) (E:SysAt H o t tm s A) (hS:SrAt H g o A L lx cl e p xp R st S) :
 ∃ H' A' C s',Qr [.ptr g 0,xn] H=Y (.tuple [.str (gN L p k G).1,J X 0],H')/\SysAt H' o t C s' A'/\XS B C s' (gP L p k G P) (gK k G) /\
  SrAt H' g o A' L lx cl e p xp R (gT L p k G P st) S/\Stp (S++A) H H'/\(∀ a∈A',a∈A\/Z H<=a):=by
 have O:=SS.len hx 9;rw[zR]at O;rw[Ey];unfold Dq;by_cases T:Z G=1
 ·obtain⟨y,rfl⟩:∃ y,G=[y]:=by
   match G,T with
   |[y],_=>exact⟨y,rfl⟩
  have e1:(((([y]:List Pr).length:Nat):Int)==1)=U:=rfl;have j:=SS.idx hx (i:=0) (s:=y.1) rfl;refine⟨H,A,tm,s,?_,E,hX,hS,Stp.refl _ _,λa h=>.inl h⟩;simp only[go_sem,O,e1];have j:Zj 1 xn (J X 0)=Y (.vp [.str y.1]):=j;simp only[go_sem,j,Zu];rfl
 have e1:((Z G:Int)==1)=I:=by rw[beq_eq_false_iff_ne];omega
 have f1:gN L p k G=gM L p k G:=by
  match G,T,z with
  |x::y::r,_,_=>rfl
 have f2:gP L p k G P=CK G (P++[gM L p k G]):=by
  match G,T,z with
  |x::y::r,_,_=>rfl
 have f3:gK k G=k+1:=by
  match G,T,z with
  |x::y::r,_,_=>rfl
 have f4:gT L p k G P st=⟨st.r,st.m+1,st.y,max st.k (ZG (P++[gM L p k G]):Int)⟩:=by
  match G,T,z with
  |x::y::r,_,_=>rfl
 rw[f1,f2,f3,f4];obtain⟨H1,A1,tm1,s1,r1,r2,r3,r4,r5⟩:=Zt5 hl hok hsm hs hks hkl hB hX hk hm ab aa hx hc E;have ag:=hS.off;have af:=hS.stp r4 ag r5;obtain⟨x,g1,g2,g3,g4,g5⟩:=hS;have l0:=ZU g1 0 (v:=.ptr o 0) rfl;have l1:=ZkN g1;have l7:=Zg2 g1;obtain⟨D,j1,j2,j3,j4,j5⟩:=af;have ah:=zK.1 j4;have ai:=ZU j1 14 (v:=J X st.m) rfl;have wm:xG.wrap (st.m+1)=st.m+1:=Zo K K;have Q:=Vb j1 14 (v:=J X (st.m+1)) rfl rfl (by rw[Sw];omega);have ad:((W2 o L lx cl e p xp D st).set 14 (J X (st.m+1)))=W2 o L lx cl e p xp D { st with m:=st.m+1 }:=rfl;rw[ad]at Q;have i1:=Zs (yF (W2 o L lx cl e p xp D { st with m:=st.m+1 })) j1;have t2:Stp (g::ZN D) H1 (H1.set g (.cells (W2 o L lx cl e p xp D { st with m:=st.m+1 }))):=Stp.set _ _ cn;have u:SysAt (H1.set g (.cells (W2 o L lx cl e p xp D { st with m:=st.m+1 }))) o t tm1 s1 A1:=r2.stp t2 λa F hg=>j3 a hg F
 have ac:SrAt (H1.set g (.cells (W2 o L lx cl e p xp D { st with m:=st.m+1 }))) g o A1 L lx cl e p xp R { st with m:=st.m+1 } S :=
  ⟨D,i1,j2.frame λa F=>yK λ(e:g=a)=>ah.1 (by rw[e];exact F),j3,j4,j5⟩
 have aj:=t2.len;generalize am:H1.set g (.cells (W2 o L lx cl e p xp D { st with m:=st.m+1 }))=H2 at Q u ac t2 aj;obtain⟨H3,u1,u2,u3,u4⟩:=Zg9 hB r3 u ac;obtain⟨H',A',C,s',m1,m2,m3,m4,m5,m6⟩:=Zzs hB hx aa ae (.str (Yd (k+1))) H G [] (P++[gM L p k G]) (k+1) ⟨st.r,st.m+1,st.y,max st.k (ZG (P++[gM L p k G]):Int)⟩ tm1 s1 A1 S H3 rfl (λy hy=>zA _ (ab y hy)) (by show (ZG (P++[gM L p k G]):Int)<=max st.k (ZG (P++[gM L p k G]):Int);omega) r3 u2 u3;have ak:=r4.len;have al:=u4.len;refine⟨H',A',C,s',?_,m2,m3,m4,?_,λa F=>?_⟩
 ·have e0:((0:Int) != 0)=I:=rfl;simp only[go_sem,O,e1,Li,zJ,l0,l1,l7,r1,zE,zF,e0,Lj,xA,ai,wm,Q,u1];exact m1
 ·have b1:Stp (S++A) H H1:=r4.mono λa F=>zB _ F;have b2:Stp (S++A) H H2:=b1.trans t2 (λ_ h=>h) λa h=>.inl (zA _ (by rw[j5];exact h));have b3:Stp (S++A) H H3:=b2.trans u4 (λ_ h=>h) λa h=>.inl (zA _ h);refine b3.trans m5 (λ_ h=>h) λa h=>?_;rcases zC.1 h with h|h
  ·exact .inl (zA _ h)
  ·exact (r5 a h).imp (λh=>zB _ h) id
 ·rcases m6 a F with h|h
  ·exact r5 a h
  ·exact .inr K
end
abbrev iv (n:Nat):AV:=J X (n:Int)
abbrev IS (x:AV)(l:da):Prop:=Sl 1 x (l.map iv)
def ApI (H:Hp)(a:AV)(l:da):Prop:=a=.nils/\l=[]\/∃ t e,a=.vs 1 (.own t e) (l.map iv)/\H[t]?=Y (.tok e)
theorem ApI.is {H:Hp}{a:AV}{l:da}(h:ApI H a l):IS a l:=by
 rcases h with ⟨rfl,rfl⟩|⟨t,e,rfl,_⟩
 ·exact .inl ⟨rfl,rfl⟩
 ·exact .inr ⟨_,rfl⟩
theorem IS.cell {x:AV}{l:da}(h:IS x l):x.cells=[x]/\x.known=U:=by
 rcases h with ⟨rfl,_⟩|⟨t,rfl⟩ <;> exact⟨rfl,rfl⟩
theorem IS.len {x:AV}{l:da}(h:IS x l)(e:Nat):Zk (.slice e) x=Y (J X (Z l:Int)):=by
 rcases h with ⟨rfl,h⟩|⟨t,rfl⟩
 ·have:l=[]:=by simpa using h
  subst this;rfl
 ·simp[Zk]
theorem ApI.app {H:Hp}{a:AV}{l:da}(h:ApI H a l)(n:Nat)(hl:Z l<=1048576) :
 ∃ (a':AV) (H':Hp),ZR 1 8 a (.vs 1 .clip [iv n]) H=Y (a',H')/\ApI H' a' (l++[n])/\∀ (o e:Nat) (C:c6),H[o]?=Y (AObj.row e C)->H'[o]?=Y (AObj.row e C):=by
 unfold ZR;have D:Go.Am.elems 1 (.vs 1 .clip [iv n]) H=Y [iv n]:=rfl;rw[D];have j:YB ((l.map iv).length+[iv n].length) 8=U:=by simp[YB];omega
 have z:YB [iv n].length 8=U:=rfl;rcases h with ⟨rfl,rfl⟩|⟨t,e,rfl,E⟩
 ·refine⟨.vs 1 (.own (Z H) 1) [iv n],H++[.tok 1],?_,.inr ⟨Z H,1,rfl,cn⟩,λo F C u=>Y8 u _⟩;simp only[Ys,z,if_true];rw[if_neg cn];rfl
 ·refine⟨.vs 1 (.own t (e+1)) (l.map iv++[iv n]),H.set t (.tok (e+1)),?_,.inr ⟨t,e+1,cn,Zs _ E⟩,λo F C u=>?_⟩
  ·simp only[Ys,j,and_self,if_true,E];rw[if_neg cn];rfl
  ·refine Y2 _ (λD=>?_) u;subst D;rw[E]at u;cases u
structure EI (es:c6)(ls:List da):Prop where
 len:Z es=Z ls
 at':∀ (i:Nat) (l:da),ls[i]?=Y l->∃ e,es[i]?=Y e/\IS e l
theorem EI.nil:EI [] []:=⟨rfl,λi l h=>by simp at h⟩
theorem EI.app {z:c6}{ls:List da}(h:EI z ls){e:AV}{l:da}(D:IS e l):EI (z++[e]) (ls++[l]):=by
 refine⟨by simp[h.len],λj m hm=>?_⟩;by_cases C:j<Z ls
 ·rw[zQ C]at hm;rw[zQ (by rw[h.len];exact C)];exact h.at' j m hm
 ·have u:=(yE.1 hm).1;have:j=Z ls:=by simp at u;omega
  subst this;rw[zD (zG _)]at hm;simp at hm;subst hm;exact⟨e,by rw[zD (by rw[h.len];exact zG _),h.len];simp,D⟩
theorem EI.tail {e:AV}{u:c6}{l:da}{ls:List da}(h:EI (e::u) (l::ls)):IS e l/\EI u ls:=by
 obtain⟨j,z,C⟩:=h.at' 0 l rfl;obtain rfl:e=j:=Option.some.inj z
 exact⟨C,by have:=h.len;simpa using this,λi m hm=>by
  obtain⟨j,D,E⟩:=h.at' (i+1) m (by simpa using hm);exact⟨j,by simpa using D,E⟩⟩
theorem EI.cons {e:AV}{j:c6}{l:da}{ls:List da}(h:IS e l)(k:EI j ls):EI (e::j) (l::ls) :=
 ⟨by simp[k.len],λi m hm=>by
  cases i with
  |zero=>simp at hm;subst hm;exact⟨e,rfl,h⟩
  |succ i=>simpa using k.at' i m (by simpa using hm)⟩
theorem ZuF (H:Hp)(n f:Nat):∀ l:da,(l.map iv).mapM (Zh H n (f+1))=Y (l.map iv):=by
 intro l
 induction l with
 |nil=>rfl
 |cons a l h=>rw[zT,yY,h];rfl
theorem IS.close {x:AV}{l:da}(h:IS x l)(H:Hp)(n f:Nat):∃ j,Zh H n (f+2) x=Y j/\IS j l:=by
 rcases h with ⟨rfl,h⟩|⟨t,rfl⟩
 ·exact⟨.nils,rfl,.inl ⟨rfl,h⟩⟩
 ·exact⟨_,by rw[fA,ZuF],.inr ⟨_,rfl⟩⟩
theorem EI.close {u:c6}{ls:List da}(h:EI u ls)(H:Hp)(n f:Nat):∃ j,u.mapM (Zh H n (f+2))=Y j/\EI j ls:=by
 induction u generalizing ls with
 |nil =>
  have:ls=[]:=List.length_eq_zero_iff.1 (by rw[<-h.len];rfl);subst this;exact⟨[],rfl,EI.nil⟩
 |cons e u E =>
  cases ls with
  |nil=>have:=h.len;simp at this
  |cons l ls =>
   obtain⟨C,D⟩:=h.tail;obtain⟨z,F,O⟩:=IS.close C H n f;obtain⟨j,Q,R⟩:=E D;exact⟨z::j,by rw[yY,F];simp[Q],EI.cons O R⟩
def IV (x:AV)(ls:List da):Prop:=x=.nils/\ls=[]\/∃ t h,x=.vs 1 t h/\EI h ls
theorem IV.len {x:AV}{ls:List da}(h:IV x ls)(e:Nat):Zk (.slice e) x=Y (J X (Z ls:Int)):=by
 rcases h with ⟨rfl,rfl⟩|⟨t,j,rfl,u⟩
 ·rfl
 ·show Y (xC .i64 (Z j:Int))=_;rw[u.len]
theorem IV.get {x:AV}{ls:List da}(h:IV x ls){i:Nat}{l:da}(hi:ls[i]?=Y l):∃ a,Zj 1 x (J X (i:Int))=Y (.vp [a])/\IS a l:=by
 rcases h with ⟨rfl,rfl⟩|⟨t,C,rfl,z⟩
 ·simp at hi
 ·obtain⟨a,u,j⟩:=z.at' i l hi;refine⟨a,?_,j⟩;unfold Zj;dsimp only;rw[if_pos ⟨rfl,K⟩,Int.toNat_natCast,u];dsimp only;rw[j.cell.1]
theorem IS.idx {x:AV}{l:da}(h:IS x l){i n:Nat}(hi:l[i]?=Y n):Zj 1 x (J X (i:Int))=Y (.vp [iv n]):=Sl.idx h (c:=iv n) (by simp[hi])
def RowI (H:Hp)(x:AV)(A:List da)(k:da):Prop:=∃ o e h a,x=.ws I 1 o e (Z A+1)/\H[o]?=Y (.row e (h++[a]))/\EI h A/\ApI H a k
def RowA (H:Hp)(x:AV)(ls:List da):Prop:=x=.nils/\ls=[]\/∃ o e h,x=.ws I 1 o e (Z ls)/\H[o]?=Y (.row e h)/\EI h ls
theorem RowI.all {H:Hp}{x:AV}{A:List da}{k:da}(h:RowI H x A k):RowA H x (A++[k]):=by
 obtain⟨o,e,j,a,rfl,u,z,C⟩:=h;exact .inr ⟨o,e,j++[a],cn,u,z.app C.is⟩
theorem RowA.close {H:Hp}{x:AV}{ls:List da}(h:RowA H x ls):∃ C,Zh H 0 9 x=Y C/\IV C ls:=by
 rcases h with ⟨rfl,rfl⟩|⟨o,e,D,rfl,E,u⟩
 ·exact⟨.nils,rfl,.inl ⟨rfl,rfl⟩⟩
 ·obtain⟨j,F,O⟩:=u.close H 0 6
  have z:Go.Am.elems 1 (.ws I 1 o e (Z ls)) H=Y D:=by
   unfold Go.Am.elems;dsimp only;rw[if_pos ⟨rfl,.inr rfl⟩,E];dsimp only;rw[if_pos ⟨rfl,by rw[u.len];omega⟩,<-u.len,Ze7]
  exact⟨.vs 1 .no j,by rw[ZhK,if_neg (Nat.not_lt_zero _),z];dsimp only;rw[F],.inr ⟨_,j,rfl,O⟩⟩
theorem RowA.app {H:Hp}{x:AV}{ls:List da}(h:RowA H x ls){a:AV}{k:da}(C:ApI H a k)(hl:Z ls<=1048576) :
 ∃ R H',Xu I 1 24 x (.vs 1 .clip [a]) H=Y (R,H')/\RowI H' R ls k:=by
 unfold Xu;have E:Go.Am.elems 1 (.vs 1 .clip [a]) H=Y [a]:=rfl;rw[E];dsimp only;have F:YB 1 24=U:=rfl;have z:YB (Z ls+1) 24=U:=by simp[YB];omega
 rcases h with ⟨rfl,rfl⟩|⟨o,e,Q,rfl,O,j⟩
 ·refine⟨.ws I 1 (Z H) 0 1,H++[.row 0 [a]],?_,Z H,0,[],a,rfl,cn,EI.nil,?_⟩
  ·unfold QH;simp only[zU,F,if_true,zT,xB,yC,yT,C.is.cell.1,zH];rw[if_neg cn]
  ·exact C.imp id λ⟨t,e,D,u⟩=>⟨t,e,D,Y8 u _⟩
 ·refine⟨.ws I 1 o (e+1) (Z ls+1),H.set o (.row (e+1) (Q++[a])),?_,o,e+1,Q,a,rfl,Zs _ O,j,?_⟩
  ·unfold QH;simp only[zU,z,and_self,if_true,O,j.len,Nat.mul_one,zG,cJ,List.take_of_length_le (Nat.le_of_eq j.len),zT,xB,yC,yT,C.is.cell.1,zH];rw[if_neg cn]
  ·refine C.imp id λ⟨t,S,D,u⟩=>⟨t,S,D,Y2 _ (λE=>?_) u⟩;subst E;rw[O]at u;cases u
theorem ZuZ (n:Nat):(Zt 1 [(0,iv n)] [xC .i64 0]).map (yO 1 .clip)=Y (.vs 1 .clip [iv n]):=rfl
theorem ZAC {i w:Nat}(hw:0<w):Z3 .rem (iv i) (iv w)=Y (iv (i % w)):=by
 unfold Z3 Wj;simp only[if_true,Wk];rw[if_neg K];congr 2
section
variable {w:Nat}(hw:0<w)(hw2:w<=32)
include hw hw2
theorem Zap (i:Nat):Yi w i<=i:=by
 by_cases h0:i=0
 ·rw[h0,Znb hw];exact zG _
 ·have h:=Nat.pos_of_ne_zero h0;by_cases hc:Yi w i=0
  ·omega
  ·have j:=Gg (w:=w) (i:=i) (q:=Yi w i-1) hw K;have:Yi w i-1<=(Yi w i-1)*w:=zS _ hw;omega
theorem Zv7 {n:Nat}(hn:n<=5000)(H0:Hp):∀ (k i:Nat) (O:AV) (H:Hp),n-i=k->i<=n->(i % w=0/\RowA H O (WG w i)\/∃ A g,WG w i=A++[g]/\RowI H O A g) ->
 ∃ y H',FJ (iv w) O (iv n) (iv i) H0 H=Y (y,H')/\RowA H' y (WG w n):=by
 intro k
 induction k with
 |zero =>
  intro i O H hk hi h;have:i=n:=K
  subst this;have D:decide ((i:Int)<(i:Int))=I:=cn
  rw[Hf];simp only[go_sem,D,ZfJ];refine⟨_,_,rfl,?_⟩;rcases h with ⟨_,h⟩|⟨A,g,j,h⟩
  ·exact h
  ·rw[j];exact h.all
 |succ k ih =>
  intro i O H hk hi h;have D:decide ((i:Int)<(n:Int))=U:=by rw[decide_eq_true_eq];omega
  have ag:xG.wrap ((i:Int)+1)=((i+1:Nat):Int):=by rw[Zo K K];omega
  -- the last group grows
  have grow:∀ (A:List da) (g:da) (x:AV) (H:Hp),RowI H x A g->Z A<=5000->Z g<=5000->WG w (i+1)=A++[g++[i]] ->
   ∃ y H',FI (iv w) x (iv i) (iv n) (iv i) H0 H=Y (y,H')/\RowA H' y (WG w n):=by
   intro A g x H hR hA hg j;obtain⟨o,e,Q,a,rfl,k2,k3,k4⟩:=hR;have aa:Zk (.slice 40) (.ws I 1 o e (Z A+1))=Y (J X ((Z A+1:Nat):Int)):=rfl;have ah:xG.wrap (((Z A+1:Nat):Int)-1)=(Z A:Int):=by rw[Zo K K];omega
   have ac:Zj 1 (.ws I 1 o e (Z A+1)) (J X (Z A:Int))=Y (.wp o e (Z A*1)):=Zgb K;have ad:Z2 I 1 (.wp o e (Z A*1)) H=Y a:=ZkR k2 (by rw[<-k3.len,zD (zG _)];simp);obtain⟨a',H1,p1,p2,p3⟩:=k4.app i K;have F:=p3 o e _ k2;have u:=ZoJ (a:=a') F p2.is.cell (i:=Z A) (by simp[k3.len]);have T:(Q++[a]).set (Z A) a'=Q++[a']:=by rw[<-k3.len];simp
   rw[T]at u
   have ab:ApI (H1.set o (.row e (Q++[a']))) a' (g++[i]):=by
    refine p2.imp id λ⟨t,e',q1,q2⟩=>⟨t,e',q1,Y2 _ (λhe=>?_) q2⟩;subst he;rw[F]at q2;cases q2
   obtain⟨y,H',m1,m2⟩:=ih (i+1) (.ws I 1 o e (Z A+1)) (H1.set o (.row e (Q++[a']))) K K (.inr ⟨A,g++[i],j,o,e,Q,a',rfl,Zs _ F,k3,ab⟩);refine⟨y,H',?_,m2⟩;rw[ZfM];simp only[aa,go_sem,ah,ac,ad,ZuZ,p1,u,ZfL,ag];exact m1
  rw[Hf];simp only[go_sem,D,ZfK,ZAC hw];by_cases h0:i % w=0
  ·have hb:(((i % w:Nat):Int)==0)=U:=by rw[h0];rfl
   have af:RowA H O (WG w i):=by
    rcases h with ⟨_,h⟩|⟨A,g,j,h⟩
    ·exact h
    ·rw[j];exact h.all
   have hcl:=Zap hw hw2 i;have E:(WG w i).length<=5000:=by rw[Hm];omega
   obtain⟨x',H1,q1,q2⟩:=af.app (a:=.nils) (k:=[]) (.inl ⟨rfl,rfl⟩) K;have R:(Zt 1 [(0,xF)] [xF]).map (yO 1 .clip)=Y (.vs 1 .clip [.nils]):=rfl;obtain⟨y,H',m1,m2⟩:=grow (WG w i) [] x' H1 q2 E cn (ZxH hw h0);refine⟨y,H',?_,m2⟩;simp only[hb,go_sem,R,q1];exact m1
  ·have hb:(((i % w:Nat):Int)==0)=I:=by simp;omega
   obtain⟨A,g,j,ae,hg⟩:=ZxI hw h0;have E:(WG w i).length<=i:=by rw[Hm];exact Zap hw hw2 i
   rcases h with ⟨h1,_⟩|⟨A',g',S,h⟩
   ·exact absurd h1 h0
   ·rw[j]at S;have C:=List.append_inj' S rfl;obtain⟨rfl,z⟩:=C;injection z with z _;subst z;rw[j,zN]at E;obtain⟨y,H',m1,m2⟩:=grow A g O H h K K ae;refine⟨y,H',?_,m2⟩;simp only[hb,go_sem];exact m1
end
def UH (h:Int):Nat:=(min (max h 2) 32).toNat
theorem ZoI (h:Int):0<UH h/\UH h<=32/\((UH h:Nat):Int)=min (max h 2) 32:=by unfold UH;omega
theorem Zv6 (n h:Int)(hn:n<=5000)(H:Hp):∃ y,Ze SF [J X n,J X h] H=Y (y,H)/\IV y (WG (UH h) n.toNat):=by
 obtain⟨z,O,Q⟩:=ZoI h;have u:WG (UH h) 0=[]:=by unfold WG;rw[Znb z];rfl
 obtain⟨y,H',E,F⟩:=Zv7 z O (n:=n.toNat) K [] n.toNat 0 .nils [] K K (.inl ⟨cn,.inl ⟨rfl,u⟩⟩);obtain⟨R,C,D⟩:=F.close;refine⟨R,?_,D⟩;refine JD (args':=[J X n,J X h]) (H1:=H') (v:=y) rfl ?_ C;rw[Zgs];unfold nV;have j:max n 0=((n.toNat:Nat):Int):=K
 simp only[go_sem,<-Q,j];exact E
section
variable {w:Nat}(hw:0<w)(hw2:w<=32)
include hw hw2
theorem Zsq (s k:Nat):yB s k++[s+k]=yB s (k+1):=by rw[List.range'_concat];simp
theorem Zon {n:Int}(hn:n<=5000){q:Nat}(hq:((q*w:Nat):Int)<n)(H0:Hp)(E:AV)(Q:Nat)(e:Nat)(F:c6):∀ (m k:Nat) (u:AV) (H:Hp),w-k=m->k<=w->((q*w+k:Nat):Int)<=n->ApI H u (yB (q*w) k)->(E=.nils\/H[Q]?=Y (.row e F)) ->
 ∃ y H',NY (J X n) (iv w) E (iv (q*w+k)) u (iv k) H0 H=Om (J X n) (iv w) E (iv (q*w+(W8 w n.toNat q).length)) y H0 H'/\ApI H' y (W8 w n.toNat q)/\(E=.nils\/H'[Q]?=Y (.row e F)):=by
 intro m
 induction m with
 |zero =>
  intro k u H hm hk hb D C;have:k=w:=K
  subst this;have j:decide ((k:Int)<(k:Int))=I:=cn
  have z:W8 k n.toNat q=yB (q*k) k:=by unfold W8;rw[Nat.min_eq_left K]
  refine⟨u,H,?_,by rw[z];exact D,C⟩;rw[bU,z,yN];simp only[go_sem,j]
 |succ m ih =>
  intro k u H hm hk hb D C;have j:decide ((k:Int)<(w:Int))=U:=by rw[decide_eq_true_eq];omega
  rw[bU];by_cases hi:((q*w+k:Nat):Int)<n
  ·have S:xG.wrap ((k:Int)+1)=((k+1:Nat):Int):=by rw[Zo K K];omega
   have R:xG.wrap (((q*w+k:Nat):Int)+1)=((q*w+(k+1):Nat):Int):=by rw[Zo K K];omega
   obtain⟨a',H1,p1,T,p3⟩:=D.app (q*w+k) (by simp;omega);rw[Zsq hw hw2]at T;obtain⟨y,H',m1,m2,m3⟩:=ih (k+1) a' H1 K K K T (C.imp id λh=>p3 Q e F h);refine⟨y,H',?_,m2,m3⟩;simp only[go_sem,j,decide_eq_true hi,ZjS,ZuZ,p1,R,ZjT,S];exact m1
  ·have O:k=n.toNat-q*w:=K
   have z:W8 w n.toNat q=yB (q*w) k:=by unfold W8;rw[Nat.min_eq_right K,O]
   refine⟨u,H,?_,by rw[z];exact D,C⟩;rw[z,yN];simp only[go_sem,j,decide_eq_false hi]
theorem ZsK {n:Int}(hn:n<=5000)(H0:Hp):∀ (m q:Nat) (S:AV) (H:Hp),Yi w n.toNat-q=m->q<=Yi w n.toNat->RowA H S ((zM q).map (W8 w n.toNat)) ->
 ∃ y H',NX (J X n) (iv w) S (J X (min ((q*w:Nat):Int) (max n 0))) H0 H=Y (y,H')/\RowA H' y (WG w n.toNat):=by
 intro m
 induction m with
 |zero =>
  intro q S H hm hq hr;have:q=Yi w n.toNat:=K
  subst this;have hc:=fC (w:=w) (i:=n.toNat) hw;have C:decide (min ((Yi w n.toNat*w:Nat):Int) (max n 0)<n)=I:=by simp;omega
  rw[bT];simp only[go_sem,C,ZjQ];exact⟨_,_,rfl,hr⟩
 |succ m ih =>
  intro q S H hm hq hr;have hb:=Gg (w:=w) (i:=n.toNat) (q:=q) hw K;have F:min ((q*w:Nat):Int) (max n 0)=((q*w:Nat):Int):=K
  have C:decide (((q*w:Nat):Int)<n)=U:=by rw[decide_eq_true_eq];omega
  have hlen:((zM q).map (W8 w n.toNat)).length=q:=cn
  have ac:q<=5000:=by
   have:q<=q*w:=zS _ hw;omega
  rw[F,bT];simp only[go_sem,C,ZjR]
  have E:((q*w+(W8 w n.toNat q).length:Nat):Int)=min (((q+1)*w:Nat):Int) (max n 0):=by
   rw[Zkv,yU,yV];omega
  have u:∀ y:AV,IS y (W8 w n.toNat q)->(Zt 1 [(0,y)] [xF]).map (yO 1 .clip)=Y (.vs 1 .clip [y]):=λy hy=>by
   simp only[Zt,hy.cell.1,hy.cell.2];rfl
  rcases hr with ⟨rfl,O⟩|⟨o,e,es,rfl,ho,aa⟩
  ·obtain⟨y,H1,D,Q,_⟩:=Zon hw hw2 hn (q:=q) K H0 .nils 0 0 [] w 0 .nils H K K K (.inl ⟨rfl,rfl⟩) (.inl rfl);obtain⟨x',T,q1,q2⟩:=(show RowA H1 .nils ((zM q).map (W8 w n.toNat)) from .inl ⟨rfl,O⟩).app Q K;have j:=q2.all;rw[show (zM q).map (W8 w n.toNat)++[W8 w n.toNat q]=(zM (q+1)).map (W8 w n.toNat) by rw[yX,zI];rfl]at j;obtain⟨z,H3,R,r2⟩:=ih (q+1) x' T K K j;refine⟨z,H3,?_,r2⟩;rw[show q*w+0=q*w from rfl]at D;rw[show iv 0=xC .i64 0 from rfl]at D;rw[D,bS];simp only[u y Q.is,go_sem,q1];rw[<-E]at R;exact R
  ·obtain⟨y,H1,D,Q,m3⟩:=Zon hw hw2 hn (q:=q) K H0 (.ws I 1 o e ((zM q).map (W8 w n.toNat)).length) o e es w 0 .nils H K K K (.inl ⟨rfl,rfl⟩) (.inr ho)
   have ab:H1[o]?=Y (.row e es):=by
    rcases m3 with h|h
    ·cases h
    ·exact h
   obtain⟨x',T,q1,q2⟩:=(show RowA H1 (.ws I 1 o e ((zM q).map (W8 w n.toNat)).length) ((zM q).map (W8 w n.toNat)) from .inr ⟨o,e,es,rfl,ab,aa⟩).app Q K;have j:=q2.all;rw[show (zM q).map (W8 w n.toNat)++[W8 w n.toNat q]=(zM (q+1)).map (W8 w n.toNat) by rw[yX,zI];rfl]at j;obtain⟨z,H3,R,r2⟩:=ih (q+1) x' T K K j;refine⟨z,H3,?_,r2⟩;rw[show q*w+0=q*w from rfl]at D;rw[show iv 0=xC .i64 0 from rfl]at D;rw[D,bS];simp only[u y Q.is,go_sem,q1];rw[<-E]at R;exact R
end
theorem ZsJ (n h:Int)(hn:n<=5000)(H:Hp):∃ y,Ze eA [J X n,J X h] H=Y (y,H)/\IV y (WG (UH h) n.toNat):=by
 obtain⟨Q,R,T⟩:=ZoI h;obtain⟨y,H',j,O⟩:=ZsK Q R hn [] _ 0 .nils [] rfl (xD _) (.inl ⟨rfl,rfl⟩);obtain⟨S,D,E⟩:=O.close;refine⟨S,?_,E⟩;refine JD (args':=[J X n,J X h]) (H1:=H') (v:=y) rfl ?_ D;have F:min ((0*UH h:Nat):Int) (max n 0)=0:=K
 rw[F]at j;rw[ZlU];unfold Zgn;by_cases u:h<2
 ·have hw2:((UH h:Nat):Int)=2:=K
  have z:decide ((32:Int)<2)=I:=rfl;simp only[go_sem,decide_eq_true u,N4,z,N5];rw[show iv (UH h)=J X 2 from by unfold iv;rw[hw2]]at j;exact j
 ·by_cases C:32<h
  ·have hw2:((UH h:Nat):Int)=32:=K
   simp only[go_sem,decide_eq_false u,N4,decide_eq_true C,N5];rw[show iv (UH h)=J X 32 from by unfold iv;rw[hw2]]at j;exact j
  ·have hw2:((UH h:Nat):Int)=h:=K
   simp only[go_sem,decide_eq_false u,N4,decide_eq_false C,N5];rw[show iv (UH h)=J X h from by unfold iv;rw[hw2]]at j;exact j
section
variable {x y:AV}{ls:List da}(hx:IV x ls)(hy:IV y ls)(hl:Z ls<=1048576)(hin:∀ k∈ls,Z k<=1048576)
include hx hy hl hin
end
section
variable {w n:Nat}(hw:0<w)(hw2:w<=32)(hn:n<=5000){x:AV}(hx:IV x (WG w n)){a0:AV}
include hw hw2 hn hx
end
structure PSt where
 O:List Pr
 P:List Pr
 k:Nat
 st:Stt
def Yy (w:Nat)(R:List Pr)(q:Nat):List Pr:=(R.drop (q*w)).take w
def VY (L:Loc)(p:Spec)(G:List Pr)(a:PSt):PSt:=⟨a.O++[gN L p a.k G],gP L p a.k G a.P,gK a.k G,gT L p a.k G a.P a.st⟩
def Yl (L:Loc)(p:Spec)(w:Nat)(R:List Pr):Nat->PSt->PSt
 |0,a=>a
 |q+1,a=>VY L p (Yy w R q) (Yl L p w R q a)
structure PInv (w:Nat)(R:List Pr)(k0:Nat)(st0:Stt)(q:Nat)(a:PSt):Prop where
 perm:a.P.Perm (a.O++R.drop (q*w))
 kle:a.k<=k0+q
 len:Z a.O=q
 lines:ZS a.O<=ZS (R.take (q*w))
 short:ShortP a.O
 m:st0.m<=a.st.m/\a.st.m<=st0.m+q
 ry:a.st.r=st0.r/\a.st.y=st0.y
theorem Zfp (w:Nat)(R:List Pr)(q:Nat):R.drop (q*w)=Yy w R q++R.drop ((q+1)*w):=by
 unfold Yy;rw[yU,yV,<-List.drop_drop,zV]
theorem Zy5 (w:Nat)(R:List Pr)(q:Nat):R.take ((q+1)*w)=R.take (q*w)++Yy w R q:=by
 unfold Yy;rw[yU,yV,List.take_add]
theorem Zc0 {w q:Nat}{R:List Pr}(hw:2<=w)(h:q*w<Z R):Yy w R q≠[]:=by
 unfold Yy;intro e;have:=congrArg List.length e;rw[zW,yG,List.length_nil]at this;omega
theorem ZnT (L:Loc)(p:Spec)(G:List Pr):(YS L p (G.map (·.2))).length<=ZS G:=by
 rw[<-Hb];exact Zs4 L p _
theorem ZnG {L:Loc}{p:Spec}{k:Nat}{G:List Pr}(h:ShortP G)(h0:G≠[]):(∀ s∈(gN L p k G).2,Z s<=200)/\(gN L p k G).2.length<=ZS G:=by
 have j:∀ s∈(gM L p k G).2,Z s<=200:=λs hs=>by
  obtain⟨l,hl,u⟩:=List.mem_flatten.1 (Zin s hs);obtain⟨x,hx,rfl⟩:=List.mem_map.1 hl;exact h x hx s u
 match G,h0 with
 |[x],_=>exact⟨h x cn,by simp[gN,ZS]⟩
 |x::y::r,_=>exact⟨j,ZnT L p (x::y::r)⟩
theorem PInv.step {L:Loc}{p:Spec}{w:Nat}{R:List Pr}{k0:Nat}{st0:Stt}{q:Nat}{a:PSt}(h:PInv w R k0 st0 q a)(hw:2<=w)(S:q*w<Z R)(H:ShortP R)(F:∀ l:List Zi,((a.P++[(Yd (a.k+1),l)]).map (·.1)).Nodup) :
 PInv w R k0 st0 (q+1) (VY L p (Yy w R q) a):=by
 have h0:=Zc0 hw S;have Q:=Zfp w R q;have ht:=Zy5 w R q;have C:∀ x∈Yy w R q,x∈R:=λx hx=>zY (yL hx);have D:ShortP (Yy w R q):=λx hx=>H x (C x hx);obtain⟨n1,n2⟩:=ZnG (L:=L) (p:=p) (k:=a.k) D h0;obtain⟨m1,m2⟩:=h.m;have hk:=h.kle;have j:=h.perm;rw[Q]at j;generalize Yy w R q=G at *;refine⟨?_,?_,?_,?_,?_,?_,?_⟩
 ·match G,h0 with
  |[x],_=>show a.P.Perm (a.O++[x]++_);rw[zL];exact j
  |x::y::r,_ =>
   show (CK (x::y::r) (a.P++[gM L p a.k (x::y::r)])).Perm (a.O++[gM L p a.k (x::y::r)]++_);refine Zpe _ _ _ (F _) ?_;have p1:=j.append_right [gM L p a.k (x::y::r)];refine p1.trans ?_;generalize (x::y::r)=u;generalize gM L p a.k u=z;generalize R.drop ((q+1)*w)=T;rw[zL,zL,zL]
   have E:(a.O++(u++(T++[z]))).Perm (u++(a.O++(T++[z]))):=by
    have:=(yI (l₁:=a.O) (l₂:=u)).append_right (T++[z])
    rwa [zL,zL]at this
   refine E.trans (yJ _ (yJ _ ?_));exact yI
 ·match G,h0 with
  |[x],_=>show a.k<=_;omega
  |x::y::r,_=>show a.k+1<=_;omega
 ·show (a.O++[_]).length=_;rw[zN,h.len];rfl
 ·show ZS (a.O++[_])<=_;rw[ht,Vj,Vj];have:=h.lines;simp only[ZS];omega
 ·intro x hx;rcases zC.1 hx with hx|hx
  ·exact h.short x hx
  ·rw[yA.1 hx];exact n1
 ·match G,h0 with
  |[x],_=>exact⟨m1,by show a.st.m<=st0.m+((q+1:Nat):Int);omega⟩
  |x::y::r,_=>exact⟨by show st0.m<=a.st.m+1;omega,by show a.st.m+1<=st0.m+((q+1:Nat):Int);omega⟩
 ·match G,h0 with
  |[x],_=>exact h.ry
  |x::y::r,_=>exact h.ry
section
variable {o g t:Nat}{L:Loc}{lx cl e:AV}{p:Spec}{xp:AV}
theorem Zsc {x:AV}{R:List Pr}(hx:SS x (R.map (·.1))){st:Stt}{N:Nat}(hgN:g<N){w q n:Nat}{ad:AV}(ae:IS ad (W8 w n q))(hn:n=Z R)(al:q*w<=n)(ak:n<=5000)(am:w<=5000)
 (x5 aa ab ac:AV) (H0:Hp):∀ (r d:List Pr) (E:AV) (H:Hp),Yy w R q=d++r->NmAt H E (d.map (·.1))->(∀ a∈ZN E,N<=a)->N<=Z H->H[g]?=Y (.cells (W2 o L lx cl e p xp x st)) ->
 ∃ j H',Vi (.ptr g 0) x5 E aa ab ac ad (J X ((W8 w n q).length:Int)) (J X (Z d:Int)) H0 H=Qy (.ptr g 0) x5 j aa ab ac H0 H'/\NmAt H' j ((Yy w R q).map (·.1)) /\
  (∀ a,a<N->H'[a]?=H[a]?)/\N<=Z H':=by
 have O:(W8 w n q).length=(Yy w R q).length:=by
  rw[Zkv];unfold Yy;rw[zW,yG,hn]
 have ai:(Yy w R q).length<=w:=by unfold Yy;rw[zW];omega
 intro r
 induction r with
 |nil =>
  intro d E H z hN h8 hl hg;rw[zH]at z;have D:decide ((Z d:Int)<((W8 w n q).length:Int))=I:=by rw[O,z];simp
  refine⟨E,H,?_,by rw[z];exact hN,λ_ _=>rfl,hl⟩;rw[KK];simp only[go_sem,D]
 |cons y r ih =>
  intro d E H z hN h8 hl hg;have hlen:(Yy w R q).length=Z d+(Z r+1):=by rw[z];simp
  have D:decide ((Z d:Int)<((W8 w n q).length:Int))=U:=by rw[O,decide_eq_true_eq];omega
  have Q:=ae.idx (Zku (w:=w) (i:=n) (q:=q) (k:=Z d) K)
  have af:(R.map (·.1))[q*w+Z d]?=Y y.1:=by
   have h1:(Yy w R q)[Z d]?=Y y:=by rw[z,zD (zG _)];simp
   unfold Yy at h1;rw[List.getElem?_take_of_lt K,List.getElem?_drop]at h1;rw[yP,h1];rfl
  have S:=SS.idx hx af;have ah:=ZU hg 12 (v:=x) rfl;have ag:xG.wrap ((Z d:Int)+1)=((d++[y]).length:Int):=by rw[Zo K K];simp
  have T:(Zt 1 [(0,yS y.1)] [(.str [])]).map (yO 1 .clip)=Y (.vs 1 .clip [.str y.1]):=rfl;obtain⟨x9,H1,n1,n2,n3,n4,n5,n6,n7⟩:=hN.app y.1 (by simp;omega);have aj:=n3.len;have u:∀ a,a<N->H1[a]?=H[a]?:=λa F=>n3.at' a K (λh=>by have:=h8 a h;omega);obtain⟨j,H',m1,m2,m3,m4⟩:=ih (d++[y]) x9 H1 (by rw[z];simp) (by rw[zI];exact n2) (λa F=>by rcases n4 a F with h|h;exact h8 a h;omega) K ((u g hgN).trans hg);refine⟨j,H',?_,m2,λa F=>(m3 a F).trans (u a F),m4⟩;rw[KK];have C:Zj 1 x (iv (q*w+Z d))=Y (.vp [.str y.1]):=S;simp only[go_sem,D,EW,Q,Zu,zJ,ah,C,T,n1,EX,ag];exact m1
variable {B:List Fil}(hB:BOk B)(hl:LocAV (.agg (L.cells lx cl e)) L)(hok:LocOk L)(hsm:LocSm L)(hs:SpecAV (.agg (p.cells xp)) p)(hks:∀ k∈p.keys,KeOk k)(hkl:Z p.keys<=1048576)
include hB hl hok hsm hs hks hkl
theorem Zv4 {w:Nat}(hw:2<=w)(hw2:w<=32){R:List Pr}(bu:Z R<=41)(ac:ShortP R)(bw:ZS R<=40){k0:Nat}{st0:Stt}(cc:k0+Z R<=125)(ce:0<=st0.m/\st0.m<=900)
 {ah:AV} (bb:IV ah (WG w (Z R))) {P0:List Pr} (H0:Hp):∀ (m q:Nat) (j:AV) (tm:Tmp) (s:Sto) (A S:da) (H:Hp),Yi w (Z R)-q=m->q<=Yi w (Z R)->PInv w R k0 st0 q (Yl L p w R q ⟨[],P0,k0,st0⟩) ->
 XS B tm s (Yl L p w R q ⟨[],P0,k0,st0⟩).P (Yl L p w R q ⟨[],P0,k0,st0⟩).k->SysAt H o t tm s A->SrAt H g o A L lx cl e p xp R (Yl L p w R q ⟨[],P0,k0,st0⟩).st S ->
 NmAt H j ((Yl L p w R q ⟨[],P0,k0,st0⟩).O.map (·.1))->(∀ a∈ZN j,a∉A/\a∉S)->(ZN j).Nodup->j.cells=[j]->j.known=U ->
 ∃ H' A' S' ab s',Vh (.ptr g 0) j ah (J X (Yi w (Z R):Int)) (J X (q:Int)) H0 H=Y (J X 0,H')/\SysAt H' o t ab s' A' /\
  XS B ab s' (Yl L p w R (Yi w (Z R)) ⟨[],P0,k0,st0⟩).P (Yl L p w R (Yi w (Z R)) ⟨[],P0,k0,st0⟩).k/\PInv w R k0 st0 (Yi w (Z R)) (Yl L p w R (Yi w (Z R)) ⟨[],P0,k0,st0⟩) /\
  SrAt H' g o A' L lx cl e p xp (Yl L p w R (Yi w (Z R)) ⟨[],P0,k0,st0⟩).O (Yl L p w R (Yi w (Z R)) ⟨[],P0,k0,st0⟩).st S' /\
  Stp (ZN j++(S++A)) H H'/\(∀ a∈A',a∈A\/Z H<=a)/\(∀ a∈S',a∈S\/a∈ZN j\/Z H<=a):=by
 have hw0:0<w:=K
 have hcl:=Zap hw0 hw2 (Z R);intro m
 induction m with
 |zero =>
  intro q j tm s A S H hm hq E hX D hS h5 C ak ai aj;have:q=Yi w (Z R):=K
  subst this;have ae:decide ((Yi w (Z R):Int)<(Yi w (Z R):Int))=I:=cn
  obtain⟨x,g1,g2,g3,g4,rfl⟩:=hS;have az:=Vb g1 12 (v:=j) ai aj (by rw[Sw];omega);generalize Yl L p w R (Yi w (Z R)) ⟨[],P0,k0,st0⟩=a at *;have ba:((W2 o L lx cl e p xp x a.st).set 12 j)=W2 o L lx cl e p xp j a.st:=rfl;rw[ba]at az;have ay:Stp (g::ZN x) H (H.set g (.cells (W2 o L lx cl e p xp j a.st))):=Stp.set _ _ cn;have aq:g∉ZN j:=λh=>(C g h).2 cn;refine⟨_,A,g::ZN j,tm,s,?_,D.stp ay λb F hg=>g3 b hg F,hX,E,⟨j,Zs _ g1,h5.frame λb F=>yK λ(e:g=b)=>aq (by rw[e];exact F),λb F hA=>?_,zK.2 ⟨aq,ak⟩,rfl⟩,ay.mono λb F=>zB _ (zA _ F),λb h=>.inl h,λb F=>?_⟩
  ·rw[KJ];simp only[go_sem,ae,ER,zJ,az]
  ·rcases zO.1 F with h|h
   ·exact g3 g cn (h ▸ hA)
   ·exact (C b h).1 hA
  ·rcases zO.1 F with h|h
   ·exact .inl (by simp[h])
   ·exact .inr (.inl h)
 |succ m ih =>
  intro q j tm s A S H hm hq E hX D hS h5 C ak ai aj;have au:q<Yi w (Z R):=K
  have ae:decide ((q:Int)<(Yi w (Z R):Int))=U:=by rw[decide_eq_true_eq];omega
  have F:=Gg hw0 au;have bn:xG.wrap ((q:Int)+1)=((q+1:Nat):Int):=by rw[Zo K K];omega
  obtain⟨cg,y1,y2⟩:=bb.get (ZfP au);have bk:=y2.len 3;have bs:(Yy w R q).length<=w:=by unfold Yy;rw[zW];omega
  have an:=E.step (L:=L) (p:=p) hw F ac hX.nd1;have aw:Yl L p w R (q+1) ⟨[],P0,k0,st0⟩=VY L p (Yy w R q) (Yl L p w R q ⟨[],P0,k0,st0⟩):=rfl;rw[<-aw]at an;have bz:=hS.off;have bx:=hS.lt;have br:=D.lt;have aa:=h5.lt;have bh:=hS;obtain⟨x,g1,g2,g3,g4,g5⟩:=hS;have bm:=Zn g1;obtain⟨x8,H1,r1,r2,r3,r4⟩:=Zsc (o:=o) (g:=g) (L:=L) (lx:=lx) (cl:=cl) (e:=e) (p:=p) (xp:=xp) g2.ss (N:=Z H) bm y2 rfl (Nat.le_of_lt F) K K j ah (J X (Yi w (Z R):Int)) (J X (q:Int)) H0 (Yy w R q) [] .nils H rfl (.inl ⟨rfl,rfl⟩) (λa u=>by cases u) (zG _) g1;have t1:Stp [] H H1:=⟨r4,λa u _=>r3 a u⟩;have af:=D.stp t1 λa _ h=>by cases h
  have bi:=bh.stp (A':=A) t1 (λa _ h=>by cases h) λa h=>.inl h;have bc:NmAt H1 j ((Yl L p w R q ⟨[],P0,k0,st0⟩).O.map (·.1)):=h5.frame λa u=>r3 a (aa a u);have ad:=Zfp w R q;have be:∀ z∈Yy w R q,z∈(Yl L p w R q ⟨[],P0,k0,st0⟩).P:=λz hz=>E.perm.mem_iff.2 (by rw[ad];simp[hz])
  have bf:((Yy w R q).map (·.1)).Nodup:=by
   have:=(E.perm.map (·.1)).nodup_iff.1 hX.nd;rw[ad,zI,zI]at this;exact (yD.1 (yD.1 this).2.1).1
  have bg:=E.len
  have bt:(Yl L p w R q ⟨[],P0,k0,st0⟩).P.length<=41:=by
   have:=E.perm.length_eq;rw[zN,yG,bg]at this;have:q<=q*w:=zS _ hw0;omega
  have cd:=E.kle;have ao:ShortP (Yy w R q):=λz hz=>ac z (zY (yL hz))
  have Q:ZS (Yy w R q)<=40:=by
   have:ZS R=ZS (R.take (q*w))+ZS (R.drop (q*w)):=by rw[<-Vj,zV]
   rw[ad,Vj]at this;omega
  have T:ZS (Yl L p w R q ⟨[],P0,k0,st0⟩).P<=40:=by
   rw[ZpA E.perm,Vj];have:ZS R=ZS (R.take (q*w))+ZS (R.drop (q*w)):=by rw[<-Vj,zV]
   have:=E.lines;omega
  have ax:ShortP (Yl L p w R q ⟨[],P0,k0,st0⟩).P:=λz hz=>by
   rcases zC.1 (E.perm.mem_iff.1 hz) with h|h
   ·exact E.short z h
   ·exact ac z (zY h)
  have ca:=ax.cost;have cb:=ao.cost;have cf:=E.m
  have bl:ZG (Yl L p w R q ⟨[],P0,k0,st0⟩).P+ZG (Yy w R q)<=100000:=by
   have a1:ZS (Yl L p w R q ⟨[],P0,k0,st0⟩).P*206<=40*206:=zP _ T;have a2:ZS (Yy w R q)*206<=40*206:=zP _ Q;omega
  obtain⟨H2,A2,bo,s2,u1,u2,u3,u4,u5,u6⟩:=Zuq hB hl hok hsm hs hks hkl r2.ss (Zc0 hw F) K bf be K K bl ⟨K,K⟩ hX af bi
  have al:∀ a∈ZN j,a∉S++A:=λa u h=>by
   rcases zC.1 h with h|h
   ·exact (C a u).2 h
   ·exact (C a u).1 h
  have bd:NmAt H2 j ((Yl L p w R q ⟨[],P0,k0,st0⟩).O.map (·.1)):=bc.frame λa u=>u5.at' a (by have:=aa a u;omega) (al a u);obtain⟨x6,H3,n1,n2,n3,n4,n5,n6,n7⟩:=bd.app (gN L p (Yl L p w R q ⟨[],P0,k0,st0⟩).k (Yy w R q)).1 (by simp;omega);have bp:=u5.len;have bq:=n3.len
  have ag:=u2.stp n3 λa u h=>by
   rcases u6 a u with k|k
   ·exact (C a h).1 k
   ·have:=aa a h;omega
  have bj:=u4.stp (A':=A2) n3 (λa u h=>(C a h).2 u) λa h=>.inl h;have am:=u2.lt;have ap:=u4.lt;rw[show VY L p (Yy w R q) (Yl L p w R q ⟨[],P0,k0,st0⟩)=Yl L p w R (q+1) ⟨[],P0,k0,st0⟩ from rfl]at *
  have eO:(Yl L p w R (q+1) ⟨[],P0,k0,st0⟩).O.map (·.1)=(Yl L p w R q ⟨[],P0,k0,st0⟩).O.map (·.1)++[(gN L p (Yl L p w R q ⟨[],P0,k0,st0⟩).k (Yy w R q)).1]:=by
   show ((Yl L p w R q ⟨[],P0,k0,st0⟩).O++[gN L p (Yl L p w R q ⟨[],P0,k0,st0⟩).k (Yy w R q)]).map (λx:Pr=>x.1)=_;rw[zI];rfl
  obtain⟨H',A',S',ab,s',m1,m2,m3,m4,m5,m6,m7,m8⟩:=ih (q+1) x6 bo s2 A2 S H3 K K an u3 ag bj (by rw[eO];exact n2) (λa u=>by
   rcases n4 a u with h|h
   ·refine⟨λhA=>?_,(C a h).2⟩;rcases u6 a hA with k|k
    ·exact (C a h).1 k
    ·have:=aa a h;omega
   ·exact⟨λhA=>by have:=am a hA;omega,λhA=>by have:=ap a hA;omega⟩) n7 n5 n6
  refine⟨H',A',S',ab,s',?_,m2,m3,m4,m5,?_,λa u=>?_,λa u=>?_⟩
  ·have e0:((0:Int) != 0)=I:=rfl;have ar:(Zt 1 [(0,yS (gN L p (Yl L p w R q ⟨[],P0,k0,st0⟩).k (Yy w R q)).1)] [(.str [])]).map (yO 1 .clip)=Y (.vs 1 .clip [.str (gN L p (Yl L p w R q ⟨[],P0,k0,st0⟩).k (Yy w R q)).1]):=rfl;rw[KJ];simp only[go_sem,ae,ES,y1,Zu,bk];refine r1.trans ?_;rw[EU];simp only[u1,go_sem,zE,zF,e0,EV,ar,n1,ET,bn];exact m1
  ·have b1:Stp (ZN j++(S++A)) H H2:=(t1.mono λa h=>by cases h).trans u5 (λ_ h=>h) λa h=>.inl (zB _ h);have b2:Stp (ZN j++(S++A)) H H3:=b1.trans n3 (λ_ h=>h) λa h=>.inl (zA _ h);refine b2.trans m6 (λ_ h=>h) λa h=>?_;rcases zC.1 h with h|h
   ·rcases n4 a h with h|h
    ·exact .inl (zA _ h)
    ·exact .inr K
   ·rcases zC.1 h with h|h
    ·exact .inl (zB _ (zA _ h))
    ·rcases u6 a h with h|h
     ·exact .inl (zB _ (zB _ h))
     ·exact .inr K
  ·rcases m7 a u with h|h
   ·rcases u6 a h with h|h
    ·exact .inl h
    ·exact .inr K
   ·exact .inr K
  ·rcases m8 a u with h|h|h
   ·exact .inl h
   ·rcases n4 a h with h|h
    ·exact .inr (.inl h)
    ·exact .inr (.inr K)
   ·exact .inr (.inr K)
end
theorem Zkz {x1:AV}{C:List Zx}(hx:SS x1 C)(hl:Z C<=65536)(g o N:Nat){cs0:c6}(Q:cs0[0]?=Y (.ptr o 0))(H0:Hp):∀ (r d:List Zx) (x5:AV) (rs:da) (H:Hp),C=d++r->Z rs=Z d->RowN N H 1 x5 (rs.map λr=>xE r 0)->N<=Z H->H[g]?=Y (.cells cs0) ->
 ∃ (H':Hp) (D:AV) (j:da),WT (.ptr g 0) x5 x1 (J X (Z C:Int)) (J X (Z d:Int)) H0 H=UN (.ptr g 0) D H0 H'/\RowN N H' 1 D ((rs++j).map λr=>xE r 0)/\Z j=Z r/\(∀ a,a<N->H'[a]?=H[a]?)/\(∀ (a:Nat) (cs:c6),H[a]?=Y (.cells cs)->H'[a]?=Y (.cells cs)) /\
  (∀ (i:Nat) (n:Zx),r[i]?=Y n->∃ rr,j[i]?=Y rr/\H'[rr]?=Y (.cells (U4 o n 0 I I [])))/\j.Nodup/\(∀ rr∈j,Z H<=rr)/\Z H<=Z H':=by
 intro r
 induction r with
 |nil =>
  intro d x5 rs H O T u hN hg;rw[zH]at O;subst O;have E:decide ((Z C:Int)<(Z C:Int))=I:=cn
  refine⟨H,x5,[],?_,by rw[zH];exact u,rfl,λ_ _=>rfl,λ_ _ h=>h,λi n h=>by simp at h,cn,cn,zG _⟩;rw[K4];simp only[go_sem,E]
 |cons n r ih =>
  intro d x5 rs H O T u hN hg;have aa:Z C=Z d+(Z r+1):=by rw[O];simp
  have E:decide ((Z d:Int)<(Z C:Int))=U:=by rw[decide_eq_true_eq];omega
  have ac:xG.wrap ((Z d:Int)+1)=((Z d+1:Nat):Int):=by rw[Zo K K];omega
  have hin:C[Z d]?=Y n:=by rw[O,zD (zG _)];simp
  have R:=SS.idx hx hin;have ab:=ZkV o n H;have S:(Zt 1 [(0,xE (Z H) 0)] [.nilp]).map (yO 1 .clip)=Y (.vs 1 .clip [.ptr (Z H) 0]):=rfl;obtain⟨x',H2,w1,w2,w3,w4,w5⟩:=(u.push [.cells (U4 o n 0 I I [])]).app (by simp;omega) 8 (.vs 1 .clip [.ptr (Z H) 0]) [.ptr (Z H) 0] rfl (by simp;omega);have F:∀ (a:Nat) (cs:c6),(H++[yF (U4 o n 0 I I [])])[a]?=Y (.cells cs)->H2[a]?=Y (.cells cs):=w5;have z:H2[Z H]?=Y (.cells (U4 o n 0 I I [])):=F _ _ cn;have ad:Z H<Z H2:=Zn z;obtain⟨H3,D,j,m1,m2,m3,m4,m5,m6,m7,m8,m9⟩:=ih (d++[n]) x' (rs++[Z H]) H2 (by rw[O];simp) (by simp[T]) (by rw[zI];exact w2) w3 (F _ _ (Y8 hg _));rw[zN,zU]at m1;refine⟨H3,D,Z H::j,?_,by rw[show rs++Z H::j=rs++[Z H]++j by simp];exact m2,by simp[m3],λa ha=>(m4 a ha).trans ((w4 a ha).trans (zQ K)),λa cs h=>m5 a cs (F a cs (Y8 h _)),λi k hi=>?_,?_,λrr hr=>?_,K⟩
  ·rw[K4];simp only[go_sem,E,Lq,R,Zu,zJ,ZU hg 0 Q,ab,S,w1,Lr,ac];exact m1
  ·cases i with
   |zero =>
    simp at hi;subst hi;exact⟨Z H,rfl,m5 _ _ z⟩
   |succ i=>exact m6 i k (by simpa using hi)
  ·rw[zK];exact⟨λh=>by have:=m8 _ h;omega,m7⟩
  ·rcases zO.1 hr with e'|h
   ·omega
   ·have:=m8 _ h;omega
section
variable {o t g N:Nat}{tm:Tmp}{s:Sto}{A:da}{L:Loc}{lx c e:AV}{p:Spec}{xp:AV}{rx:AV}{rs:da}
 (hm:TmpOk tm) (hk:StoOk s) (hc:s.crashed=I) (h0:s.count=0)
 (hl:LocAV (.agg (L.cells lx c e)) L) (hok:LocOk L) (hs:SpecAV (.agg (p.cells xp)) p) (hks:∀ k∈p.keys,KeOk k)
 (hrx:Sl 1 rx (rs.map λr=>xE r 0)) (hnd:rs.Nodup) (hlen:Z rs<=1048576)
 (hgA:g∉A) (hgd:g∉rs) (hgN:g<N) (hrN:∀ r∈rs,r<N) (hAN:∀ a∈A,a<N)
include hm hk hc h0 hl hok hs hks hrx hnd hlen hgA hgd hgN hrN hAN
theorem Zs0 (H0:Hp):∀ (k:Nat) (T:List Rd) (last:Zx) (Q:Bool) (x6:AV) (out:List Zi) (H:Hp),Ym T<=k->Z out+Ym T<=65536->Z last<=1048576->T.map Rd.r=rs->SysAt H o t tm s A->(∀ x∈T,RdAt H o tm s A x) ->
 H[g]?=Y (.cells (Ka L lx c e p xp (ZP p==0) rx last Q))->RowN N H 1 x6 (out.map yS)->N<=Z H ->
 ∃ H' S j aa,WS (.ptr g 0) x6 H0 H=Y (.tuple [S,J X 0],H')/\AllD L p last Q T j aa/\RowN N H' 1 S ((out++j).map yS) /\
  SysAt H' o t tm s A/\(∀ a,a<N->a∉g::rs++A->H'[a]?=H[a]?)/\N<=Z H':=by
 have e0:((0:Int) != 0)=I:=rfl
 have ad:∀ a,a∈g::rs++A->a<N:=λa ha=>by
  rcases zC.1 ha with h|h
  ·rcases zO.1 h with e'|h
   ·omega
   ·exact hrN a h
  ·exact hAN a h
 have D:∀ {H H':Hp} {x:AV} {l:c6},RowN N H 1 x l->Stp (g::rs++A) H H'->RowN N H' 1 x l:=λh hS=>h.imp id λ⟨u,e',a1,a2,a3⟩=>⟨u,e',a1,hS.get a2 (λh=>by have:=ad u h;omega),a3⟩;intro k
 induction k with
 |zero =>
  intro T last Q x6 out H ht ai C hr F R hg E hN;obtain⟨H1,z,ab,p1,p2,p3,O,p5,p6,p7⟩:=AA hm hk hc h0 hl hok hs hks hrx hnd hlen hgA hgd C hr F R hg
  cases z with
  |some a=>have:=p2.less.2 a rfl;omega
  |none =>
   refine⟨H1,x6,[],_,?_,.done p2,by rw[zH];exact D E O,p3,λa ha hn=>O.at' a K hn,yH hN O.len⟩;rw[VF];simp only[go_sem,p1,zE,zF,e0,VE,yM,yW,yZ]
 |succ k ih =>
  intro T last Q x6 out H ht ai C hr F R hg E hN;obtain⟨H1,z,ab,p1,p2,p3,O,p5,p6,p7⟩:=AA hm hk hc h0 hl hok hs hks hrx hnd hlen hgA hgd C hr F R hg
  cases z with
  |none =>
   refine⟨H1,x6,[],_,?_,.done p2,by rw[zH];exact D E O,p3,λa ha hn=>O.at' a K hn,yH hN O.len⟩;rw[VF];simp only[go_sem,p1,zE,zF,e0,VE,yM,yW,yZ]
  |some a =>
   have ah:Z a<=1048576:=by
    obtain⟨x,hx,ha⟩:=p2.mem a rfl;have:=yR.1 (R x hx).fit a ha;simp at this;omega
   have aj:=p2.less.2 a rfl;have ag:N<=Z H1:=yH hN O.len;obtain⟨x',H2,w1,w2,w3,w4,_⟩:=(D E O).app ag 16 (.vs 1 .clip [.str a]) [.str a] rfl (by simp;omega);have ae:(Zt 1 [(0,yS a)] [(.str [])]).map (yO 1 .clip)=Y (.vs 1 .clip [.str a]):=rfl;have ac:SysAt H2 o t tm s A:=SysAt.frame p3 λb hb=>w4 b (hAN b hb);have af:∀ y∈ab,RdAt H2 o tm s A y:=λy hy=>(p6 y hy).frame (w4 y.r (hrN _ (by rw[<-p5];exact zZ hy)));obtain⟨H3,S,j,aa,m1,m2,m3,m4,m6,m7⟩:=ih ab a U x' (out++[a]) H2 K (by simp;omega) ah p5 ac af ((w4 g hgN).trans p7) (by rw[zI];exact w2) w3;refine⟨H3,S,a::j,aa,?_,.more p2 m2,by rw[show out++a::j=out++[a]++j by simp];exact m3,m4,λb hb hn=>(m6 b hb hn).trans ((w4 b hb).trans (O.at' b K hn)),m7⟩;rw[VF];simp only[go_sem,p1,zE,zF,e0,VE,yM,yW,Bool.not_true,Lp,ae,w1];exact m1
end
section
variable {o g t:Nat}{L:Loc}{lx cl e:AV}{p:Spec}{xp:AV}{B:List Fil}(hB:BOk B)(hl:LocAV (.agg (L.cells lx cl e)) L)(hok:LocOk L)(hsm:LocSm L)(hs:SpecAV (.agg (p.cells xp)) p)(hks:∀ k∈p.keys,KeOk k)(hkl:Z p.keys<=1048576)
include hB hl hok hsm hs hks hkl
theorem ZuD {R P:List Pr}(am:Z R<=64)(an:ZS R<=40){k:Nat}{st:Stt}{tm:Tmp}{s:Sto}{A S:da}{H:Hp}(ae:∀ x∈R,x∈P)(D:XS B tm s P k)(h:SysAt H o t tm s A)(hS:SrAt H g o A L lx cl e p xp R st S) :
 ∃ H' y,Qt [.ptr g 0] H=Y (.tuple [y,J X 0],H')/\SS y (YS L p (R.map (·.2)))/\SysAt H' o t tm s A/\Stp A H H':=by
 have ap:=hS.off;have ao:=hS.lt;have j:=h.lt;obtain⟨x,g1,g2,g3,g4,rfl⟩:=hS;have ah:=ZU g1 12 (v:=x) rfl;have ab:=SS.len g2.ss 9;rw[zR]at ab;have aq:=Zn g1;have aa:(R.map (·.1)).length=Z R:=zR ..;obtain⟨H2,rx,rs,r1,r2,r3,r4,r5,r6,r7,r8,r9⟩:=Zkz g2.ss (by rw[aa];omega) g o (Z H) (cs0:=W2 o L lx cl e p xp x st) rfl H (R.map (·.1)) [] .nils [] H rfl rfl (RowN.nil _ _ _) (zG _) g1;have T:=r5 _ _ g1;have au:Z rs=Z R:=by rw[r3,zR]
 rw[aa]at r1;have l1:=ZkN T;have l7:=Zg2 T;obtain⟨H3,gm,aw,c',e',ay,ax,n1,n2,n3,n4,n5,n6,n7⟩:=ZmH hl hsm hs hkl (rx:=rx) (rs:=rs) (by simpa using r2.sl) K H2;have ai:=n6.len;have ac:=Zn n2
 have E:∀ r∈rs,r<Z H2:=λr hr=>by
  obtain⟨i,hi⟩:=List.getElem?_of_mem hr;have ar:=(yE.1 hi).1;obtain⟨rr,C,k2⟩:=r6 i (R.map (·.1))[i] (List.getElem?_eq_getElem K);rw[hi]at C;injection C with C;subst C;exact Zn k2
 have O:=h.frame (H':=H3) λb hb=>(n6.at' b (by have:=j b hb;omega) cn).trans (r4 b (j b hb));obtain⟨d1,d2⟩:=Zvf rs (R.map (·.1)) (R.map (·.2)) r3 cn
 have ag:∀ d∈FU rs (R.map (·.1)) (R.map (·.2)),RdAt H3 o tm s A d:=λd hd=>by
  obtain⟨i,r,n,l,e1,Q,e3,rfl⟩:=ZfQ _ _ _ d hd;obtain⟨rr,C,k2⟩:=r6 i n Q;rw[e1]at C;injection C with C;subst C;rw[yP]at Q e3
  cases F:R[i]? with
  |none=>rw[F]at Q;cases Q
  |some z =>
   rw[F]at Q e3;cases Q;cases e3;have u:=ae z (zX F);have hc:=Zl5 u;have al:=D.cost;refine⟨.inr (.inr ⟨[],?_,rfl⟩),λhA=>?_,D.fit z u,by rw[Wc];exact yH hc K,.inl ⟨D.find u,_,D.get hB u,rfl⟩⟩
   ·exact (n6.at' r (Zn k2) cn).trans k2
   ·have:=j r hA;have:=r8 r (zX e1);omega
 have hgA:gm∉A:=λhA=>by have:=j gm hA;omega
 have af:gm∉rs:=λhr=>by have:=E gm hr;omega
 have aj:Ym (FU rs (R.map (·.1)) (R.map (·.2)))=ZS R:=by rw[<-Sq,d2,Hb]
 obtain⟨H4,y,out,ak,m1,m2,m3,m4,m6,m7⟩:=Zs0 (N:=Z H3) D.tmOk (D.stoOk hB) D.stE.2.2.2.1 D.stE.2.2.2.2 n3 hok n4 hks n5 r7 K hgA af ac (λr hr=>by have:=E r hr;omega) (λa ha=>by have:=j a ha;omega) H
  (ZS R) (FU rs (R.map (·.1)) (R.map (·.2))) [] I .nils [] H3 K (by simp;omega) cn d1 O ag n2 (RowN.nil _ _ _) (zG _)
 have ad:=m2.merge;rw[d2]at ad;subst ad;refine⟨H4,y,?_,m3.sl,m4,⟨K,λa ha hn=>?_⟩⟩
 ·rw[Ez];unfold Dr;simp only[go_sem,zJ,ah,ab];refine r1.trans ?_;rw[Lo];simp only[go_sem,zJ,l1,l7,n1];exact m1
 ·rw[m6 a K (λh=>?_),n6.at' a K cn,r4 a ha];rcases zC.1 h with h|h
  ·rcases zO.1 h with h|h
   ·omega
   ·have:=r8 a h;omega
  ·exact hn h
theorem ZxG {w:Nat}(hw:2<=w)(hw2:w<=32){R:List Pr}(F:Z R<=41)(T:ShortP R)(Q:ZS R<=40){k0:Nat}{st0:Stt}(ab:k0+Z R<=125)(ac:0<=st0.m/\st0.m<=900){P0:List Pr}(hP:P0.Perm R)
 {tm:Tmp} {s:Sto} {A S:da} {H:Hp} (hX:XS B tm s P0 k0) (C:SysAt H o t tm s A) (hS:SrAt H g o A L lx cl e p xp R st0 S) :
 ∃ H' A' D j s',QX [.ptr g 0,J X (w:Int)] H=Y (J X 0,H')/\SysAt H' o t j s' A' /\
  XS B j s' (Yl L p w R (Yi w (Z R)) ⟨[],P0,k0,st0⟩).P (Yl L p w R (Yi w (Z R)) ⟨[],P0,k0,st0⟩).k/\PInv w R k0 st0 (Yi w (Z R)) (Yl L p w R (Yi w (Z R)) ⟨[],P0,k0,st0⟩) /\
  SrAt H' g o A' L lx cl e p xp (Yl L p w R (Yi w (Z R)) ⟨[],P0,k0,st0⟩).O (Yl L p w R (Yi w (Z R)) ⟨[],P0,k0,st0⟩).st D /\
  Stp (S++A) H H'/\(∀ a∈A',a∈A\/Z H<=a)/\(∀ a∈D,a∈S\/Z H<=a):=by
 have hI:PInv w R k0 st0 0 ⟨[],P0,k0,st0⟩:=⟨by simpa using hP,zG _,rfl,by simp[ZS],(λx hx=>by cases hx),⟨Int.le_refl _,cn⟩,rfl,rfl⟩;have aa:=hS;obtain⟨x,g1,g2,g3,g4,g5⟩:=hS;have ae:=ZU g1 12 (v:=x) rfl;have u:=SS.len g2.ss 9;rw[zR]at u;have ad:UH (w:Int)=w:=by unfold UH;omega
 obtain⟨y,p1,E⟩:=Zv6 (Z R:Int) (w:Int) K H;rw[ad]at E;have hn:((Z R:Nat):Int).toNat=Z R:=K
 rw[hn]at E;have z:=E.len 40;rw[Hm]at z;obtain⟨H',A',D,j,s',m1,m2,m3,m4,m5,m6,m7,m8⟩:=Zv4 hB hl hok hsm hs hks hkl hw hw2 F T Q ab ac E (P0:=P0) H (Yi w (Z R)) 0 .nils tm s A S H K (xD _) hI hX C aa (.inl ⟨rfl,rfl⟩) (λa ha=>by cases ha) (by simp[ZN]) rfl rfl;refine⟨H',A',D,j,s',?_,m2,m3,m4,m5,m6,m7,λa ha=>?_⟩
 ·rw[SK];unfold Rb;simp only[go_sem,zJ,ae,u,p1,z];exact m1
 ·rcases m8 a ha with h|h|h
  ·exact .inl h
  ·cases h
  ·exact .inr h
end
end Go.Am
