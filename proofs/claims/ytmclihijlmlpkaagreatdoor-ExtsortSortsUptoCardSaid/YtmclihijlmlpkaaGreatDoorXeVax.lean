/- The numbers of a sort without any store -/
import Derived.Test.YtmclihijlmlpkaaGreatDoorXeCox
import Derived.Test.YtmclihijlmlpkaaGreatDoorXeQcx
import Derived.Test.YtmclihijlmlpkaaGreatDoorXeGMx
import Derived.Test.YtmclihijlmlpkaaGreatDoorXeGRx
import Derived.Test.YtmclihijlmlpkaaGreatDoorXeLax
import Derived.Test.YtmclihijlmlpkaaGreatDoorXeSmx
open Option renaming some->Y,none->V
open Bool renaming true->U,false->I
open List renaming length->T
open Go.db renaming cm->Z
open Go.Am.AV renaming int->J
open Go.IntKind renaming i64->X
open Go.IntKind renaming i64->yP
open List renaming getElem?_set_ne->zB,mem_of_getElem?->zC,getElem?_eq_getElem->zD,getElem?_append_right->zE,getElem?_eq_some_iff->zF,length_set->zG,append_nil->zI,length_map->zJ,replicate->zK,mem_singleton->zL,length_cons->zN,length_take->zQ,getElem?_set_self->zR,drop_eq_nil_iff->zS,map_append->zT,getElem?_drop->zV,length_append->zW,getD_eq_getElem?_getD->zX,drop_eq_getElem_cons->zY,mem_append->yA,nil_append->yB,getElem?_zipWith->yC,take_append_drop->yD,mapM_cons->yE,mem_of_mem_drop->yF,mem_cons->yG,mem_map->yH,drop_drop->yK,drop_zero->yL,map_cons->yM,map_drop->yN
open Nat renaming le_refl->zH,zero_add->zM,mul_le_mul_right->zP,le_trans->zU,add_zero->yI,zero_le->yJ
open Int renaming toNat_natCast->zZ
open Go.Am.AObj renaming cells->zA
open Go.Am.AV renaming int->zO
open List.Sublist renaming refl->yO
namespace Go.Am
set_option linter.unusedSectionVars false
set_option maxRecDepth 100000
structure NmK (P:List Pr)(k:Nat):Prop where
 nd:(P.map (·.1)).Nodup
 num:∀ x∈P,∃ i,1<=i/\i<=k/\x.1=Yd i
theorem NmK.nd1 {P:List Pr}{k:Nat}(h:NmK P k)(B:k<126)(l:List Zi):((P++[(Yd (k+1),l)]).map (·.1)).Nodup:=by
 rw[zT,List.nodup_append];refine⟨h.nd,cn,λa u b g e=>?_⟩;simp only[yM,List.map_nil,zL]at g;subst g;obtain⟨x,y,rfl⟩:=yH.1 u;obtain⟨i,z,A,j⟩:=h.num x y;have:=ZkD Z Z (j.symm.trans e);omega
theorem NmK.add {P:List Pr}{k:Nat}(h:NmK P k)(y:k<126)(l:List Zi):NmK (P++[(Yd (k+1),l)]) (k+1):=by
 refine⟨h.nd1 y l,λx g=>?_⟩;rcases yA.1 g with g|g
 ·obtain⟨i,j,z,u⟩:=h.num x g;exact⟨i,j,Z,u⟩
 ·rw[zL.1 g];exact⟨k+1,Z,Z,rfl⟩
theorem ZhT:∀ (G P:List Pr),(CK G P).Sublist P:=by
 intro G
 induction G with
 |nil=>intro P;exact yO _
 |cons x G g=>intro P;exact (g _).trans List.filter_sublist
theorem NmK.sub {P Q:List Pr}{k:Nat}(h:NmK P k)(hs:Q.Sublist P):NmK Q k:=⟨h.nd.sublist (hs.map _),λx g=>h.num x (hs.subset g)⟩
theorem NmK.step {L:Loc}{p:Spec}{G:List Pr}{a:PSt}(h:NmK a.P a.k)(g:a.k<126):NmK (VY L p G a).P (VY L p G a).k:=by
 match G with
 |[]=>exact (h.add g _).sub (ZhT _ _)
 |[x]=>exact h
 |x::y::r=>exact (h.add g _).sub (ZhT _ _)
theorem Zo1 {L:Loc}{p:Spec}{w:Nat}(hw:2<=w){R:List Pr}(g:ShortP R){k0:Nat}{st0:Stt}(F:k0+T R<=125){P0:List Pr}(B:P0.Perm R)(A:NmK P0 k0):∀ q,(∀ i<q,i*w<T R) ->
 PInv w R k0 st0 q (Yl L p w R q ⟨[],P0,k0,st0⟩)/\NmK (Yl L p w R q ⟨[],P0,k0,st0⟩).P (Yl L p w R q ⟨[],P0,k0,st0⟩).k/\(Yl L p w R q ⟨[],P0,k0,st0⟩).k<126:=by
 intro q
 induction q with
 |zero =>
  intro _;have z:PInv w R k0 st0 0 ⟨[],P0,k0,st0⟩:=⟨by simpa using B,zH _,rfl,by simp[ZS],(λx H=>by cases H),⟨Int.le_refl _,cn⟩,rfl,rfl⟩;exact⟨z,A,by show k0<126;omega⟩
 |succ q M =>
  intro h;obtain⟨y,j,u⟩:=M λi hi=>h i Z;have E:=h q Z;have hs:=y.step (L:=L) (p:=p) hw E g (j.nd1 u);refine⟨hs,j.step u,?_⟩;have:=hs.kle;have:q<=q*w:=Nat.le_mul_of_pos_right _ Z;show (VY L p (Yy w R q) _).k<126;omega
theorem Zzi {w:Nat}{R:List Pr}{k0:Nat}{st0:Stt}{q:Nat}{a:PSt}(h:PInv w R k0 st0 q a)(x:Pr):ZG (a.P++[x])=ZG a.O+ZJ x.2+ZG (R.drop (q*w)):=by
 rw[Zar,Zrf h.perm,Zar];simp only[ZG];omega
def Yf:List (List Zi)->Nat
 |[]=>0
 |l::r=>ZJ l+Yf r
theorem TA (A B:List (List Zi)):Yf (A++B)=Yf A+Yf B:=by
 induction A with
 |nil=>simp[Yf]
 |cons l A g=>simp only[List.cons_append,Yf,g];omega
theorem GH:∀ P:List Pr,Yf (P.map (·.2))=ZG P:=by
 intro P
 induction P with
 |nil=>rfl
 |cons x P g=>simp only[yM,Yf,ZG,g]
theorem gP_snd {w:Nat}{R:List Pr}{q:Nat}:(Yy w R q).map (·.2)=((R.map (·.2)).drop (q*w)).take w:=by
 unfold Yy;rw[List.map_take,yN]
theorem ZAq {L:Loc}{p:Spec}:∀ (r:List (List Zi)) (P:List Pr) (k:Nat),NmK P k->k+T r<=120->NmK (wP L p P k r) (k+T r):=by
 intro r
 induction r with
 |nil=>intro P k h _;exact h
 |cons c r j =>
  intro P k h g;simp only[zN]at g;have:=j (P++[W3 L p k c]) (k+1) (h.add Z _) Z;show NmK (wP L p (P++[W3 L p k c]) (k+1) r) _;rw[zN,show k+(T r+1)=k+1+T r by omega];exact this
theorem Zvt {L:Loc}{p:Spec}{g:List (List Zi)}(h:T g<=40):NmK (B7 L p g).P (B7 L p g).k:=by
 have:=ZAq (L:=L) (p:=p) g [] 0 ⟨cn,λx j=>by cases j⟩ Z;rw[zM]at this;exact this
abbrev ZqE (ls:List (List Zi)):Prop:=∀ l∈ls,YE l
section
variable {K:AV->Prop}{f:Zi->Zi->Int}(hK:Fv K λa b=>decide (0<f a b)){v:AV}(hv:K v)
include hK hv
end
section
variable {L:Loc}{p:Spec}(hv:ZP p=0)
include hv
end
theorem Ziw {y:AV}{l:List Zi}(h:SS y l):(Zt 1 [(0,y)] [.nils]).map (AV.vs 1 .clip)=Y (.vs 1 .clip [y]):=by
 rcases h with ⟨rfl,_⟩|⟨t,rfl⟩ <;> rfl
def Xb (ls:List (List Zi))(g:da):List (List Zi):=List.zipWith (λl k=>l.drop k) ls g
theorem Nz {ls:List (List Zi)}{g:da}{i k:Nat}{l:List Zi}(h:ls[i]?=Y l)(j:g[i]?=Y k):(Xb ls g)[i]?=Y (l.drop k):=by
 simp[Xb,yC,h,j]
theorem ML {ls:List (List Zi)}{g:da}(h:T g=T ls):(Xb ls g).length=T ls:=by
 simp[Xb,h]
theorem Zsu {ls:List (List Zi)}{g:da}(h:T g=T ls){i k:Nat}{l:List Zi}(j:ls[i]?=Y l)(u:g[i]?=Y k):(Xb ls g).drop i=l.drop k::(Xb ls g).drop (i+1):=by
 have hi:i<(Xb ls g).length:=by rw[ML h];exact (zF.1 j).1
 rw[zY hi];have:=Nz j u;rw[zD hi]at this;injection this with this;rw[this]
theorem ZiH (ls:List (List Zi)):Xb ls (zK (T ls) 0)=ls:=by
 induction ls with
 |nil=>rfl
 |cons l ls g=>rw[zN,List.replicate_succ];show l.drop 0::Xb ls _=_;rw[g];rfl
theorem ZlC {ls:List (List Zi)}{g:da}(h:T g=T ls){k m:Nat}(y:g[k]?=Y m):Xb ls (g.set k (m+1))=(Xb ls g).set k (((Xb ls g).getD k []).drop 1):=by
 have z:=(zF.1 y).1;have hl:ls[k]?=Y (ls[k]'Z):=zD Z;have A:=Nz hl y;refine List.ext_getElem? λj=>?_;by_cases e:j=k
 ·subst e;rw[zR (by rw[ML h];omega),zX,A];rw[Nz hl (zR z)];simp[yK,Nat.add_comm]
 ·rw[zB (λu=>e u.symm)];simp only[Xb,yC];rw[zB (λu=>e u.symm)]
def fD:Option (Nat×Zi)->Int
 |none=>-1
 |some (k,_)=>(k:Int)
theorem ZiW {α:Type}:∀ (ls:List (List α)) (k:Nat) (a:α) (t:List α),ls[k]?=Y (a::t)->YA (ls.set k t)+1=YA ls:=by
 intro ls
 induction ls with
 |nil=>intro k a t h;simp at h
 |cons x ls g =>
  intro k a t h
  cases k with
  |zero=>simp at h;subst h;simp[YA];omega
  |succ k=>simp at h;have:=g k a t h;simp[YA];omega
theorem Zmy {o n i:Nat}(h:i<n):Zj 1 (.rs I 1 o 0 n n) (J X (i:Int))=Y (.ptr o i):=by
 unfold Zj;dsimp only;rw[if_pos Z];simp
section
variable {L:Loc}{lx c e:AV}(hav:LocAV (.agg (L.cells lx c e)) L)(hok:LocOk L){p:Spec}{xp:AV}(hsp:SpecAV (.agg (p.cells xp)) p)(hks:∀ k∈p.keys,KeOk k)
 {x:AV} {ls:List (List Zi)} (hL:ZqE ls) (ht:YA ls<=1048576) (hl:T ls<=1048576)
include hav hok hsp hks hL ht hl
theorem Zeh {i3 i4 o:Nat}{H:Hp}(hx:LL H x ls){g:da}(g3:H[i3]?=Y (.cells (L.cells lx c e)))(g4:H[i4]?=Y (.cells (p.cells xp)))(go:H[o]?=Y (.cells (g.map λk:Nat=>zO .i64 (k:Int))))(z:T g=T ls)(x7:AV)(H0:Hp) :
 ∀ (m i:Nat) (b:Option (Nat×Zi)),T ls-i=m->i<=T ls->(∀ j d,b=Y (j,d)->∃ t,(Xb ls g)[j]?=Y (d::t)) ->
 Ti x (.ptr i3 0) (.ptr i4 0) x7 (.rs I 1 o 0 (T ls) (T ls)) (J X (fD b)) (J X (i:Int)) H0 H =
  Gc x (.ptr i3 0) (.ptr i4 0) x7 (.rs I 1 o 0 (T ls) (T ls)) (J X (fD (X2 (ZI L p) ((Xb ls g).drop i) i b))) H0 H:=by
 have hn:=hx.len 29;have ac:=Qd g3;have ab:=X6 g4;have A:∀ {i k:Nat},g[i]?=Y k->Z2 I 1 (.ptr o i) H=Y (J X (k:Int)):=λ{i k} h=>ZU go i (by simp[h])
 have E:∀ l∈ls,T l<=1048576:=λl hm=>by
  have:∀ (ls:List (List Zi)),l∈ls->T l<=YA ls:=by
   intro ls
   induction ls with
   |nil=>intro h;cases h
   |cons m ls ih =>
    intro h;rcases yG.1 h with h|h
    ·subst h;simp[YA]
    ·have:=ih h;simp[YA];omega
  have:=this ls hm;omega
 intro m
 induction m with
 |zero =>
  intro i b hm hi hb;have F:decide ((i:Int)<(T ls:Int))=I:=by rw[decide_eq_false_iff_not];omega
  have e0:(Xb ls g).drop i=[]:=zS.2 (by rw[ML z];omega);rw[AJ,e0];simp only[hn,go_sem,F];rfl
 |succ m ih =>
  intro i b hm hi hb;have B:i<T ls:=Z
  have F:decide ((i:Int)<(T ls:Int))=U:=by rw[decide_eq_true_eq];omega
  have ad:yP.wrap ((i:Int)+1)=((i+1:Nat):Int):=by rw[Zo Z Z];omega
  have M:ls[i]?=Y ls[i]:=zD B;have Q:g[i]?=Y (g[i]'Z):=zD Z;generalize ag:ls[i]=l at M;generalize ae:(g[i]'Z)=k at Q;obtain⟨pa,a,q1,q0,q2⟩:=hx.get M;have R:=q2.len 9;have ai:=E l (zC M);rw[AJ,Zsu z M Q];simp only[hn,go_sem,F,Zhd,Zmy B,A Q,q1,q0,R]
  have key:∀ b':Option (Nat×Zi),(∀ j d,b'=Y (j,d)->∃ t,(Xb ls g)[j]?=Y (d::t)) ->
   Te x (.ptr i3 0) (.ptr i4 0) x7 (.rs I 1 o 0 (T ls) (T ls)) (J X (fD b')) (J X (i:Int)) H0 H=Gc x (.ptr i3 0) (.ptr i4 0) x7 (.rs I 1 o 0 (T ls) (T ls)) (J X (fD (X2 (ZI L p) ((Xb ls g).drop (i+1)) (i+1) b'))) H0 H:=λb' aa=>by
   rw[Zhe];simp only[go_sem,ad];exact ih (i+1) b' Z Z aa
  by_cases hk:k<T l
  ·have e1:decide ((k:Int)<(T l:Int))=U:=by rw[decide_eq_true_eq];omega
   have hc:l.drop k=l[k]::l.drop (k+1):=zY hk
   have y:∀ j d,Y (i,l[k])=Y (j,d)->∃ t,(Xb ls g)[j]?=Y (d::t):=λj d e'=>by
    injection e' with e';injection e' with N O;subst N O;exact⟨l.drop (k+1),by rw[Nz M Q,hc]⟩
   rw[hc]
   cases b with
   |none =>
    have N:decide ((-1:Int)<0)=U:=rfl;rw[OK];simp only[e1,fD,N,go_sem];exact key (Y (i,l[k])) y
   |some q =>
    obtain⟨j,d⟩:=q;have N:decide ((j:Int)<0)=I:=by rw[decide_eq_false_iff_not];omega
    obtain⟨t,u⟩:=hb j d rfl
    have S:j<T ls:=by
     have:=(zF.1 u).1
     rwa [ML z]at this
    have h3:ls[j]?=Y ls[j]:=zD S;have h4:g[j]?=Y (g[j]'Z):=zD Z;generalize ah:ls[j]=l' at h3;generalize af:(g[j]'Z)=k' at h4;obtain⟨pb,a',u1,u0,u2⟩:=hx.get h3;rw[Nz h3 h4]at u;injection u with u
    have hd:l'[k']?=Y d:=by
     have:(l'.drop k')[0]?=Y d:=by rw[u];rfl
     rwa [zV,yI]at this
    have i1:=SS.idx u2 hd;have i2:=SS.idx q2 (zD hk);have ho:=ZlD hav hok hsp hks d l[k] (hL l' (zC h3) d (zC hd)) (hL l (zC M) _ (List.getElem_mem hk)) H;rw[Mj];simp only[e1,fD,N,go_sem,ac,ab,u1,u0,Zu,Zmy S,A h4,i1,q1,q0,Zmy B,A Q,i2,ho];by_cases hg:0<ZI L p d l[k]
    ·have O:decide (0<ZI L p d l[k])=U:=decide_eq_true hg;simp only[O,go_sem,if_pos hg];exact key (Y (i,l[k])) y
    ·have O:decide (0<ZI L p d l[k])=I:=decide_eq_false hg;simp only[O,go_sem,if_neg hg];exact key (Y (j,d)) hb
  ·have e1:decide ((k:Int)<(T l:Int))=I:=by rw[decide_eq_false_iff_not];omega
   have hc:l.drop k=[]:=zS.2 Z;rw[hc,gE];simp only[e1,go_sem];exact key b hb
theorem ZpN {i3 i4 o:Nat}(ad:i3≠o/\i4≠o){B:Hp}(hx:LL B x ls)(az:T B<=o):∀ (n:Nat) (g:da) (A:List Zi) (S:AV) (H:Hp),YA (Xb ls g)=n->T g=T ls->T A+n<=1048576->YE A->RowN (T B) H 1 S (A.map AV.str)->Keep (T B) B H->T B<=T H ->
 H[i3]?=Y (.cells (L.cells lx c e))->H[i4]?=Y (.cells (p.cells xp))->H[o]?=Y (.cells (g.map λk:Nat=>zO .i64 (k:Int))) ->
 ∃ y,Tg x (.ptr i3 0) (.ptr i4 0) S (.rs I 1 o 0 (T ls) (T ls)) B H=Y (y,B)/\SS y (if p.uniq then Xt (Yz L p) [] (A++XW (ZI L p) n (Xb ls g)) else A++XW (ZI L p) n (Xb ls g)):=by
 have ab:∀ (A:List Zi) (S:AV) (H:Hp),T A<=1048576->YE A->RowN (T B) H 1 S (A.map AV.str)->Keep (T B) B H->T B<=T H->H[i3]?=Y (.cells (L.cells lx c e))->H[i4]?=Y (.cells (p.cells xp)) ->
  ∃ y,Gc x (.ptr i3 0) (.ptr i4 0) S (.rs I 1 o 0 (T ls) (T ls)) (J X (-1)) B H=Y (y,B)/\SS y (if p.uniq then Xt (Yz L p) [] A else A):=by
  intro A S H ha Q h7 E R g3 g4;obtain⟨z,r1,r2⟩:=ZiM hav hok hsp hks h7.sl Q ha H;have e2:decide ((-1:Int)<0)=U:=rfl;obtain⟨y,s1,s2⟩:=ZuB (H0:=B) (H:=H) E R r2 (λc hc=>by obtain⟨m,_,rfl⟩:=yH.1 hc;rfl);refine⟨y,?_,s2⟩;rw[AI];simp only[go_sem,e2,Qd g3,X6 g4,r1,s1]
 intro n
 induction n with
 |zero =>
  intro g A S H hn N hc Q h7 E R g3 g4 go;have M:=Zeh hav hok hsp hks hL ht hl (hx.keep E) g3 g4 go N S B (T ls) 0 V Z (yJ _) (λj d e'=>by cases e')
  have ac:X2 (ZI L p) (Xb ls g) 0 V=V:=by
   cases hg:X2 (ZI L p) (Xb ls g) 0 V with
   |none=>rfl
   |some q =>
    obtain⟨k,a⟩:=q;obtain⟨t,F⟩:=(ZfH (ZI L p) (Xb ls g) [] V (λk a e=>(by cases e)) (λ_ l hl=>(by cases hl))).1 k a hg;rw[yB]at F;have:=ZiW _ k a t F;omega
  rw[yL,ac]at M;obtain⟨y,r1,r2⟩:=ab A S H Z Q h7 E R g3 g4;refine⟨y,?_,by rw[show XW (ZI L p) 0 (Xb ls g)=[] from rfl,zI];exact r2⟩;rw[Th];exact M.trans r1
 |succ n ih =>
  intro g A S H hn N hc Q h7 E R g3 g4 go;have M:=Zeh hav hok hsp hks hL ht hl (hx.keep E) g3 g4 go N S B (T ls) 0 V Z (yJ _) (λj d e'=>by cases e');rw[yL]at M
  cases hg:X2 (ZI L p) (Xb ls g) 0 V with
  |none =>
   rw[hg]at M;obtain⟨y,r1,r2⟩:=ab A S H Z Q h7 E R g3 g4;refine⟨y,?_,by rw[F0 hg,zI];exact r2⟩;rw[Th];exact M.trans r1
  |some q =>
   obtain⟨k,a⟩:=q;rw[hg]at M;obtain⟨t,F⟩:=(ZfH (ZI L p) (Xb ls g) [] V (λk a e=>(by cases e)) (λ_ l hl=>(by cases hl))).1 k a hg;rw[yB]at F
   have ag:k<T ls:=by
    have:=(zF.1 F).1
    rwa [ML N]at this
   have h1:ls[k]?=Y ls[k]:=zD ag;have h2:g[k]?=Y (g[k]'Z):=zD Z;generalize au:ls[k]=l at h1;generalize ax:(g[k]'Z)=m at h2;have O:=F;rw[Nz h1 h2]at O;injection O with O
   have hd:l[m]?=Y a:=by
    have:(l.drop m)[0]?=Y a:=by rw[O];rfl
    rwa [zV,yI]at this
   have ay:=(zF.1 hd).1
   have aw:T l<=1048576:=by
    have:∀ (ls:List (List Zi)),l∈ls->T l<=YA ls:=by
     intro ls
     induction ls with
     |nil=>intro h;cases h
     |cons m ls ih =>
      intro h;rcases yG.1 h with h|h
      ·subst h;simp[YA]
      ·have:=ih h;simp[YA];omega
    have:=this ls (zC h1);omega
   obtain⟨pb,b,u1,u0,u2⟩:=(hx.keep E).get h1;have i1:=SS.idx u2 hd;have aq:Z2 I 1 (.ptr o k) H=Y (J X (m:Int)):=ZU go k (by simp[h2]);obtain⟨x',H1,w1,w2,w3,w4,w5⟩:=RowN.app h7 R 16 (.vs 1 .clip [.str a]) [.str a] rfl (by simp;omega);have ak:=w5 _ _ g3;have am:=w5 _ _ g4;have aa:=w5 _ _ go;have ae:Z2 I 1 (.ptr o k) H1=Y (J X (m:Int)):=ZU aa k (by simp[h2]);have ar:yP.wrap ((m:Int)+1)=((m+1:Nat):Int):=by rw[Zo Z Z];omega
   have ai:=Vb aa k (v:=J X ((m+1:Nat):Int)) rfl rfl (by simp;omega);have ah:(g.map λk:Nat=>zO .i64 (k:Int)).set k (J X ((m+1:Nat):Int))=(g.set k (m+1)).map λk:Nat=>zO .i64 (k:Int):=by rw[List.map_set]
   rw[ah]at ai;have ao:(H1.set o (.cells ((g.set k (m+1)).map λk:Nat=>zO .i64 (k:Int))))[o]?=Y (.cells ((g.set k (m+1)).map λk:Nat=>zO .i64 (k:Int))):=Zs _ aa;have al:=Y2 (zA ((g.set k (m+1)).map λk:Nat=>zO .i64 (k:Int))) (Ne.symm ad.1) ak;have an:=Y2 (zA ((g.set k (m+1)).map λk:Nat=>zO .i64 (k:Int))) (Ne.symm ad.2) am;have af:Keep (T B) B (H1.set o (.cells ((g.set k (m+1)).map λk:Nat=>zO .i64 (k:Int)))):=(E.trans w4).trans λi hi=>zB Z
   have ap:RowN (T B) (H1.set o (.cells ((g.set k (m+1)).map λk:Nat=>zO .i64 (k:Int)))) 1 x' ((A++[a]).map AV.str):=by
    rcases w2 with ⟨e1,e2⟩|⟨u,v,e1,e2,e3⟩
    ·simp at e2
    ·refine .inr ⟨u,v,by rw[e1];simp,?_,e3⟩;rw[zB (λe'=>by subst e';rw[aa]at e2;cases e2)];exact e2
   have aj:YA (Xb ls (g.set k (m+1)))=n:=by
    rw[ZlC N h2,zX,F];have:=ZiW _ k a t F;show YA ((Xb ls g).set k t)=n;omega
   obtain⟨y,r1,r2⟩:=ih (g.set k (m+1)) (A++[a]) x' _ aj (by rw[zG];exact N) (by simp;omega) (λs hs=>by
    rcases yA.1 hs with h|h
    ·exact Q s h
    ·rw[zL.1 h];exact hL l (zC h1) a (zC hd)) ap af (by rw[zG];exact w3) al an ao
   refine⟨y,?_,?_⟩
   ·rw[Th];refine M.trans ?_;have e2:decide ((k:Int)<0)=I:=by rw[decide_eq_false_iff_not];omega
    rw[AI];simp only[fD,go_sem,e2,Zhc,u1,u0,Zu,Zmy ag,aq,i1,Jf,w1,ae,ar,ai];exact r1
   ·rw[Kp hg,<-ZlC N h2];simpa using r2
end
theorem ZsB {a q:AV}{L:Loc}{p:Spec}(R:LocAV a L)(hok:LocOk L)(O:SpecAV q p)(hks:∀ k∈p.keys,KeOk k)(hv0:ZP p=0)
 {x:AV} {ls:List (List Zi)} {B:Hp} (hx:LL B x ls) (hL:ZqE ls) (ht:YA ls<=1048576) (h0:ls≠[]) (hl:T ls<=1048576):∃ y,IY [a,q,x] B=Y (y,B)/\SS y (YS L p ls):=by
 have hav:=R;have hsp:=O;have F:=λH=>Ml O H;obtain⟨lx,c,e,rfl,ab,hc,he⟩:=R;obtain⟨xp,rfl,ac⟩:=O;have Q:(B++[zA (L.cells lx c e),zA (p.cells xp)])[T B]?=Y (.cells (L.cells lx c e)):=cn
 have E:(B++[zA (L.cells lx c e),zA (p.cells xp)])[T B+1]?=Y (.cells (p.cells xp)):=cn
 have l2:=X6 E;have g:(B++[zA (L.cells lx c e),zA (p.cells xp)]).length=T B+2:=cn
 have h:Keep (T B) B (B++[zA (L.cells lx c e),zA (p.cells xp)]):=Keep.push B (zH _) _;have b1:ZF (.agg (p.cells xp)) (B++[zA (L.cells lx c e)])=Y (.ptr (T B+1) 0,B++[zA (L.cells lx c e),zA (p.cells xp)]):=by rw[ZW];simp
 have b0:ZF (.agg (L.cells lx c e)) B=Y (.ptr (T B) 0,B++[zA (L.cells lx c e)]):=ZW _ _;rw[Zjn];unfold Zdj YS;simp only[b0,b1,go_sem];generalize aa:B++[zA (L.cells lx c e),zA (p.cells xp)]=j at Q E l2 g h;have u:=F j;have z:(ZP p != 0)=I:=by simp[hv0]
 have M:=(hx.keep h).len 29;simp only[l2,go_sem,u,z,Zhb,M];have S:0<T ls:=List.length_pos_iff.2 h0
 have N:Uy 1 8 I (J X 0) (J X (T ls:Int)) (J X (T ls:Int)) j=Y (.rs I 1 (T j) 0 (T ls) (T ls),j++[.cells ((zK (T ls) 0).map λk:Nat=>zO .i64 (k:Int))]):=by
  unfold Uy;dsimp only;have A:YB ((T ls:Int)).toNat 8=U:=by simp[YB];omega
  rw[if_pos ⟨Z,Z,rfl,rfl,Z,A⟩,if_neg Z]
  have:(zK ((T ls:Int)).toNat (zO .i64 0).cells).flatten=(zK (T ls) 0).map λk:Nat=>zO .i64 (k:Int):=by
   rw[zZ,List.map_replicate];show (zK (T ls) [zO .i64 0]).flatten=_;rw[List.flatten_replicate_singleton];rfl
  rw[this,zZ]
 rw[N,g];have k3:(j++[zA ((zK (T ls) 0).map λk:Nat=>zO .i64 (k:Int))])[T B+2]?=Y (.cells ((zK (T ls) 0).map λk:Nat=>zO .i64 (k:Int))):=by rw[<-g];simp
 obtain⟨y,m1,m2⟩:=ZpN hav hok hsp hks hL ht hl (i3:=T B) (i4:=T B+1) (o:=T B+2) ⟨Z,Z⟩ hx Z (YA ls) (zK (T ls) 0) [] .nils _ (by rw[ZiH]) cn (by simpa using ht) (λs hs=>by cases hs) (RowN.nil _ _ _) (h.trans (Keep.push j Z _)) (by rw[zW];omega) (Y8 Q _) (Y8 E _) k3;rw[ZiH,yB]at m2;refine⟨y,by simp only[go_sem,m1],?_⟩;rw[if_neg (by simp[hv0])];exact m2
theorem ZpK {x:AV}{l:List Zi}(A:SS x l)(hl:T l<=1048576)(Q:ZJ l<=1000000)(H0 H:Hp):∀ (r d:List Zi),l=d++r ->
 Tq x (J X ((ZJ d:Nat):Int)) (J X (T d:Int)) H0 H=Y (J X ((ZJ l:Nat):Int),H):=by
 have z:=SS.len A 9;intro r
 induction r with
 |nil =>
  intro d g;rw[zI]at g;subst g;have h:decide ((T l:Int)<(T l:Int))=I:=cn
  rw[AP];simp only[go_sem,z,h,Zhk]
 |cons s r F =>
  intro d g;have y:T l=T d+(T r+1):=by rw[g];simp
  have h:decide ((T d:Int)<(T l:Int))=U:=by rw[decide_eq_true_eq];omega
  have u:l[T d]?=Y s:=by rw[g,zE (zH _)];simp
  have j:=SS.idx A u;have B:ZJ l=ZJ d+(T s+6+ZJ r):=by rw[g,Rp];rfl
  have E:ZJ (d++[s])=ZJ d+(T s+6):=by rw[Rp];rfl
  have M:yP.wrap (((ZJ d:Nat):Int)+(T s:Int))=((ZJ d+T s:Nat):Int):=by rw[Zo Z Z];omega
  have N:yP.wrap (((ZJ d+T s:Nat):Int)+6)=((ZJ (d++[s]):Nat):Int):=by rw[Zo Z Z];omega
  have O:yP.wrap ((T d:Int)+1)=((d++[s]).length:Int):=by rw[Zo Z Z];simp
  rw[AP];simp only[go_sem,z,h,Zhl,j,Zu,M,N,Zhm,O];exact F (d++[s]) (by rw[g];simp)
theorem OR {x:AV}{l:List Zi}(u:SS x l)(hl:T l<=1048576)(j:ZJ l<=1000000)(H:Hp):Ze Dp [x] H=Y (J X ((ZJ l:Nat):Int),H):=by
 obtain⟨y,g,h⟩:=SS.closed u [] 0 7;refine Xi (args':=[y]) (H1:=[]) (by rw[yE,g];rfl) ?_ rfl;rw[Zjr];unfold Zdn;exact ZpK h hl j [] [] l [] rfl
theorem ZhM {ls:List (List Zi)}{l:List Zi}(h:l∈ls):ZJ l<=Yf ls/\T l<=Yf ls:=by
 have j:∀ l:List Zi,T l<=ZJ l:=by
  intro l
  induction l with
  |nil=>exact zH _
  |cons s l g=>simp only[ZJ,zN];omega
 induction ls with
 |nil=>cases h
 |cons k ls g =>
  rcases yG.1 h with h|h
  ·subst h;have:=j l;simp only[Yf];omega
  ·have:=g h;simp only[Yf];omega
theorem ZvM {x:AV}{ls:List (List Zi)}{H:Hp}(z:LL H x ls)(hl:T ls<=1048576)(hc:Yf ls<=1000000)(H0:Hp):∀ (r d:List (List Zi)),ls=d++r ->
 Ma x (J X ((Yf d:Nat):Int)) (J X (T d:Int)) H0 H=Y (J X ((Yf ls:Nat):Int),H):=by
 have y:=z.len 29;intro r
 induction r with
 |nil =>
  intro d g;rw[zI]at g;subst g;have h:decide ((T ls:Int)<(T ls:Int))=I:=cn
  rw[cD];simp only[go_sem,y,h,Zka]
 |cons s r N =>
  intro d g;have u:T ls=T d+(T r+1):=by rw[g];simp
  have h:decide ((T d:Int)<(T ls:Int))=U:=by rw[decide_eq_true_eq];omega
  have j:ls[T d]?=Y s:=by rw[g,zE (zH _)];simp
  obtain⟨q,a,F,M,i3⟩:=z.get j;have B:Yf ls=Yf d+(ZJ s+Yf r):=by rw[g,TA];rfl
  have E:Yf (d++[s])=Yf d+ZJ s:=by rw[TA];rfl
  obtain⟨R,S⟩:=ZhM (zC j);have A:=OR i3 Z Z H;have O:yP.wrap (((Yf d:Nat):Int)+((ZJ s:Nat):Int))=((Yf (d++[s]):Nat):Int):=by rw[Zo Z Z];omega
  have Q:yP.wrap ((T d:Int)+1)=((d++[s]).length:Int):=by rw[Zo Z Z];simp
  rw[cD];simp only[go_sem,y,h,Zkb,F,M,A,O,Zkc,Q];exact N (d++[s]) (by rw[g];simp)
theorem ZoF {x:AV}{ls:List (List Zi)}{H:Hp}(h:LL H x ls)(hl:T ls<=1048576)(g:Yf ls<=1000000):Kb Ex [x] H=Y (J X ((Yf ls:Nat):Int),H):=by
 refine dI (H1:=H) (v:=J X ((Yf ls:Nat):Int)) ?_ (Keep.refl _ _) (zH _) rfl;rw[ZlX];unfold Zgq;exact ZvM h hl g H ls [] rfl
def ZsH:AV->da
 |.ws _ _ o _ _=>[o]
 |_=>[]
def GL (N:Nat)(H:Hp)(x:AV)(ls:List (List Zi)):Prop:=ls=[]/\x=.nils\/∃ o e g,x=.ws I 1 o e (T ls)/\H[o]?=Y (.row e g)/\EE g ls/\N<=o
theorem GL.ll {N:Nat}{H:Hp}{x:AV}{ls:List (List Zi)}(h:GL N H x ls):LL H x ls:=by
 rcases h with ⟨g,u⟩|⟨o,e,j,g,z,y,_⟩
 ·exact .inl ⟨g,.inl u⟩
 ·exact .inr (.inr ⟨o,e,j,g,z,y⟩)
theorem GL.same {N:Nat}{H H':Hp}{x:AV}{ls:List (List Zi)}(h:GL N H x ls)(A:∀ o,N<=o->∀ e g,H[o]?=Y (.row e g)->H'[o]?=Y (.row e g)):GL N H' x ls:=by
 rcases h with ⟨j,y⟩|⟨o,e,g,j,B,z,u⟩
 ·exact .inl ⟨j,y⟩
 ·exact .inr ⟨o,e,g,j,A o u e g B,z,u⟩
theorem GL.keep {N:Nat}{H H':Hp}{x:AV}{ls:List (List Zi)}(h:GL N H x ls)(j:Keep (T H) H H'):GL N H' x ls:=h.same λo _ e u g=>(j o (Zn g)).trans g
theorem GL.set {N:Nat}{H:Hp}{x:AV}{ls:List (List Zi)}(h:GL N H x ls){i:Nat}(hi:i<N)(v:AObj):GL N (H.set i v) x ls:=h.same λo u e j g=>(zB Z).trans g
theorem GL.app {N:Nat}{H:Hp}{x:AV}{ls:List (List Zi)}(h:GL N H x ls)(F:N<=T H){y:AV}{l:List Zi}(E:SS y l)(hl:T ls+1<=1048576) :
 ∃ O H',Xu I 1 24 x (.vs 1 .clip [y]) H=Y (O,H')/\GL N H' O (ls++[l])/\Keep N H H'/\T H<=T H':=by
 have B:elems 1 (.vs 1 .clip [y]) H=Y [y]:=rfl;have u:([y].map AV.cells).flatten=[y]:=ZrG λe z=>by rw[zL.1 z];exact E.cell.1
 unfold Xu;rw[B];dsimp only;rcases h with ⟨rfl,rfl⟩|⟨o,e,Q,rfl,M,z,A⟩
 ·have g:YB [y].length 24=U:=rfl;unfold QH;dsimp only;rw[if_neg cn,if_pos g,u];exact⟨_,_,rfl,.inr ⟨T H,0,[y],rfl,cn,EE.nil.app E,F⟩,Keep.push H F _,cn⟩
 ·have g:YB (T ls+[y].length) 24=U:=by simp[YB];omega
  unfold QH;dsimp only;rw[if_pos ⟨rfl,rfl,g⟩,if_neg cn,M];dsimp only;rw[if_pos ⟨rfl,by rw[z.len];omega⟩,u,Nat.mul_one,cJ,List.take_of_length_le (Nat.le_of_eq z.len)];exact⟨_,_,rfl,.inr ⟨o,e+1,Q++[y],cn,zR (zF.1 M).1,z.app E,A⟩,λj R=>zB Z,cn⟩
def Wd (w:Nat)(C:List (List Zi))(q:Nat):List (List Zi):=(C.drop (q*w)).take w
theorem gA {w:Nat}{C:List (List Zi)}{q:Nat}:(Wd w C q).length=(W8 w (T C) q).length:=by
 rw[Zkv];unfold Wd;rw[zQ,List.length_drop]
theorem ZnJ {w:Nat}{C:List (List Zi)}{q k:Nat}{s:List Zi}(h:(Wd w C q)[k]?=Y s):C[q*w+k]?=Y s:=by
 unfold Wd at h
 have g:k<w:=by
  have:=(zF.1 h).1;rw[zQ]at this;omega
 rwa [List.getElem?_take_of_lt g,zV]at h
theorem Zur (w:Nat)(C:List (List Zi))(q:Nat):C.drop (q*w)=Wd w C q++C.drop ((q+1)*w):=by
 unfold Wd;rw[Nat.add_mul,Nat.one_mul,<-yK,yD]
section
variable {w:Nat}(hw:2<=w)(hw2:w<=32){C:List (List Zi)}(hC:T C<=41){x3 x12:AV}(h12:IV x12 (WG w (T C)))
include hw hw2 hC h12
theorem ZpM {q:Nat}(hq:q<Yi w (T C)){N:Nat}(x5 x6 x9 E F:AV)(H0:Hp):∀ (r d:List (List Zi)) (g:AV) (H:Hp),Wd w C q=d++r->LL H x3 C->(∀ o∈ZsH x3,o<N)->N<=T H->GL N H g d ->
 ∃ j H',M8 x3 x5 x6 x9 E x12 F (J X (q:Int)) g (J X (T d:Int)) H0 H=M3 x3 x5 x6 x9 E x12 F (J X (q:Int)) j H0 H'/\GL N H' j (Wd w C q)/\Keep N H H'/\T H<=T H':=by
 obtain⟨ac,y1,y2⟩:=h12.get (ZfP hq);have u:=y2.len 3;rw[<-gA]at u;have ae:(Wd w C q).length<=w:=by unfold Wd;rw[zQ];omega
 intro r
 induction r with
 |nil =>
  intro d g H A hx O hl M;rw[zI]at A;rw[<-A]at M ⊢;have y:decide (((Wd w C q).length:Int)<((Wd w C q).length:Int))=I:=cn
  refine⟨g,H,?_,M,Keep.refl _ _,zH _⟩;rw[cC];simp only[go_sem,y1,Zu,u,y]
 |cons s r ih =>
  intro d g H A hx O hl M;have ad:(Wd w C q).length=T d+(T r+1):=by rw[A];simp
  have y:decide ((T d:Int)<((Wd w C q).length:Int))=U:=by rw[decide_eq_true_eq];omega
  have R:(Wd w C q)[T d]?=Y s:=by rw[A,zE (zH _)];simp
  have Q:T d<(W8 w (T C) q).length:=by rw[<-gA];omega
  have S:=y2.idx (Zku Q);have B:Zj 1 ac (J X (T d:Int))=Y (.vp [J X ((q*w+T d:Nat):Int)]):=S;obtain⟨p,a,i1,i2,i3⟩:=hx.get (ZnJ R);have aa:yP.wrap ((T d:Int)+1)=((d++[s]).length:Int):=by rw[Zo Z Z];simp
  obtain⟨x',H1,g1,g2,g3,g4⟩:=M.app hl i3 Z
  have ab:LL H1 x3 C:=by
   rcases hx with h|h|⟨o,e,es,h1,ho,he⟩
   ·exact .inl h
   ·exact .inr (.inl h)
   ·exact .inr (.inr ⟨o,e,es,h1,(g3 o (O o (by rw[h1];simp[ZsH]))).trans ho,he⟩)
  obtain⟨z,H2,m1,m2,m3,m4⟩:=ih (d++[s]) x' H1 (by rw[A];simp) ab O Z g2;refine⟨z,H2,?_,m2,g3.trans m3,Z⟩;rw[cC];simp only[go_sem,y1,Zu,u,y,Zho,B,i1,i2,Ziw i3,g1,Zhp,aa];exact m1
theorem ZxT {H:Hp}(hx:LL H x3 C){g:Nat}(hg:g<Yi w (T C))(v:Nat)(hv:v+Yf (Wd w C g)<=1000000)(S x6 x9 A B E F:AV)(H0:Hp):∀ (r d:List (List Zi)),Wd w C g=d++r ->
 M7 x3 S x6 x9 A x12 B E F (J X ((v+Yf d:Nat):Int)) (J X (g:Int)) (J X (T d:Int)) H0 H =
  Ox x3 S x6 x9 A x12 B E F (J X ((v+Yf (Wd w C g):Nat):Int)) (J X (g:Int)) H0 H:=by
 obtain⟨Q,y1,y2⟩:=h12.get (ZfP hg);have h:=y2.len 3;rw[<-gA]at h;have ac:(Wd w C g).length<=w:=by unfold Wd;rw[zQ];omega
 intro r
 induction r with
 |nil =>
  intro d j;rw[zI]at j;rw[<-j];have u:decide (((Wd w C g).length:Int)<((Wd w C g).length:Int))=I:=cn
  rw[cB];simp only[go_sem,y1,Zu,h,u]
 |cons s r ih =>
  intro d j;have R:(Wd w C g).length=T d+(T r+1):=by rw[j];simp
  have u:decide ((T d:Int)<((Wd w C g).length:Int))=U:=by rw[decide_eq_true_eq];omega
  have y:(Wd w C g)[T d]?=Y s:=by rw[j,zE (zH _)];simp
  have M:T d<(W8 w (T C) g).length:=by rw[<-gA];omega
  have N:=y2.idx (Zku M);have z:Zj 1 Q (J X (T d:Int))=Y (.vp [J X ((g*w+T d:Nat):Int)]):=N;obtain⟨p,a,i1,i2,i3⟩:=hx.get (ZnJ y);have aa:Yf (Wd w C g)=Yf d+(ZJ s+Yf r):=by rw[j,TA];rfl
  have ab:Yf (d++[s])=Yf d+ZJ s:=by rw[TA];rfl
  obtain⟨c1,c2⟩:=ZhM (zC y);have hb:=OR i3 Z Z H;have w2:yP.wrap (((v+Yf d:Nat):Int)+((ZJ s:Nat):Int))=((v+Yf (d++[s]):Nat):Int):=by rw[Zo Z Z];omega
  have O:yP.wrap ((T d:Int)+1)=((d++[s]).length:Int):=by rw[Zo Z Z];simp
  rw[cB];simp only[go_sem,y1,Zu,h,u,Zk9,z,i1,i2,hb,w2,Zhn,O];exact ih (d++[s]) (by rw[j];simp)
theorem ZsL {H:Hp}(hx:LL H x3 C)(N O Q y z A B:AV)(H0:Hp):∀ (m g v:Nat),Yi w (T C)-g=m->g<=Yi w (T C)->v+Yf (C.drop (g*w))<=1000000 ->
 M6 x3 N O Q y x12 z A B (J X (v:Int)) (J X (g:Int)) H0 H =
  Ow x3 N O Q y x12 z A B (J X ((v+Yf (C.drop (g*w)):Nat):Int)) H0 H:=by
 have u:=h12.len 40;rw[Hm]at u;have aa:=Zap (w:=w) Z hw2 (T C);intro m
 induction m with
 |zero =>
  intro g v hm hg hv;have h:g=Yi w (T C):=Z
  subst h;have j:decide ((Yi w (T C):Int)<(Yi w (T C):Int))=I:=cn
  have F:C.drop (Yi w (T C)*w)=[]:=zS.2 (fC Z);rw[cA,F];simp only[go_sem,u,j,Yf,yI]
 |succ m ih =>
  intro g v hm hg hv;have h:g<Yi w (T C):=Z
  have j:decide ((g:Int)<(Yi w (T C):Int))=U:=by rw[decide_eq_true_eq];omega
  have F:=Zur w C g;have S:Yf (C.drop (g*w))=Yf (Wd w C g)+Yf (C.drop ((g+1)*w)):=by rw[F,TA]
  have M:yP.wrap ((g:Int)+1)=((g+1:Nat):Int):=by rw[Zo Z Z];omega
  have E:=ZxT hw hw2 hC h12 hx h v Z N O Q y z A B H0 (Wd w C g) [] rfl;have e0:v+Yf ([]:List (List Zi))=v:=rfl;have R:(([]:List (List Zi)).length:Int)=0:=rfl;rw[e0,R]at E;have hi:=ih (g+1) (v+Yf (Wd w C g)) Z Z Z;rw[cA];simp only[go_sem,u,j,Zk7,E,Zk8,M];rw[hi,S,Nat.add_assoc]
end
def ZC (st:Stt):c6:=[J X st.r,J X st.m,J X st.y,J X st.k]
theorem Zzy (st:Stt):YN st=.agg (ZC st):=rfl
section
variable {L:Loc}{lx cl e:AV}{p:Spec}{xp:AV}(hl:LocAV (.agg (L.cells lx cl e)) L)(hok:LocOk L)(hs:SpecAV (.agg (p.cells xp)) p)(hks:∀ k∈p.keys,KeOk k)(hv0:ZP p=0)
include hl hok hs hks hv0
theorem ZsI {w:Nat}(hw:2<=w)(hw2:w<=32){R:List Pr}(ao:T R<=41)(af:ShortP R)(bz:ZS R<=40){k0:Nat}{st0:Stt}(bl:k0+T R<=125)(cg:0<=st0.m/\st0.m<=900)
 {P0:List Pr} (hP:P0.Perm R) (hN:NmK P0 k0) {B:Hp} {x3:AV} (F:LL B x3 (R.map (·.2))) {x12:AV} (h12:IV x12 (WG w (R.map (·.2)).length)) (H0:Hp) :
 ∀ (m q:Nat) (g:AV) (H:Hp),Yi w (T R)-q=m->q<=Yi w (T R)->GL (T B+5) H g ((Yl L p w R q ⟨[],P0,k0,st0⟩).O.map (·.2)) ->
 H[T B]?=Y (.cells (L.cells lx cl e))->H[T B+1]?=Y (.cells (p.cells xp))->H[T B+3]?=Y (.cells (ZC (Yl L p w R q ⟨[],P0,k0,st0⟩).st))->H[T B+4]?=Y (.cells (ZC ⟨0,0,0,0⟩)) ->
 Keep (T B) B H->T B+5<=T H ->
 ∃ y H',DF x3 (.ptr (T B) 0) (.ptr (T B+1) 0) (.ptr (T B+3) 0) (.ptr (T B+4) 0) x12 g (J X (q:Int)) H0 H=Y (.tuple [y,YN (Yl L p w R (Yi w (T R)) ⟨[],P0,k0,st0⟩).st],H') /\
  GL (T B+5) H' y ((Yl L p w R (Yi w (T R)) ⟨[],P0,k0,st0⟩).O.map (·.2))/\Keep (T B) B H'/\T B+5<=T H':=by
 have hw0:0<w:=Z
 have u:(R.map (·.2)).length=T R:=zJ ..;have cb:=Zap hw0 hw2 (T R);have ak:=h12.len 40;rw[Hm,u]at ak;intro m
 induction m with
 |zero =>
  intro q g H hm hq hg g0 g1 g3 g4 hk au;have aa:q=Yi w (T R):=Z
  subst aa;have ai:decide ((Yi w (T R):Int)<(Yi w (T R):Int))=I:=cn
  generalize Yl L p w R (Yi w (T R)) ⟨[],P0,k0,st0⟩=a at *;have l3:Z2 U 4 (.ptr (T B+3) 0) H=Y (YN a.st):=by rw[Yk g3];rfl
  have s4:=YL (off:=0) (sz:=4) (v:=YN a.st) g4 rfl rfl (by simp[ZC]);have e4:splice (ZC ⟨0,0,0,0⟩) 0 (YN a.st).cells=ZC a.st:=rfl;rw[e4]at s4;have bc:=Zs (zA (ZC a.st)) g4;have l4:Z2 U 4 (.ptr (T B+4) 0) (H.set (T B+4) (.cells (ZC a.st)))=Y (YN a.st):=by rw[Yk bc];rfl
  refine⟨g,_,?_,hg.set (i:=T B+4) Z (.cells (ZC a.st)),hk.trans λi hi=>zB Z,by rw[zG];exact au⟩;rw[bZ];simp only[go_sem,ak,ai,Zk3,l3,s4,l4]
 |succ m ih =>
  intro q g H hm hq hg g0 g1 g3 g4 hk au;have aa:q<Yi w (T R):=Z
  have ai:decide ((q:Int)<(Yi w (T R):Int))=U:=by rw[decide_eq_true_eq];omega
  have hb:=Gg hw0 aa;have ba:yP.wrap ((q:Int)+1)=((q+1:Nat):Int):=by rw[Zo Z Z];omega
  obtain⟨hI,bw,bm⟩:=Zo1 (L:=L) (p:=p) hw af bl hP hN (st0:=st0) q λi hi=>Gg hw0 Z;have aw:Yl L p w R (q+1) ⟨[],P0,k0,st0⟩=VY L p (Yy w R q) (Yl L p w R q ⟨[],P0,k0,st0⟩):=rfl;have am:=Zc0 hw hb;have bg:Wd w (R.map (·.2)) q=(Yy w R q).map (·.2):=gP_snd.symm;have bf:∀ x∈Yy w R q,x∈R:=λx F=>yF (List.mem_of_mem_take F);have an:ShortP (Yy w R q):=λx F=>af x (bf x F);have bj:=Zfp w R q;have ce:ZS R=ZS (R.take (q*w))+ZS (R.drop (q*w)):=by rw[<-Vj,yD]
  have cc:ZS (Yy w R q)<=ZS (R.drop (q*w)):=by rw[bj,Vj];omega
  have cd:=hI.lines;have bx:=hI.len;have bh:=hI.short.cost;have be:ShortP (R.drop (q*w)):=λx F=>af x (yF F);have bd:=be.cost;have ch:=hI.m;have br:LL H x3 (R.map (·.2)):=F.keep hk
  have ax:∀ o∈ZsH x3,o<T H:=λo ho=>by
   rcases F with ⟨_,h|h⟩|⟨t,es,h,_⟩|⟨o',e',es,h,h1,_⟩
   ·rw[h]at ho;cases ho
   ·rw[h]at ho;cases ho
   ·rw[h]at ho;cases ho
   ·rw[h]at ho;have:=zL.1 ho;have:=Zn h1;omega
  obtain⟨bb,H1,r1,r2,r3,r4⟩:=ZpM hw hw2 (by rw[u];exact ao) h12 (q:=q) (by rw[u];exact aa) (N:=T H) (.ptr (T B) 0) (.ptr (T B+1) 0) (.ptr (T B+3) 0) (.ptr (T B+4) 0) g H0 (Wd w (R.map (·.2)) q) [] .nils H rfl br ax (zH _) (.inl ⟨rfl,rfl⟩);rw[List.length_nil,show ((0:Nat):Int)=0 from rfl]at r1;have aq:=hg.keep r3;have t0:=(r3 _ Z).trans g0;have t1:=(r3 _ Z).trans g1;have t3:=(r3 _ Z).trans g3;have t4:=(r3 _ Z).trans g4;have ad:Keep (T B) B H1:=hk.trans λi hi=>r3 i Z;rw[bg]at r2;have ag:=r2.ll.len 29;rw[zJ]at ag;have ac:((Yl L p w R q ⟨[],P0,k0,st0⟩).O.map (·.2)).length+1<=1048576:=by rw[zJ];omega
  have cf:(Yy w R q).length<=32:=by unfold Yy;rw[zQ];omega
  have al:=ih (q+1);rw[aw]at al
  have ab:DF x3 (.ptr (T B) 0) (.ptr (T B+1) 0) (.ptr (T B+3) 0) (.ptr (T B+4) 0) x12 g (J X (q:Int)) H0 H=M3 x3 (.ptr (T B) 0) (.ptr (T B+1) 0) (.ptr (T B+3) 0) (.ptr (T B+4) 0) x12 g (J X (q:Int)) bb H0 H1:=by
   rw[bZ];simp only[go_sem,ak,ai,Zk4];exact r1
  rw[ab];have bp:=Zzi hI (gM L p (Yl L p w R q ⟨[],P0,k0,st0⟩).k (Yy w R q));have ap:(R.map (·.2)).drop (q*w)=(R.drop (q*w)).map (·.2):=(yN ..).symm;have bq:=λ(H:Hp) (F:LL H x3 (R.map (·.2)))=>ZsL hw hw2 (by rw[u];exact ao) h12 F;have bk:=ZnG (L:=L) (p:=p) (k:=(Yl L p w R q ⟨[],P0,k0,st0⟩).k) an am;generalize ca:Yl L p w R q ⟨[],P0,k0,st0⟩=a at *;generalize bu:Yy w R q=G at *
  match G,am with
  |[x],_ =>
   have ae:((([x]:List Pr).length:Int)==1)=U:=rfl;obtain⟨pp,av,i1,i2,i3⟩:=r2.ll.get (i:=0) (l:=x.2) rfl;have bs:Zj 1 bb (J X 0)=Y pp:=i1;obtain⟨Q,S,q1,q2,M,q4⟩:=aq.app Z i3 ac;have hO:(VY L p [x] a).O.map (·.2)=a.O.map (·.2)++[x.2]:=by show (a.O++[x]).map (·.2)=_;rw[zT];rfl
   obtain⟨y,H',m1,m2,m3,m4⟩:=al Q S Z Z (by rw[hO];exact q2) ((M _ Z).trans t0) ((M _ Z).trans t1) ((M _ Z).trans t3) ((M _ Z).trans t4) (ad.trans λi hi=>M i Z) Z;refine⟨y,H',?_,m2,m3,m4⟩;rw[bY];simp only[go_sem,ag,ae,bs,i2,Ziw i3,q1,bX,ba];exact m1
  |x::y0::r,h0 =>
   have ae:(((x::y0::r:List Pr).length:Int)==1)=I:=by
    rw[beq_eq_false_iff_ne];simp only[zN];omega
   have l6:=Qd t0;have l5:=X6 t1
   have bn:ZqE ((x::y0::r).map (·.2)):=λl hl s hs=>by
    obtain⟨z,hz,rfl⟩:=yH.1 hl;have:=an z hz s hs;omega
   have ay:YA ((x::y0::r).map (·.2))<=1048576:=by rw[Hb];omega
   obtain⟨ym,u1,u2⟩:=ZsB hl hok hs hks hv0 r2.ll bn ay cn (by rw[zJ];omega);have A:(gM L p a.k (x::y0::r)).2=YS L p ((x::y0::r).map (·.2)):=rfl;obtain⟨n1,n2⟩:=bk;have aj:(gN L p a.k (x::y0::r))=gM L p a.k (x::y0::r):=rfl;rw[aj,A]at n1 n2;have bo:=Zat _ n1
   have bt:ZJ (YS L p ((x::y0::r).map (·.2)))<=8240:=zU bo (by
    have:(YS L p ((x::y0::r).map (·.2))).length*206<=40*206:=zP _ Z;omega)
   have c1:ZG a.O<=8240:=zU bh (by
    have:ZS a.O*206<=40*206:=zP _ Z;omega)
   have c2:ZG (R.drop (q*w))<=8240:=zU bd (by
    have:ZS (R.drop (q*w))*206<=40*206:=zP _ Z;omega)
   -- the merges are counted
   have d1:=ZU t3 1 (v:=J X a.st.m) rfl;have d2:yP.wrap (a.st.m+1)=a.st.m+1:=Zo Z Z;have d3:=Vb t3 1 (v:=J X (a.st.m+1)) rfl rfl (by simp[ZC]);have d4:(ZC a.st).set 1 (J X (a.st.m+1))=ZC ⟨a.st.r,a.st.m+1,a.st.y,a.st.k⟩:=rfl;rw[d4]at d3;have j3:=Zs (zA (ZC ⟨a.st.r,a.st.m+1,a.st.y,a.st.k⟩)) t3;have ah:=aq.set (i:=T B+3) Z (.cells (ZC ⟨a.st.r,a.st.m+1,a.st.y,a.st.k⟩));have j0:=(zB (l:=H1) (i:=T B+3) (j:=T B) (a:=zA (ZC ⟨a.st.r,a.st.m+1,a.st.y,a.st.k⟩)) Z).trans t0;have j1:=(zB (l:=H1) (i:=T B+3) (j:=T B+1) (a:=zA (ZC ⟨a.st.r,a.st.m+1,a.st.y,a.st.k⟩)) Z).trans t1;have j4:=(zB (l:=H1) (i:=T B+3) (j:=T B+4) (a:=zA (ZC ⟨a.st.r,a.st.m+1,a.st.y,a.st.k⟩)) Z).trans t4;have jk:Keep (T B) B (H1.set (T B+3) (.cells (ZC ⟨a.st.r,a.st.m+1,a.st.y,a.st.k⟩))):=ad.trans λi hi=>zB Z;have jl:(H1.set (T B+3) (.cells (ZC ⟨a.st.r,a.st.m+1,a.st.y,a.st.k⟩))).length=T H1:=zG ..;generalize H1.set (T B+3) (.cells (ZC ⟨a.st.r,a.st.m+1,a.st.y,a.st.k⟩))=S at d3 j3 ah j0 j1 j4 jk jl;have az:=ZoF ah.ll Z (by rw[GH];omega);rw[GH]at az;have bi:=OR u2 Z Z S;have d5:yP.wrap (((ZG a.O:Nat):Int)+((ZJ (YS L p ((x::y0::r).map (·.2))):Nat):Int))=((ZG a.O+ZJ (YS L p ((x::y0::r).map (·.2))):Nat):Int):=by rw[Zo Z Z];omega
   have E:=bq _ (F.keep jk) (.ptr (T B) 0) (.ptr (T B+1) 0) (.ptr (T B+3) 0) (.ptr (T B+4) 0) g (J X (q:Int)) ym H0 (Yi w (R.map (·.2)).length-q) q (ZG a.O+ZJ (YS L p ((x::y0::r).map (·.2)))) rfl (by rw[u];exact hq) (by rw[ap,GH];omega);rw[ap,GH,<-A,<-bp,A]at E
   -- the peak
   have d6:=ZU j3 3 (v:=J X a.st.k) rfl;have d7:=Vb j3 3 (v:=J X (max a.st.k ((ZG (a.P++[gM L p a.k (x::y0::r)]):Nat):Int))) rfl rfl (by simp[ZC]);have d8:(ZC ⟨a.st.r,a.st.m+1,a.st.y,a.st.k⟩).set 3 (J X (max a.st.k ((ZG (a.P++[gM L p a.k (x::y0::r)]):Nat):Int)))=ZC (VY L p (x::y0::r) a).st:=rfl;rw[d8]at d7;have v3:=Zs (zA (ZC (VY L p (x::y0::r) a).st)) j3;have ar:=ah.set (i:=T B+3) Z (.cells (ZC (VY L p (x::y0::r) a).st));have v0:=(zB (l:=S) (i:=T B+3) (j:=T B) (a:=zA (ZC (VY L p (x::y0::r) a).st)) Z).trans j0;have v1:=(zB (l:=S) (i:=T B+3) (j:=T B+1) (a:=zA (ZC (VY L p (x::y0::r) a).st)) Z).trans j1;have v4:=(zB (l:=S) (i:=T B+3) (j:=T B+4) (a:=zA (ZC (VY L p (x::y0::r) a).st)) Z).trans j4;have vk:Keep (T B) B (S.set (T B+3) (.cells (ZC (VY L p (x::y0::r) a).st))):=jk.trans λi hi=>zB Z;have vl:(S.set (T B+3) (.cells (ZC (VY L p (x::y0::r) a).st))).length=T S:=zG ..;generalize S.set (T B+3) (.cells (ZC (VY L p (x::y0::r) a).st))=H3 at d7 v3 ar v0 v1 v4 vk vl;obtain⟨Q,H4,q1,q2,M,q4⟩:=ar.app Z u2 ac;have hO:(VY L p (x::y0::r) a).O.map (·.2)=a.O.map (·.2)++[YS L p ((x::y0::r).map (·.2))]:=by show (a.O++[gM L p a.k (x::y0::r)]).map (·.2)=_;rw[zT];rfl
   obtain⟨y,H',m1,m2,m3,m4⟩:=al Q H4 Z Z (by rw[hO];exact q2) ((M _ Z).trans v0) ((M _ Z).trans v1) ((M _ Z).trans v3) ((M _ Z).trans v4) (vk.trans λi hi=>M i Z) Z;refine⟨y,H',?_,m2,m3,m4⟩;rw[bY];simp only[go_sem,ag,ae,Zk5,l6,l5,u1,zM,d1,d2,d3,az,bi,d5];rw[E,Zk6];simp only[go_sem,zM,d6,d7,Ziw u2,q1,bX,ba];exact m1
theorem Zvn {w:Nat}(hw:2<=w)(hw2:w<=32){R:List Pr}(j:T R<=41)(A:ShortP R)(u:ZS R<=40){k0:Nat}{st0:Stt}(E:k0+T R<=125)(F:0<=st0.m/\st0.m<=900)
 {P0:List Pr} (hP:P0.Perm R) (hN:NmK P0 k0) (mem:Int) {B:Hp} {x3:AV} (hx:LL B x3 (R.map (·.2))) :
 ∃ y H',Ew [.agg (L.cells lx cl e),.agg (p.cells xp),.agg [J X mem,J X (w:Int)],x3,YN st0] B=Y (.tuple [y,YN (Yl L p w R (Yi w (T R)) ⟨[],P0,k0,st0⟩).st],H') /\
  GL (T B+5) H' y ((Yl L p w R (Yi w (T R)) ⟨[],P0,k0,st0⟩).O.map (·.2))/\Keep (T B) B H'/\T B+5<=T H':=by
 have g:(R.map (·.2)).length=T R:=zJ ..;have b0:ZF (.agg (L.cells lx cl e)) B=Y (.ptr (T B) 0,B++[zA (L.cells lx cl e)]):=ZW _ _;have b1:ZF (.agg (p.cells xp)) (B++[zA (L.cells lx cl e)])=Y (.ptr (T B+1) 0,B++[zA (L.cells lx cl e),.cells (p.cells xp)]):=by rw[ZW];simp
 have b2:ZF (.agg [J X mem,J X (w:Int)]) (B++[zA (L.cells lx cl e),.cells (p.cells xp)])=Y (.ptr (T B+2) 0,B++[zA (L.cells lx cl e),.cells (p.cells xp),.cells [J X mem,J X (w:Int)]]):=by rw[ZW];simp
 have b3:ZF (YN st0) (B++[zA (L.cells lx cl e),.cells (p.cells xp),.cells [J X mem,J X (w:Int)]])=Y (.ptr (T B+3) 0,B++[zA (L.cells lx cl e),.cells (p.cells xp),.cells [J X mem,J X (w:Int)],.cells (ZC st0)]):=by rw[Zzy,ZW];simp
 have e4:B++[zA (L.cells lx cl e),.cells (p.cells xp),.cells [J X mem,J X (w:Int)],.cells (ZC st0)]++[zA [J X 0,J X 0,J X 0,J X 0]]=B++[zA (L.cells lx cl e),.cells (p.cells xp),.cells [J X mem,J X (w:Int)],.cells (ZC st0),.cells (ZC ⟨0,0,0,0⟩)]:=by simp[ZC]
 have l4:(B++[zA (L.cells lx cl e),.cells (p.cells xp),.cells [J X mem,J X (w:Int)],.cells (ZC st0)]).length=T B+4:=cn
 have M:(B++[zA (L.cells lx cl e),.cells (p.cells xp),.cells [J X mem,J X (w:Int)],.cells (ZC st0),.cells (ZC ⟨0,0,0,0⟩)])[T B]?=Y (.cells (L.cells lx cl e)):=cn
 have N:(B++[zA (L.cells lx cl e),.cells (p.cells xp),.cells [J X mem,J X (w:Int)],.cells (ZC st0),.cells (ZC ⟨0,0,0,0⟩)])[T B+1]?=Y (.cells (p.cells xp)):=cn
 have Q:(B++[zA (L.cells lx cl e),.cells (p.cells xp),.cells [J X mem,J X (w:Int)],.cells (ZC st0),.cells (ZC ⟨0,0,0,0⟩)])[T B+2]?=Y (.cells [J X mem,J X (w:Int)]):=cn
 have S:(B++[zA (L.cells lx cl e),.cells (p.cells xp),.cells [J X mem,J X (w:Int)],.cells (ZC st0),.cells (ZC ⟨0,0,0,0⟩)])[T B+3]?=Y (.cells (ZC st0)):=cn
 have f4:(B++[zA (L.cells lx cl e),.cells (p.cells xp),.cells [J X mem,J X (w:Int)],.cells (ZC st0),.cells (ZC ⟨0,0,0,0⟩)])[T B+4]?=Y (.cells (ZC ⟨0,0,0,0⟩)):=cn
 have fk:Keep (T B) B (B++[zA (L.cells lx cl e),.cells (p.cells xp),.cells [J X mem,J X (w:Int)],.cells (ZC st0),.cells (ZC ⟨0,0,0,0⟩)]):=Keep.push B (zH _) _;have fl:(B++[zA (L.cells lx cl e),.cells (p.cells xp),.cells [J X mem,J X (w:Int)],.cells (ZC st0),.cells (ZC ⟨0,0,0,0⟩)]).length=T B+5:=cn
 have h:=hx.len 29;rw[g]at h;rw[ZlW];unfold Zgp;simp only[b0,b1,b2,b3,go_sem,l4,e4];generalize B++[zA (L.cells lx cl e),.cells (p.cells xp),.cells [J X mem,J X (w:Int)],.cells (ZC st0),.cells (ZC ⟨0,0,0,0⟩)]=H1 at M N Q S f4 fk fl;have l1:=ZU Q 1 (v:=J X (w:Int)) rfl;have H:UH (w:Int)=w:=by unfold UH;omega
 obtain⟨y,p1,p2⟩:=ZsJ (T R:Int) (w:Int) Z H1;rw[H,show ((T R:Nat):Int).toNat=T R by omega,<-g]at p2;obtain⟨z,H',m1,m2,m3,m4⟩:=ZsI hl hok hs hks hv0 hw hw2 j A u E F hP hN hx p2 B (Yi w (T R)) 0 .nils H1 Z (yJ _) (.inl ⟨rfl,rfl⟩) M N S f4 fk Z;refine⟨z,H',?_,m2,m3,m4⟩;simp only[h,go_sem,zM,l1,p1];exact m1
end
theorem GL.mono {N M:Nat}{H:Hp}{x:AV}{ls:List (List Zi)}(h:GL N H x ls)(A:M<=N):GL M H x ls:=by
 rcases h with h|⟨o,e,g,j,y,u,z⟩
 ·exact .inl h
 ·exact .inr ⟨o,e,g,j,y,u,Z⟩
structure RsAt (H:Hp)(b:Nat)(L:Loc)(lx cl e:AV)(p:Spec)(xp:AV)(mem:Int)(w:Nat)(st:Stt):Prop where
 l:H[b]?=Y (.cells (L.cells lx cl e))
 s:H[b+1]?=Y (.cells (p.cells xp))
 z:H[b+2]?=Y (.cells [J X mem,J X (w:Int)])
 o:H[b+3]?=Y (.cells (ZC ⟨0,0,0,0⟩))
 n:H[b+4]?=Y (.cells (ZC st))
theorem RsAt.keep {H H':Hp}{b:Nat}{L:Loc}{lx cl e:AV}{p:Spec}{xp:AV}{mem:Int}{w:Nat}{st:Stt}(h:RsAt H b L lx cl e p xp mem w st)(g:Keep (b+5) H H'):RsAt H' b L lx cl e p xp mem w st :=
 ⟨(g _ Z).trans h.l,(g _ Z).trans h.s,(g _ Z).trans h.z,(g _ Z).trans h.o,(g _ Z).trans h.n⟩
theorem RsAt.set {H:Hp}{b:Nat}{L:Loc}{lx cl e:AV}{p:Spec}{xp:AV}{mem:Int}{w:Nat}{st:Stt}(h:RsAt H b L lx cl e p xp mem w st)(g:Stt):RsAt (H.set (b+4) (.cells (ZC g))) b L lx cl e p xp mem w g :=
 ⟨(zB Z).trans h.l,(zB Z).trans h.s,(zB Z).trans h.z,(zB Z).trans h.o,Zs _ h.n⟩
section
variable {L:Loc}{lx cl e:AV}{p:Spec}{xp:AV}(hl:LocAV (.agg (L.cells lx cl e)) L)(hok:LocOk L)(hs:SpecAV (.agg (p.cells xp)) p)(hks:∀ k∈p.keys,KeOk k)(hv0:ZP p=0){mem:Int}{w:Nat}
include hl hok hs hks hv0
theorem ZpO {j:AV}{B:List (List Zi)}(hx:LsV j B){i:Nat}{c:List Zi}(hi:B[i]?=Y c)(S:T c<=40/\∀ s∈c,T s<=200)(x3 N O Q R x12 A:AV)(H0 H:Hp):∀ (r d:List Zi),c=d++r ->
 M2 x3 N O Q R x12 j A (J X (i:Int)) (J X (Yj cS d)) (J X (T d:Int)) H0 H=Oq x3 N O Q R x12 j A (J X (i:Int)) (J X (Yj cS c)) H0 H:=by
 obtain⟨a,M,i3⟩:=hx.get' hi;have F:=SS.len i3 9;have hL:YE c:=λs hs=>by have:=S.2 s hs;omega
 intro r
 induction r with
 |nil =>
  intro d g;rw[zI]at g;subst g;have h:decide ((T c:Int)<(T c:Int))=I:=cn
  rw[bW];simp only[go_sem,M,Zu,F,h]
 |cons s r ih =>
  intro d g;have E:T c=T d+(T r+1):=by rw[g];simp
  have h:decide ((T d:Int)<(T c:Int))=U:=by rw[decide_eq_true_eq];omega
  have z:c[T d]?=Y s:=by rw[g,zE (zH _)];simp
  have u:=SS.idx i3 z;have ab:T s<=1048576:=hL s (zC z);have hb:=Me d λy hy=>hL y (by rw[g];simp[hy]);have aa:(T d:Int)*1048592<=1048576*1048592:=Int.mul_le_mul_of_nonneg_right Z Z;have w1:yP.wrap (Yj cS d+(T s:Int))=Yj cS d+(T s:Int):=Zo Z Z
  have w2:yP.wrap (Yj cS d+(T s:Int)+16)=Yj cS (d++[s]):=by
   rw[Zo Z Z,AW];show _=Yj cS d+((T s:Int)+16);omega
  have w3:yP.wrap ((T d:Int)+1)=((d++[s]).length:Int):=by rw[Zo Z Z];simp
  rw[bW];simp only[go_sem,M,Zu,F,h,Zk1,u,w1,w2,Zk2,w3];exact ih (d++[s]) (by rw[g];simp)
theorem ZpS {Q:AV}{j:List (List Zi)}(hx:LsV Q j)(ax:T j<=40)(ao:∀ c∈j,T c<=40/\∀ s∈c,T s<=200){B:Hp}(x3:AV)(H0:Hp) :
 ∀ (r d:List (List Zi)) (P:List Pr) (k:Nat) (st:Stt) (g:AV) (H:Hp),j=d++r->ShortP P->ZS P+T r.flatten<=80->T P+T r<=41->GL (T B+5) H g (P.map (·.2)) ->
 RsAt H (T B) L lx cl e p xp mem w ⟨0,st.m,st.y,st.k⟩->Keep (T B) B H->T B+5<=T H ->
 ∃ E H',M1 x3 (.ptr (T B) 0) (.ptr (T B+1) 0) (.ptr (T B+2) 0) (.ptr (T B+3) 0) (.ptr (T B+4) 0) Q g (J X (T d:Int)) H0 H =
  On x3 (.ptr (T B) 0) (.ptr (T B+1) 0) (.ptr (T B+2) 0) (.ptr (T B+3) 0) (.ptr (T B+4) 0) Q E H0 H'/\GL (T B+5) H' E ((wP L p P k r).map (·.2)) /\
  RsAt H' (T B) L lx cl e p xp mem w ⟨0,(wT L p P k st r).m,(wT L p P k st r).y,(wT L p P k st r).k⟩/\Keep (T B) B H'/\T B+5<=T H':=by
 have hn:=hx.len 29;intro r
 induction r with
 |nil =>
  intro d P k st g H R aj ag ai hg S hk af;rw[zI]at R;subst R;have O:decide ((T j:Int)<(T j:Int))=I:=cn
  exact⟨g,H,by rw[bV];simp only[go_sem,hn,O],hg,S,hk,af⟩
 |cons c r ih =>
  intro d P k st g H R aj ag ai hg S hk af;have au:T j=T d+(T r+1):=by rw[R];simp
  have O:decide ((T d:Int)<(T j:Int))=U:=by rw[decide_eq_true_eq];omega
  have N:j[T d]?=Y c:=by rw[R,zE (zH _)];simp
  have ar:yP.wrap ((T d:Int)+1)=((d++[c]).length:Int):=by rw[Zo Z Z];simp
  have hc:=ao c (zC N);obtain⟨al,M⟩:=hc;obtain⟨a,i1,i3⟩:=hx.get' N;have ah:=ZpO hl hok hs hks hv0 hx N ⟨al,M⟩ x3 (.ptr (T B) 0) (.ptr (T B+1) 0) (.ptr (T B+2) 0) (.ptr (T B+3) 0) (.ptr (T B+4) 0) g H0 H c [] rfl;have e0:Yj cS ([]:List Zi)=0:=rfl;have e1:(([]:List Zi).length:Int)=0:=rfl;rw[e0,e1]at ah;rw[List.flatten_cons,zW]at ag;rw[zN]at ai
  -- the memory
  have d1:=ZU S.n 2 (v:=J X st.y) rfl;have d2:=Vb S.n 2 (v:=J X (max st.y (Yj cS c))) rfl rfl (by simp[ZC]);have d3:(ZC ⟨0,st.m,st.y,st.k⟩).set 2 (J X (max st.y (Yj cS c)))=ZC ⟨0,st.m,max st.y (Yj cS c),st.k⟩:=rfl;rw[d3]at d2;have u:=S.set ⟨0,st.m,max st.y (Yj cS c),st.k⟩;have ab:=hg.set (i:=T B+4) Z (.cells (ZC ⟨0,st.m,max st.y (Yj cS c),st.k⟩));have ad:Keep (T B) B (H.set (T B+4) (.cells (ZC ⟨0,st.m,max st.y (Yj cS c),st.k⟩))):=hk.trans λi hi=>zB Z;have ap:(H.set (T B+4) (.cells (ZC ⟨0,st.m,max st.y (Yj cS c),st.k⟩))).length=T H:=zG ..;generalize H.set (T B+4) (.cells (ZC ⟨0,st.m,max st.y (Yj cS c),st.k⟩))=H2 at d2 u ab ad ap;have l6:=Qd u.l;have l5:=X6 u.s;have am:YE c:=λs hs=>by have:=M s hs;omega
  obtain⟨y,s1,s2⟩:=ZiN hl hok hs hks i3 am Z H2;obtain⟨x',H3,g1,g2,g3,g4⟩:=ab.app Z s2 (by rw[zJ];omega);have F:=u.keep g3;have eP:P.map (·.2)++[ZX L p c]=(P++[W3 L p k c]).map (·.2):=by rw[zT];rfl
  rw[eP]at g2
  have A:ShortP (P++[W3 L p k c]):=λz hz=>by
   rcases yA.1 hz with h|h
   ·exact aj z h
   ·rw[zL.1 h];exact Zj7 M
  have aw:ZS (P++[W3 L p k c])<=ZS P+T c:=by
   rw[Vj];have:ZS [W3 L p k c]=(ZX L p c).length+0:=rfl;rw[this];have:=IJ L p c;omega
  have an:ZG (P++[W3 L p k c])<=80*206:=zU A.cost (zP _ Z);have ak:=ZoF g2.ll (by rw[zJ,zW,List.length_singleton];omega) (by rw[GH];omega);rw[GH]at ak;have d6:=ZU F.n 3 (v:=J X st.k) rfl;have d7:=Vb F.n 3 (v:=J X (max st.k ((ZG (P++[W3 L p k c]):Nat):Int))) rfl rfl (by simp[ZC]);have d8:(ZC ⟨0,st.m,max st.y (Yj cS c),st.k⟩).set 3 (J X (max st.k ((ZG (P++[W3 L p k c]):Nat):Int)))=ZC ⟨0,st.m,max st.y (Yj cS c),max st.k ((ZG (P++[W3 L p k c]):Nat):Int)⟩:=rfl;rw[d8]at d7;have aa:=F.set ⟨0,st.m,max st.y (Yj cS c),max st.k ((ZG (P++[W3 L p k c]):Nat):Int)⟩;have ac:=g2.set (i:=T B+4) Z (.cells (ZC ⟨0,st.m,max st.y (Yj cS c),max st.k ((ZG (P++[W3 L p k c]):Nat):Int)⟩));have ae:Keep (T B) B (H3.set (T B+4) (.cells (ZC ⟨0,st.m,max st.y (Yj cS c),max st.k ((ZG (P++[W3 L p k c]):Nat):Int)⟩))):=(ad.trans λi hi=>g3 i Z).trans λi hi=>zB Z;have aq:(H3.set (T B+4) (.cells (ZC ⟨0,st.m,max st.y (Yj cS c),max st.k ((ZG (P++[W3 L p k c]):Nat):Int)⟩))).length=T H3:=zG ..;generalize H3.set (T B+4) (.cells (ZC ⟨0,st.m,max st.y (Yj cS c),max st.k ((ZG (P++[W3 L p k c]):Nat):Int)⟩))=H4 at d7 aa ac ae aq;obtain⟨z,H',m1,m2,m3,m4,m5⟩:=ih (d++[c]) (P++[W3 L p k c]) (k+1) ⟨st.r+1,st.m,max st.y (Yj cS c),max st.k ((ZG (P++[W3 L p k c]):Nat):Int)⟩ x' H4 (by rw[R];simp) A Z (by simp;omega) ac aa ae Z;refine⟨z,H',?_,m2,m3,m4,m5⟩;rw[bV];simp only[go_sem,hn,O,ZjY,ah,Zk0,zM,d1,d2,l6,l5,i1,Zu,s1,Ziw s2,g1,d6,ak,d7,ZjZ,ar];exact m1
theorem Zom (hw:2<=w)(hw2:w<=32){r0 y0:Int}{l:List Zi}{B:Hp}(x3:AV)(H0:Hp):∀ (f:Nat) (a:PSt) (j:AV) (H:Hp),T a.O<=f->SInv L p r0 y0 l a->NmK a.P a.k->GL (T B+5) H j (a.O.map (·.2)) ->
 RsAt H (T B) L lx cl e p xp mem w a.st->Keep (T B) B H->T B+5<=T H ->
 ∃ H',M0 x3 (.ptr (T B) 0) (.ptr (T B+1) 0) (.ptr (T B+2) 0) (.ptr (T B+3) 0) (.ptr (T B+4) 0) j H0 H =
  Oo x3 (.ptr (T B) 0) (.ptr (T B+1) 0) (.ptr (T B+3) 0) (.ptr (T B+4) 0) H0 H'/\RsAt H' (T B) L lx cl e p xp mem w (JM L p w f a).st/\Keep (T B) B H'/\T B+5<=T H':=by
 intro f
 induction f with
 |zero =>
  intro a j H hf u hN R A S E;have g:=R.ll.len 29;rw[zJ]at g;have l1:=ZU A.z 1 (v:=J X (w:Int)) rfl;have h:decide ((w:Int)<(T a.O:Int))=I:=by rw[decide_eq_false_iff_not];omega
  refine⟨H,?_,A,S,E⟩;rw[N6];simp only[go_sem,g,zM,l1,h]
 |succ f ih =>
  intro a j H hf u hN R A S E;have g:=R.ll.len 29;rw[zJ]at g;have l1:=ZU A.z 1 (v:=J X (w:Int)) rfl;by_cases hn:w<T a.O
  ·have h:decide ((w:Int)<(T a.O:Int))=U:=by rw[decide_eq_true_eq];omega
   have af:=u.len;have ae:=u.kle;have ag:=u.m;have l6:=Qd A.l;have l5:=X6 A.s;have l2:Z2 U 2 (.ptr (T B+2) 0) H=Y (.agg [J X mem,J X (w:Int)]):=by rw[Yk A.z];rfl
   have l4:Z2 U 4 (.ptr (T B+4) 0) H=Y (YN a.st):=by rw[Yk A.n];rfl
   obtain⟨y,H1,p1,p2,p3,p4⟩:=Zvn hl hok hs hks hv0 hw hw2 Z u.short u.lines (k0:=a.k) Z (st0:=a.st) ⟨Z,Z⟩ u.perm hN mem R.ll;obtain⟨q1,q2,q3⟩:=Zo1 (L:=L) (p:=p) hw u.short (k0:=a.k) (st0:=a.st) Z u.perm hN (Yi w (T a.O)) λi hi=>Gg Z hi;have aa:=PInv.sinv hw u hn q1
   have F:(Gp L p w a).O.length<=f:=by
    have:=q1.len;have hc:=Zfo hw hn;show (Yl L p w a.O (Yi w (T a.O)) ⟨[],a.P,a.k,a.st⟩).O.length<=f;omega
   have N:=A.keep (H':=H1) λi hi=>p3 i Z;have Q:=YL (off:=0) (sz:=4) (v:=YN (Gp L p w a).st) N.n rfl rfl (by simp[ZC]);have es:splice (ZC a.st) 0 (YN (Gp L p w a).st).cells=ZC (Gp L p w a).st:=rfl;rw[es]at Q;have ab:=N.set (Gp L p w a).st;have ac:=(p2.mono (M:=T B+5) Z).set (i:=T B+4) Z (.cells (ZC (Gp L p w a).st));obtain⟨H',m1,m2,m3,m4⟩:=ih (Gp L p w a) y _ F aa q2 ac ab ((S.trans λi hi=>p3 i Z).trans λi hi=>zB Z) (by rw[zG];omega);have hr:JM L p w (f+1) a=JM L p w f (Gp L p w a):=by simp only[JM,if_pos hn]
   rw[hr];refine⟨H',?_,m2,m3,m4⟩;have ad:Ew [.agg (L.cells lx cl e),.agg (p.cells xp),.agg [J X mem,J X (w:Int)],j,YN a.st] H=Y (.tuple [y,YN (Gp L p w a).st],H1):=p1;rw[N6];simp only[go_sem,g,zM,l1,h,ZjX,l6,l5,l2,l4,ad,List.getElem?_cons_zero,List.getElem?_cons_succ,Q];exact m1
  ·have h:decide ((w:Int)<(T a.O:Int))=I:=by rw[decide_eq_false_iff_not];omega
   have hr:JM L p w (f+1) a=a:=by simp only[JM,if_neg hn]
   rw[hr];refine⟨H,?_,A,S,E⟩;rw[N6];simp only[go_sem,g,zM,l1,h]
end
theorem Zta {a q x:AV}{L:Loc}{p:Spec}{l:List Zi}(ha:LocAV a L)(hok:LocOk L)(hq:SpecAV q p)(hks:∀ k∈p.keys,KeOk k)(hx:SS x l)(N:T l<=40)(h:∀ s∈l,T s<=200)
 (mem w:Int) (B:Hp) :
 ∃ H' y,eB [a,q,.agg [J X mem,J X w],x] B=Y (.tuple [y,YN (if Wb p mem w l=0 then Gi L p mem w.toNat l else ⟨0,0,0,0⟩),J X (Wb p mem w l)],H') /\
  SS y (if Wb p mem w l=0 then ZX L p l else [])/\Keep (T B) B H'/\T B<=T H':=by
 have g:YE l:=λs hs=>by have:=h s hs;omega
 have H:=hq;have hav:=ha;obtain⟨lx,cl,e,rfl,au,aq,ar⟩:=ha;obtain⟨xp,rfl,az⟩:=hq;have b0:ZF (.agg (L.cells lx cl e)) B=Y (.ptr (T B) 0,B++[zA (L.cells lx cl e)]):=ZW _ _;have b1:ZF (.agg (p.cells xp)) (B++[zA (L.cells lx cl e)])=Y (.ptr (T B+1) 0,B++[zA (L.cells lx cl e),.cells (p.cells xp)]):=by rw[ZW];simp
 have b2:ZF (.agg [J X mem,J X w]) (B++[zA (L.cells lx cl e),.cells (p.cells xp)])=Y (.ptr (T B+2) 0,B++[zA (L.cells lx cl e),.cells (p.cells xp),.cells [J X mem,J X w]]):=by rw[ZW];simp
 have e3:B++[zA (L.cells lx cl e),.cells (p.cells xp),.cells [J X mem,J X w]]++[zA [J X 0,J X 0,J X 0,J X 0]]=B++[zA (L.cells lx cl e),.cells (p.cells xp),.cells [J X mem,J X w],.cells (ZC ⟨0,0,0,0⟩)]:=by simp[ZC]
 have l3:(B++[zA (L.cells lx cl e),.cells (p.cells xp),.cells [J X mem,J X w]]).length=T B+3:=cn
 have f0:(B++[zA (L.cells lx cl e),.cells (p.cells xp),.cells [J X mem,J X w],.cells (ZC ⟨0,0,0,0⟩)])[T B]?=Y (.cells (L.cells lx cl e)):=cn
 have f1:(B++[zA (L.cells lx cl e),.cells (p.cells xp),.cells [J X mem,J X w],.cells (ZC ⟨0,0,0,0⟩)])[T B+1]?=Y (.cells (p.cells xp)):=cn
 have f2:(B++[zA (L.cells lx cl e),.cells (p.cells xp),.cells [J X mem,J X w],.cells (ZC ⟨0,0,0,0⟩)])[T B+2]?=Y (.cells [J X mem,J X w]):=cn
 have f3:(B++[zA (L.cells lx cl e),.cells (p.cells xp),.cells [J X mem,J X w],.cells (ZC ⟨0,0,0,0⟩)])[T B+3]?=Y (.cells (ZC ⟨0,0,0,0⟩)):=cn
 have fk:Keep (T B) B (B++[zA (L.cells lx cl e),.cells (p.cells xp),.cells [J X mem,J X w],.cells (ZC ⟨0,0,0,0⟩)]):=Keep.push B (zH _) _;have fl:(B++[zA (L.cells lx cl e),.cells (p.cells xp),.cells [J X mem,J X w],.cells (ZC ⟨0,0,0,0⟩)]).length=T B+4:=cn
 have Q:YN ⟨0,0,0,0⟩=.agg [J X 0,J X 0,J X 0,J X 0]:=rfl;rw[ZlV];unfold Zgo;simp only[b0,b1,b2,go_sem,l3,e3];generalize B++[zA (L.cells lx cl e),.cells (p.cells xp),.cells [J X mem,J X w],.cells (ZC ⟨0,0,0,0⟩)]=H1 at f0 f1 f2 f3 fk fl;have s5:=X6 f1;have sz:Z2 U 2 (.ptr (T B+2) 0) H1=Y (.agg [J X mem,J X w]):=by rw[Yk f2];rfl
 have aa:=Zv9 hx g Z H mem w H1;have z3:=YL (off:=0) (sz:=4) (v:=YN ⟨0,0,0,0⟩) f3 rfl rfl (by simp[ZC])
 cases E:Wb p mem w l != 0 with
 |true =>
  have ag:¬ Wb p mem w l=0:=by simpa using E
  rw[if_neg ag,if_neg ag];have g3:=Zs (zA (splice (ZC ⟨0,0,0,0⟩) 0 (YN ⟨0,0,0,0⟩).cells)) f3;have v3:Z2 U 4 (.ptr (T B+3) 0) (H1.set (T B+3) (.cells (splice (ZC ⟨0,0,0,0⟩) 0 (YN ⟨0,0,0,0⟩).cells)))=Y (YN ⟨0,0,0,0⟩):=by rw[Yk g3];rfl
  rw[Q]at z3 v3;refine⟨H1.set (T B+3) (.cells (splice (ZC ⟨0,0,0,0⟩) 0 (AV.agg [J X 0,J X 0,J X 0,J X 0]).cells)),.nils,by simp only[go_sem,s5,sz,aa,E,z3,v3,Q],.inl ⟨rfl,rfl⟩,fk.trans λi hi=>zB Z,by rw[zG];omega⟩
 |false =>
  have j:Wb p mem w l=0:=by simpa using E
  rw[if_pos j,if_pos j];obtain⟨S,aw,ax,ay,hw2⟩:=Zkk j;obtain⟨A,rfl⟩:∃ A:Nat,w=(A:Int):=⟨w.toNat,Z⟩;rw[zZ]
  -- the numbers
  have n5:(H1++[zA (ZC ⟨0,0,0,0⟩)])[T B+4]?=Y (.cells (ZC ⟨0,0,0,0⟩)):=by rw[<-fl];simp
  have s4:=YL (off:=0) (sz:=4) (v:=YN ⟨0,0,0,0⟩) n5 rfl rfl (by simp[ZC]);have e4:(H1++[zA (ZC ⟨0,0,0,0⟩)]).set (T B+4) (.cells (splice (ZC ⟨0,0,0,0⟩) 0 (YN ⟨0,0,0,0⟩).cells))=H1++[zA (ZC ⟨0,0,0,0⟩)]:=iF n5;rw[e4]at s4;have O:RsAt (H1++[zA (ZC ⟨0,0,0,0⟩)]) (T B) L lx cl e p xp mem A ⟨0,0,0,0⟩:=⟨Y8 f0 _,Y8 f1 _,Y8 f2 _,Y8 f3 _,n5⟩;have ad:Keep (T B) B (H1++[zA (ZC ⟨0,0,0,0⟩)]):=fk.trans (Keep.push H1 Z _);have al:(H1++[zA (ZC ⟨0,0,0,0⟩)]).length=T B+5:=by simp[fl]
  have ez:zA [J X 0,J X 0,J X 0,J X 0]=zA (ZC ⟨0,0,0,0⟩):=rfl;rw[Q]at s4;simp only[go_sem,s5,sz,aa,E,ZjU,fl,ez,s4];generalize H1++[zA (ZC ⟨0,0,0,0⟩)]=H2 at O ad al;have lm:=ZU O.z 0 (v:=J X mem) rfl;obtain⟨ba,c1,c2⟩:=ZpP (mem:=mem) hx g Z H2;obtain⟨F,ab⟩:=Zn6 mem l;have ah:=Zb3 ab;rw[F]at ah
  have ai:∀ c∈Ye mem l,T c<=40/\∀ s∈c,T s<=200:=λc hc=>by
   have u:c.Sublist (Ye mem l).flatten:=List.sublist_flatten_of_mem hc;have ak:(Ye mem l).flatten=l:=F;rw[ak]at u;exact⟨zU u.length_le N,λs hs=>h s (u.subset hs)⟩
  have M:(Ye mem l).length<=40:=by unfold Ye;omega
  obtain⟨ap,H3,w1,w2,w3,w4,w5⟩:=ZpS hav hok H hks S (mem:=mem) (w:=A) c2 M ai x B (Ye mem l) [] [] 0 ⟨0,0,0,0⟩ .nils H2 rfl (λx hx=>by cases hx) (by unfold Ye;rw[F];simp[ZS];omega) (by simp;omega) (.inl ⟨rfl,rfl⟩) O ad Z;have af:=c2.len 29;have d1:=Vb w3.n 0 (v:=J X ((Ye mem l).length:Int)) rfl rfl (by simp[ZC])
  have d2:(ZC ⟨0,(wT L p [] 0 ⟨0,0,0,0⟩ (Ye mem l)).m,(wT L p [] 0 ⟨0,0,0,0⟩ (Ye mem l)).y,(wT L p [] 0 ⟨0,0,0,0⟩ (Ye mem l)).k⟩).set 0 (J X ((Ye mem l).length:Int))=ZC (B7 L p (Ye mem l)).st:=by
   have h1:=(Zyq L p (Ye mem l) [] 0 ⟨0,0,0,0⟩).1;show _=ZC (wT L p [] 0 ⟨0,0,0,0⟩ (Ye mem l));generalize wT L p [] 0 ⟨0,0,0,0⟩ (Ye mem l)=t at h1;have h2:t.r=((Ye mem l).length:Int):=by rw[h1];show (0:Int)+_=_;omega
   unfold ZC;rw[h2];rfl
  rw[d2]at d1;have R:=w3.set (B7 L p (Ye mem l)).st;have ac:=w2.set (i:=T B+4) Z (.cells (ZC (B7 L p (Ye mem l)).st));have ae:Keep (T B) B (H3.set (T B+4) (.cells (ZC (B7 L p (Ye mem l)).st))):=w4.trans λi hi=>zB Z;have am:(H3.set (T B+4) (.cells (ZC (B7 L p (Ye mem l)).st))).length=T H3:=zG ..;generalize H3.set (T B+4) (.cells (ZC (B7 L p (Ye mem l)).st))=H4 at d1 R ac ae am;have hI:=ZlJ (L:=L) (p:=p) F ab N h;obtain⟨H5,u1,u2,u3,u4⟩:=Zom hav hok H hks S (mem:=mem) (w:=A) Z Z x B 40 (B7 L p (Ye mem l)) ap H4 hI.len hI (Zvt M) ac R ae Z;have l6:=Qd u2.l;have l5:=X6 u2.s;obtain⟨y,r1,r2⟩:=ZiN hav hok H hks hx g Z H5;have l4:Z2 U 4 (.ptr (T B+4) 0) H5=Y (YN (Gi L p mem A l)):=by rw[Yk u2.n];rfl
  have ao:=YL (off:=0) (sz:=4) (v:=YN (Gi L p mem A l)) u2.o rfl rfl (by simp[ZC]);have g3:=Zs (zA (splice (ZC ⟨0,0,0,0⟩) 0 (YN (Gi L p mem A l)).cells)) u2.o;have v3:Z2 U 4 (.ptr (T B+3) 0) (H5.set (T B+3) (.cells (splice (ZC ⟨0,0,0,0⟩) 0 (YN (Gi L p mem A l)).cells)))=Y (YN (Gi L p mem A l)):=by rw[Yk g3];rfl
  refine⟨H5.set (T B+3) (.cells (splice (ZC ⟨0,0,0,0⟩) 0 (YN (Gi L p mem A l)).cells)),y,?_,r2,u3.trans λi hi=>zB Z,by rw[zG];omega⟩;have an:((([]:List (List Zi)).length:Nat):Int)=0:=rfl;rw[an]at w1;have aj:((Ty (ZV cS mem l)).length:Int)=((Ye mem l).length:Int):=rfl;simp only[lm,go_sem,zM,c1,w1,ZjV,af,aj,d1,u1,ZjW,l6,l5,r1,l4,ao,v3,j]
theorem ZpU {x y:AV}{l:List Zi}(M:SS x l)(N:SS y l)(hl:T l<=1048576)(H0 H:Hp):∀ (r d:List Zi),l=d++r->NM x y (J X (T d:Int)) H0 H=Y (.bool U,H):=by
 have F:=SS.len M 9;intro r
 induction r with
 |nil =>
  intro d h;rw[zI]at h;subst h;have g:decide ((T l:Int)<(T l:Int))=I:=cn
  rw[aX];simp only[go_sem,F,g,Zjy]
 |cons s r O =>
  intro d h;have E:T l=T d+(T r+1):=by rw[h];simp
  have g:decide ((T d:Int)<(T l:Int))=U:=by rw[decide_eq_true_eq];omega
  have j:l[T d]?=Y s:=by rw[h,zE (zH _)];simp
  have u:=SS.idx M j;have z:=SS.idx N j;have B:yP.wrap ((T d:Int)+1)=((d++[s]).length:Int):=by rw[Zo Z Z];simp
  have A:(s==s)=U:=beq_self_eq_true _;have:=O (d++[s]) (by rw[h];simp);rw[aX];simp only[go_sem,F,g,Zjz,u,z,Zu,A,Bool.not_true,ZjA,B];exact this
theorem ZpT {x y:AV}{l:List Zi}(B:SS x l)(E:SS y l)(hl:T l<=1048576)(H:Hp):Ze dY [x,y] H=Y (.bool U,H):=by
 obtain⟨M,u,h⟩:=SS.closed B [] 0 7;obtain⟨N,F,j⟩:=SS.closed E [] 0 7;have A:=SS.len h 9;have z:=SS.len j 9;have g:((T l:Int) != (T l:Int))=I:=cn
 refine Xi (args':=[M,N]) (H1:=[]) (by rw[yE,u,yE,F];rfl) ?_ rfl;rw[ZlO];unfold Zgc;simp only[go_sem,A,z,g,Zjx];exact ZpU h j hl [] [] l [] rfl
end Go.Am
