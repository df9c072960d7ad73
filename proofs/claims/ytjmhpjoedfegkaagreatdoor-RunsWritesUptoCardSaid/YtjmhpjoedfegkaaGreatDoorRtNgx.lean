/- The reference's store in the machine -/
import Derived.Test.YtjmhpjoedfegkaaGreatDoorRwQcx
import Derived.Test.YtjmhpjoedfegkaaGreatDoorRwQbx
open Option renaming some->K,none->U
open Bool renaming true->I,false->Y
open List renaming length->N
open Go.dw renaming b5->X
open Go.Am.AV renaming int->Q
open Go.IntKind renaming i64->J
open Go.IntKind renaming i64->yN
open List renaming getElem?_cons_zero->zA,getElem?_cons_succ->zB,mem_append->zE,getElem?_append_right->zF,length_singleton->zG,mem_singleton->zH,length_append->zK,set->zL,nodup_cons->zO,nodup_append->zP,append_nil->zR,getElem?_set_ne->zT,append_assoc->zV,mem_append_right->zX,length_map->zY,mem_cons->yA,length_cons->yB,length_take->yC,nil_append->yD,length_filter_le->yE,mem_append_left->yH,length_drop->yJ,mem_filter->yL
open Nat renaming zero_add->zC,le_succ_of_le->zJ,le_refl->zM,lt_of_le_of_lt->zQ,div_le_self->zS,mod_eq_of_lt->zW,add_zero->yM
open Bool renaming false_eq_true->zN,not_false->yF,false_and->yG,not_true->yI,not_eq_true->yK
open Int renaming toNat_natCast->zU,fdiv_eq_ediv_of_nonneg->zZ
open UInt8 renaming ofNat->zI
open Go.Am.AObj renaming cells->zD
namespace Go.Am
set_option linter.unusedSectionVars false
set_option maxRecDepth 100000
theorem RfAt.file {H:Hp}{r:Nat}{x:AV}{s s':Sto}(h:RfAt H r x s){i:Nat}{f g:Fil}{o e:Nat}(w:x=.ws I 3 o e (ZH s.files).length)(z:H[o]?=K (.row e (Xp (ZH s.files))))(y:ZH s'.files=(ZH s.files).set i g)(hs:s'.limit=s.limit/\s'.peak=s.peak/\s'.crashed=s.crashed/\s'.count=s.count) :
 RfAt (H.set o (.row e (Xp ((ZH s.files).set i g)))) r x s'/\Stp [o] H (H.set o (.row e (Xp ((ZH s.files).set i g)))):=by
 have u:r≠o:=λj=>h.nr (by rw[w];simp[XE,j]);refine⟨⟨?_,?_,h.nr⟩,Stp.set _ _ dh⟩
 ·rw[zT (λj=>u j.symm),h.cells];simp only[V3,hs.1,hs.2.1,hs.2.2.1,hs.2.2.2]
 ·rw[y];exact .inr ⟨o,e,by rw[w,List.length_set],Zu _ z⟩
theorem RfAt.row_res {H H1 H':Hp}{r o:Nat}{x:AV}{s':Sto}(h:RfAt H' r x s')(u:Stp [r] H H1)(w:Stp [o] H1 H')(y:o∈XE x):RefRes H H' r s' (r::XE x) (r::XE x) :=
 ⟨⟨x,h,rfl⟩,u.trans w (λa j=>by rw[zH.1 j];simp) λa j=>.inl (by rw[zH.1 j];simp[y]),λa j=>.inl j⟩
theorem Zus {H:Hp}{r:Nat}{s:Sto}{A:dv}(h:RefAt H r s A)(hk:ROk s)(n:Zj) :
 ∃ H' G,R7 [.ptr r 0,.str n] H=K (Q J (s.sync n).1,H')/\RefRes H H' r (s.sync n).2 A G:=by
 obtain⟨x,h,rfl⟩:=h;obtain⟨v,e,H1,C,w,D,q4⟩:=SZ h hk n;rw[nP];unfold Cz Sto.sync;rcases q4 with ⟨j,rfl⟩|⟨j,L,rfl⟩|⟨j,rfl,i,f,rfl,c3,M,O,c6,P⟩
 ·have u:((19:Int) != 0)=I:=rfl;rw[if_pos j];exact⟨H1,_,by simp only[C,go_sem,zA,zB,u],w.res D⟩
 ·have u:((5:Int) != 0)=I:=rfl;rw[if_neg (by simp[j]),L];exact⟨H1,_,by simp only[C,go_sem,zA,zB,u],w.res D⟩
 ·have u:((0:Int) != 0)=Y:=rfl;rw[if_neg (by simp[j]),M];have Z:=ZZ w.cells 1 (v:=x) rfl;have hi:(ZH s.tick.files)[i]?=K f:=by rw[Yh];exact O
  obtain⟨o,e,F,E,S,i0,R,i2,ia⟩:=w.files.idx hi;have y:Zf .string (.str f.text)=K (Q J (N f.text:Int)):=rfl;have B:=FsAt.put E hi 2 (v:=Q J (N f.text:Int)) rfl 1 rfl X (g:={ f with syn:=N f.text }) rfl
  have z:ZH ({ s.tick with files:=Y9 s.files n λf=>{ f with syn:=N f.text } }:Sto).files=(ZH s.tick.files).set i { f with syn:=N f.text }:=by
   show ZH (Y9 s.files n _)=_;rw[iV hk.nd n (λf=>{ f with syn:=N f.text }) (λ_=>rfl),P,Yh]
  obtain⟨T,k2⟩:=w.file (s':={ s.tick with files:=Y9 s.files n λf=>{ f with syn:=N f.text } }) F E z ⟨rfl,rfl,rfl,rfl⟩ (f:=f);refine⟨_,_,?_,RfAt.row_res T D k2 (by rw[F];simp[XE])⟩;simp only[C,go_sem,zA,zB,u,gL,zC,Z,S,R,y,B]
theorem Zs2 {x:AV}{fs:List Fil}(F:Sl 3 x (fs.map ZL))(O:N fs<=64)(P:Zs fs<=262144)(G H:Hp):∀ (q d:List Fil),fs=d++q ->
 J1 (Q J (Zs d:Int)) x (Q J (N d:Int)) G H=K (Q J (Zs fs:Int),H):=by
 have y:∀ t,Zf (.slice t) x=K (Q J (N fs:Int)):=λt=>by have:=Sl.len F t;rwa [zY]at this
 intro q
 induction q with
 |nil =>
  intro d j;rw[zR]at j;subst j;have u:decide ((N fs:Int)<(N fs:Int))=Y:=dh
  rw[TM];simp only[go_sem,y,u,gM]
 |cons f q M =>
  intro d j;have E:N fs=N d+(N q+1):=by rw[j];simp
  have u:decide ((N d:Int)<(N fs:Int))=I:=by simp;omega
  have C:yN.wrap ((N d:Int)+1)=((N d+1:Nat):Int):=by rw[Zl X X];omega
  have hi:fs[N d]?=K f:=by rw[j,zF (zM _)];simp
  have w:Zr 3 x (Q J (N d:Int))=K (.vp (ZL f).cells):=Sl.idx F (c:=ZL f) (by simp[hi]);have z:Z6 1 (.vp (ZL f).cells)=K (.vp [Q J (N f.text:Int),Q J (f.syn:Int)]):=rfl;have B:Z4 Y 1 (.vp [Q J (N f.text:Int),Q J (f.syn:Int)]) H=K (Q J (N f.text:Int)):=rfl;have L:Zs fs=Zs d+(N f.text+Zs q):=by rw[j,Ug];rfl
  have D:yN.wrap ((Zs d:Int)+(N f.text:Int))=((Zs (d++[f]):Nat):Int):=by
   rw[Zl X X,Ug];simp[Zs]
  have k:=M (d++[f]) (by rw[j];simp);rw[zK,zG]at k;rw[TM];simp only[go_sem,y,u,gN,w,z,B,D,gO,C];exact k
theorem Znz {H:Hp}{r:Nat}{s:Sto}{A:dv}(h:RefAt H r s A)(hk:ROk s):Ve Um [.ptr r 0] H=K (Q J (Zs s.files:Int),H):=by
 obtain⟨x,u,w⟩:=Ar h hk;have j:=Zii hk.nd;have hs:=hk.sto.used;have y:=hk.sto.limit;refine Qx (H1:=H) (v:=Q J (Zs s.files:Int)) ?_ (Keep.refl _ _) (zM _) rfl;rw[nQ];unfold CA;have:=Zs2 w hk.len X H H (ZH s.files) [] rfl;rw[j]at this;simp only[u,go_sem];exact this
theorem Zpa {H:Hp}{r:Nat}{s:Sto}{A:dv}(h:RefAt H r s A)(hk:ROk s)(n t:Zj)(ht:N t<=1048576) :
 ∃ H' A',GL [.ptr r 0,.str n,.str t] H=K (Q J (s.append n t).1,H')/\RefRes H H' r (s.append n t).2 A A':=by
 obtain⟨x,h,rfl⟩:=h;obtain⟨v,e,H1,Z,w,q3,q4⟩:=SZ h hk n;rw[bP];unfold ME Sto.append;rcases q4 with ⟨C,rfl⟩|⟨C,c2,rfl⟩|⟨C,rfl,i,f,rfl,c3,T,c5,c6,c7⟩
 ·have D:((19:Int) != 0)=I:=rfl;rw[if_pos C];exact⟨H1,_,by simp only[Z,go_sem,zA,zB,D],w.res q3⟩
 ·have D:((5:Int) != 0)=I:=rfl;rw[if_neg (by simp[C]),c2];exact⟨H1,_,by simp only[Z,go_sem,zA,zB,D],w.res q3⟩
 ·have D:((0:Int) != 0)=Y:=rfl;rw[if_neg (by simp[C]),T];dsimp only;have M:RefAt H1 r s.tick (r::XE x):=⟨x,w,rfl⟩;have z:=Znz M hk.tick;rw[Yh]at z;have aj:=hk.sto.used;have ag:=hk.sto.limit;have ac:=hk.sto.peak;have l0:=ZZ w.cells 0 (v:=Q J (s.tick.limit:Int)) rfl;rw[C8]at l0;have hw0:yN.wrap ((s.limit:Int)-(Zs s.files:Int))=(s.limit:Int)-(Zs s.files:Int):=Zl X X;have L:Zf .string (.str t)=K (Q J (N t:Int)):=rfl;by_cases u:s.limit<Zs s.files+N t
  ·have d1:decide ((s.limit:Int)-(Zs s.files:Int)<(N t:Int))=I:=by simp;omega
   rw[if_pos u];exact⟨H1,_,by simp only[Z,go_sem,zA,zB,D,DZ,L,zC,l0,z,hw0,d1],w.res q3⟩
  ·have d1:decide ((s.limit:Int)-(Zs s.files:Int)<(N t:Int))=Y:=by simp;omega
   rw[if_neg u];have l1:=ZZ w.cells 1 (v:=x) rfl;have hi:(ZH s.tick.files)[i]?=K f:=by rw[Yh];exact c5
   obtain⟨o,e,hx,ho,ix,i0,i1,i2,ia⟩:=w.files.idx hi
   have ai:N f.text<=Zs s.files:=by
    obtain⟨a,b,e',_⟩:=VY T;rw[e',XG];omega
   have F:Y1 .add (.str f.text) (.str t)=K (.str (f.text++t)):=Vc X;have R:=FsAt.put ho hi 1 (v:=.str (f.text++t)) rfl 1 rfl X (g:={ f with text:=f.text++t }) rfl
   have aa:ZH ({ s.tick with files:=Y9 s.files n λf=>{ f with text:=f.text++t } }:Sto).files=(ZH s.tick.files).set i { f with text:=f.text++t }:=by
    show ZH (Y9 s.files n _)=_;rw[iV hk.nd n (λf=>{ f with text:=f.text++t }) (λ_=>rfl),c7,Yh]
   obtain⟨E,k2⟩:=w.file (s':={ s.tick with files:=Y9 s.files n λf=>{ f with text:=f.text++t } }) hx ho aa ⟨rfl,rfl,rfl,rfl⟩ (f:=f);generalize ah:H1.set o (.row e (Xp ((ZH s.tick.files).set i { f with text:=f.text++t })))=B at R E k2;have j:=ZhA hk n t
   have G:(s.append n t).2={ s.tick with files:=Y9 s.files n λf=>{ f with text:=f.text++t },peak:=max s.peak (Zs s.files+N t) }:=by
    unfold Sto.append;rw[if_neg (by simp[C]),T];dsimp only;rw[if_neg u]
   rw[G]at j
   have af:Zs (Y9 s.files n λf=>{ f with text:=f.text++t })=Zs s.files+N t:=by
    obtain⟨a,b,e',_,_,e4,_⟩:=VY T;rw[e4,e',XG,XG];simp;omega
   have P:ROk { s.tick with files:=Y9 s.files n λf=>{ f with text:=f.text++t } }:=⟨⟨j.sto.limit,j.sto.used,by show s.tick.peak<=s.tick.limit;rw[Ow,C8];exact ac,j.sto.name,j.sto.nd,j.sto.syn,j.sto.len,j.sto.count⟩,j.cnt⟩;have O:RefAt B r { s.tick with files:=Y9 s.files n λf=>{ f with text:=f.text++t } } (r::XE x):=⟨x,E,rfl⟩;have ae:=Znz O P;have S:Ve Um [.ptr r 0] B=K (Q J ((Zs s.files+N t:Nat):Int),B):=by rw[ae];rw[show Zs ({ s.tick with files:=Y9 s.files n λf=>{ f with text:=f.text++t } }:Sto).files=Zs s.files+N t from af]
   have p2:=ZZ E.cells 2 (v:=Q J (s.tick.peak:Int)) rfl;rw[Ow]at p2;have ab:max (s.peak:Int) ((Zs s.files+N t:Nat):Int)=((max s.peak (Zs s.files+N t):Nat):Int):=X
   have s2:=Wp E.cells 2 (v:=Q J ((max s.peak (Zs s.files+N t):Nat):Int)) rfl rfl (by simp[V3]);have g2:=Zu (zD (zL (V3 x { s.tick with files:=Y9 s.files n λf=>{ f with text:=f.text++t } }) 2 (Q J ((max s.peak (Zs s.files+N t):Nat):Int)))) E.cells;have k3:=E.cell (s':={ s.tick with files:=Y9 s.files n λf=>{ f with text:=f.text++t },peak:=max s.peak (Zs s.files+N t) }) (Stp.set B _ (zH.2 rfl)) g2 rfl;refine⟨_,r::XE x,?_,⟨⟨x,k3,rfl⟩,?_,λa y=>.inl y⟩⟩
   ·simp only[Z,go_sem,zA,zB,D,DZ,L,zC,l0,z,hw0,d1,OY,l1,ix,i1,F,R,p2,S,ab,s2]
   ·have ad:o∈XE x:=by rw[hx];simp[XE]
    have w1:Stp (r::XE x) H B:=q3.trans k2 (λa y=>by rw[zH.1 y];simp) λa y=>.inl (by rw[zH.1 y];simp[ad]);exact w1.trans (Stp.set (A:=[r]) B _ dh) (λ_ h=>h) λa y=>.inl (by rw[zH.1 y];simp)
theorem Zur {H:Hp}{r:Nat}{s:Sto}{A:dv}(h:RefAt H r s A)(hk:ROk s)(n:Zj)(i k:Int)(hi:-9223372036854775808<=i/\i<=9223372036854775807)(ab:0<=k/\k<=1048576) :
 ∃ H',R4 [.ptr r 0,.str n,Q J i,Q J k] H=K (.tuple [.str (s.read n i k).1,Q J (s.read n i k).2],H')/\RefRes H H' r s.tick A A:=by
 obtain⟨x,h,rfl⟩:=h;obtain⟨v,e,H1,B,w,C,q4⟩:=SZ h hk n;rw[nO];unfold Cy Sto.read;rcases q4 with ⟨y,rfl⟩|⟨y,c2,rfl⟩|⟨y,rfl,j,f,rfl,c3,T,c5,c6,c7⟩
 ·have u:((19:Int) != 0)=I:=rfl;rw[if_pos y];exact⟨H1,by simp only[B,go_sem,zA,zB,u],w.res C⟩
 ·have u:((5:Int) != 0)=I:=rfl;rw[if_neg (by simp[y]),c2];exact⟨H1,by simp only[B,go_sem,zA,zB,u],w.res C⟩
 ·have u:((0:Int) != 0)=Y:=rfl;rw[if_neg (by simp[y]),T];dsimp only;have S:=ZZ w.cells 1 (v:=x) rfl;have F:(ZH s.tick.files)[j]?=K f:=by rw[Yh];exact c5
  obtain⟨o,e,hx,ho,R,i0,P,i2,ia⟩:=w.files.idx F
  have aa:N f.text<=Zs s.files:=by
   obtain⟨a,b,e',_⟩:=VY T;rw[e',XG];omega
  have ac:=hk.sto.used;have Z:=hk.sto.limit;have z:Zf .string (.str f.text)=K (Q J (N f.text:Int)):=rfl;have G:decide (k<0)=Y:=by simp;omega
  by_cases D:i<0
  ·rw[if_pos (.inl D)];exact⟨H1,by simp only[B,go_sem,zA,zB,u,K1,zC,S,R,P,decide_eq_true D],w.res C⟩
  ·by_cases E:(N f.text:Int)<i
   ·rw[if_pos (.inr (.inl E))];exact⟨H1,by simp only[B,go_sem,zA,zB,u,K1,zC,S,R,P,decide_eq_false D,z,decide_eq_true E],w.res C⟩
   ·rw[if_neg X];have M:yN.wrap ((N f.text:Int)-i)=(N f.text:Int)-i:=Zl X X;have O:yN.wrap (i+min k ((N f.text:Int)-i))=i+min k ((N f.text:Int)-i):=Zl X X
    have L:ZR (.str f.text) (K (Q J i)) (K (Q J (i+min k ((N f.text:Int)-i)))) U=K (.str ((f.text.drop i.toNat).take k.toNat)):=by
     rw[VV .i64 .i64 X X X];congr 2;rw[List.drop_take,List.take_eq_take_iff,yJ];omega
    exact⟨H1,by simp only[B,go_sem,zA,zB,u,K1,zC,S,R,P,decide_eq_false D,z,decide_eq_false E,G,gK,M,O,L],w.res C⟩
theorem ZkU {H:Hp}{r:Nat}{s:Sto}{A:dv}(h:RefAt H r s A)(n:Int) :
 ∃ H',Vw [.ptr r 0,Q J n] H=K (.tuple [],H')/\RefRes H H' r (s.fail n) A A:=by
 obtain⟨x,h,rfl⟩:=h;have j:∀ u,Y5 (.pointer u) .neq (.ptr r 0) .nilp=K (.bool I):=λ_=>rfl;have y:=ZZ h.cells 3 (v:=.bool s.crashed) rfl;rw[Cv];unfold RE Sto.fail;by_cases w:s.crashed=I
 ·rw[w]at y;rw[if_pos w];refine⟨H,?_,h.res (Stp.refl _ _)⟩;simp only[j,go_sem,zC,y,yI]
 ·rw[yK]at w;rw[w]at y;rw[if_neg (by simp[w])];have B:(((max n 0).toNat:Nat):Int)=max 0 n:=X
  have C:=Wp h.cells 4 (v:=Q J (max 0 n)) rfl rfl (by simp[V3]);have g:=Zu (zD (zL (V3 x s) 4 (Q J (max 0 n)))) h.cells;have z:Stp [r] H (H.set r (.cells (zL (V3 x s) 4 (Q J (max 0 n))))):=Stp.set _ _ dh;refine⟨_,?_,(h.cell (s':={ s with count:=(max n 0).toNat }) z (by rw[g];simp only[V3,B];rfl) rfl).res z⟩;simp only[j,go_sem,zC,y,yF,C]
theorem Zx6 (k i:Nat)(hi:i<=64):Z2 .rem (Q J (i:Int)) (Q J 8)=K (Q J ((i % 8:Nat):Int))/\Z2 .mul (Q J 8) (Q J ((i % 8:Nat):Int))=K (Q J ((8*(i % 8):Nat):Int)) /\
 Z2 .shr (.int .u64 (k:Int)) (Q J ((8*(i % 8):Nat):Int))=K (.int .u64 ((k / 2 ^ (8*(i % 8)):Nat):Int))/\Z2 .rem (.int .u64 ((k / 2 ^ (8*(i % 8)):Nat):Int)) (.int .u64 256)=K (.int .u64 ((Vj k i:Nat):Int)) /\
 ZS .i64 (.int .u64 ((Vj k i:Nat):Int))=K (Q J ((Vj k i:Nat):Int))/\Vj k i<256:=by
 have j:Vj k i<256:=Nat.mod_lt _ di;refine⟨ZA9 i,?_,?_,?_,?_,j⟩
 ·have:yN.wrap (8*((i % 8:Nat):Int))=((8*(i % 8):Nat):Int):=by rw[Zl X X];omega
  simp only[go_sem,this]
 ·have u:min (8*(i % 8)) IntKind.u64.bits=8*(i % 8):=Nat.min_eq_left (by show 8*(i % 8)<=64;omega);rw[Bk];unfold QN;rw[u,zZ _ (Int.pow_nonneg di)];have:(2:Int) ^ (8*(i % 8))=((2 ^ (8*(i % 8)):Nat):Int):=dh
  rw[this,<-Int.natCast_ediv]
 ·unfold Z2 X6;simp only[if_true,X8];rw[if_neg X];congr 2
 ·unfold ZS;dsimp only;rw[Zl X X]
theorem ZlK {r:Nat}{x:AV}{lim pk:Nat}{o:Nat}(k:Nat)(H0:Hp):∀ (q d:List Fil) (H:Hp) (e:Nat),N d+N q<=64->(∀ f∈q,f.syn<=N f.text/\N f.text<=262144)->r≠o->x=.ws I 3 o e (N d+N q) ->
 (∃ L M:AV,H[r]?=K (.cells [Q J (lim:Int),x,Q J (pk:Int),L,M]))->H[o]?=K (.row e (Xp (d++q))) ->
 ∃ H',WC (.ptr r 0) (.int .u64 (k:Int)) (Q J (N d:Int)) H0 H=K (.tuple [],H')/\H'[o]?=K (.row e (Xp (d++Pa k (N d) q)))/\Stp [o] H H':=by
 intro q
 induction q with
 |nil =>
  intro d H e hl hq w C ⟨L,M,hr⟩ ho;have l1:=ZZ hr 1 (v:=x) rfl;have j:∀ t,Zf (.slice t) x=K (Q J (N d:Int)):=λt=>by rw[C];rfl
  have u:decide ((N d:Int)<(N d:Int))=Y:=dh
  refine⟨H,?_,ho,Stp.refl _ _⟩;rw[UX];simp only[go_sem,zC,l1,j,u]
 |cons f q ih =>
  intro d H e hl hq w C ⟨L,M,hr⟩ ho;simp only[yB]at hl C;obtain⟨ag,ah⟩:=hq f dh;have l1:=ZZ hr 1 (v:=x) rfl;have j:∀ t,Zf (.slice t) x=K (Q J ((N d+(N q+1):Nat):Int)):=λt=>by rw[C];rfl
  have u:decide ((N d:Int)<((N d+(N q+1):Nat):Int))=I:=by simp;omega
  have ad:yN.wrap ((N d:Int)+1)=((N d+1:Nat):Int):=by rw[Zl X X];omega
  have P:(d++f::q).length=N d+(N q+1):=dh
  have hi:(d++f::q)[N d]?=K f:=by rw[zF (zM _)];simp
  have T:FsAt H x (d++f::q):=.inr ⟨o,e,by rw[P];exact C,ho⟩;obtain⟨o',e',G,af,ix,i0,i1,i2,ia⟩:=T.idx hi;rw[C]at G;injection G with _ _ h1 h2 _;subst h1;subst h2;obtain⟨m1,m2,m3,m4,m5,m6⟩:=Zx6 k (N d) X
  -- the file is held in a cell of its own
  have Z:(H++[zD [(.str []),(.str []),(Q J 0)]])[N H]?=K (.cells [(.str []),(.str []),(Q J 0)]):=dh
  have s0:Zg 3 (.ptr (N H) 0) (.agg (Ys f)) (H++[zD [(.str []),(.str []),(Q J 0)]])=K (.tuple [],H++[zD (Ys f)]):=by
   rw[Uc (v:=.agg (Ys f)) (sz:=3) Z rfl rfl dh];simp[splice,Ys,AV.cells]
  have O:(H++[zD (Ys f)])[N H]?=K (.cells (Ys f)):=dh
  have n1:=ZZ O 1 (v:=.str f.text) rfl;have n2:=ZZ O 2 (v:=Q J (f.syn:Int)) rfl;have S:∀ t:Zj,Zf .string (.str t)=K (Q J (N t:Int)):=λ_=>rfl;have ae:yN.wrap ((f.syn:Int)+((Vj k (N d):Nat):Int))=((f.syn+Vj k (N d):Nat):Int):=by rw[Zl X X];omega
  generalize hz:f.syn+min (Vj k (N d)) (N f.text-f.syn)=z;have D:YF k (N d) f=⟨f.name,f.text.take z,z⟩:=by unfold YF;rw[hz]
  have ai:z<=N f.text:=X
  have aa:min (N f.text:Int) ((f.syn+Vj k (N d):Nat):Int)=(z:Int):=X
  have ab:ZR (.str f.text) U (K (Q J (z:Int))) U=K (.str (f.text.take z)):=by
   rw[BG .i64 X X,zU]
  have s1:=Wp O 1 (v:=.str (f.text.take z)) rfl rfl (by simp[Ys]);have y:(H++[zD (Ys f)]).set (N H) (.cells (zL (Ys f) 1 (.str (f.text.take z))))=H++[zD [.str f.name,.str (f.text.take z),Q J (f.syn:Int)]]:=by simp[Ys]
  rw[y]at s1;have g2:(H++[zD [.str f.name,.str (f.text.take z),Q J (f.syn:Int)]])[N H]?=K (.cells [.str f.name,.str (f.text.take z),Q J (f.syn:Int)]):=dh
  have n3:=ZZ g2 1 (v:=.str (f.text.take z)) rfl;have ac:((f.text.take z).length:Int)=(z:Int):=by rw[yC];omega
  have s2:=Wp g2 2 (v:=Q J (z:Int)) rfl rfl dh;have B:(H++[zD [.str f.name,.str (f.text.take z),Q J (f.syn:Int)]]).set (N H) (.cells (zL [.str f.name,.str (f.text.take z),Q J (f.syn:Int)] 2 (Q J (z:Int))))=H++[zD (Ys (YF k (N d) f))]:=by rw[D];simp[Ys]
  rw[B]at s2;have g3:(H++[zD (Ys (YF k (N d) f))])[N H]?=K (.cells (Ys (YF k (N d) f))):=dh
  have n4:Z4 I 3 (.ptr (N H) 0) (H++[zD (Ys (YF k (N d) f))])=K (.agg (Ys (YF k (N d) f))):=by rw[Wg g3];rfl
  have F:=XC hr [zD (Ys (YF k (N d) f))];have E:=XC ho [zD (Ys (YF k (N d) f))];have l3:=ZZ F 1 (v:=x) rfl;have s3:=FsAt.put E hi 0 (v:=.agg (Ys (YF k (N d) f))) rfl 3 rfl X (g:=YF k (N d) f) rfl;rw[yM,ZpL]at s3;obtain⟨H',k1,k2,k3⟩:=ih (d++[YF k (N d) f]) ((H++[zD (Ys (YF k (N d) f))]).set o (.row e (Xp (d++YF k (N d) f::q)))) e (by simp;omega) (λg hg=>hq g (by simp[hg])) w (by rw[C];simp;omega) ⟨L,M,YX _ (λe=>w e.symm) F⟩ (by rw[Zu _ E];simp);rw[zK,zG]at k1 k2;refine⟨H',?_,by rw[k2,Pa,zV];rfl,?_⟩
  ·rw[UX];simp only[go_sem,zC,l1,j,u,Ib,m1,m2,m3,m4,m5,ix,ia,s0,n1,n2,S,ae,aa,ab,s1,n3,ac,s2,l3,n4,s3,Ic,ad];exact k1
  ·have w1:Stp [o] H (H++[zD (Ys (YF k (N d) f))]):=Stp.push _ _;have w2:=w1.trans (Stp.set (A:=[o]) (o:=o) (H++[zD (Ys (YF k (N d) f))]) (.row e (Xp (d++YF k (N d) f::q))) dh) (λ_ h=>h) λa R=>.inl R;exact w2.trans k3 (λ_ h=>h) λa R=>.inl R
theorem Znv {H:Hp}{r:Nat}{s:Sto}{A:dv}(h:RefAt H r s A)(hk:ROk s)(k:Nat) :
 ∃ H',UH [.ptr r 0,.int .u64 (k:Int)] H=K (.tuple [],H')/\RefRes H H' r (s.restart k) A A:=by
 obtain⟨x,h,rfl⟩:=h;have z:∀ u,Y5 (.pointer u) .eql (.ptr r 0) .nilp=K (.bool Y):=λ_=>rfl;have s3:=Wp h.cells 3 (v:=.bool Y) rfl rfl (by simp[V3]);have E:=Zu (zD (zL (V3 x s) 3 (.bool Y))) h.cells;have s4:=Wp E 4 (v:=Q J 0) rfl rfl (by simp[V3]);have y:=Zu (zD (zL (zL (V3 x s) 3 (.bool Y)) 4 (Q J 0))) E;generalize F:H.set r (.cells (zL (V3 x s) 3 (.bool Y)))=H1 at s3 E s4 y;generalize G:H1.set r (.cells (zL (zL (V3 x s) 3 (.bool Y)) 4 (Q J 0)))=C at s4 y
 have L:Stp [r] H C:=by
  rw[<-G,<-F];exact (Stp.set _ _ dh).trans (Stp.set _ _ dh) (λ_ h=>h) λ_ h=>.inl h
 have h2:=h.cell (s':={ s with crashed:=Y,count:=0 }) L y rfl;have w:=ZlD (s:=s) hk.nd k;have T:=hk.sto.used;have aa:=hk.sto.limit
 have S:∀ f∈ZH s.files,f.syn<=N f.text/\N f.text<=262144:=λf hf=>by
  have hm:=ZbZ hf;obtain⟨a,b,e⟩:=List.append_of_mem hm;refine⟨hk.sto.syn f hm,?_⟩;rw[e,XG]at T;omega
 have j:UH [.ptr r 0,.int .u64 (k:Int)] H=WC (.ptr r 0) (.int .u64 (k:Int)) (Q J 0) H C:=by
  rw[OK];unfold PC;simp only[z,go_sem,Ia,zC,s3,s4]
 rcases h2.files with ⟨rfl,R⟩|⟨o,e,D,ho⟩
 ·have R:ZH s.files=[]:=R;have l1:=ZZ h2.cells 1 (v:=.nils) rfl;have M:∀ t,Zf (.slice t) .nils=K (Q J 0):=λ_=>rfl;have P:decide ((0:Int)<0)=Y:=rfl;refine⟨C,?_,RfAt.res ⟨y,.inl ⟨rfl,by rw[w,R];rfl⟩,h.nr⟩ L⟩;rw[j,UX];simp only[go_sem,zC,l1,M,P]
 ·have B:r≠o:=λe'=>h.nr (by rw[D];simp[XE,e']);have Z:x=.ws I 3 o e (([]:List Fil).length+(ZH s.files).length):=by rw[D];simp
  obtain⟨H',k1,k2,k3⟩:=ZlK (r:=r) (x:=x) (lim:=s.limit) (pk:=s.peak) (o:=o) k H (ZH s.files) [] C e (by have:=hk.len;simpa using this) S B Z ⟨_,_,y⟩ ho;simp only[List.length_nil,yD]at k1 k2
  have O:(Pa k 0 (ZH s.files)).length=(ZH s.files).length:=by
   have:∀ (l:List Fil) i,(Pa k i l).length=N l:=λl=>by
    induction l with
    |nil=>intro i;rfl
    |cons f l ih=>intro i;simp[Pa,ih]
   exact this _ _
  have h5:RfAt H' r x (s.restart k):=⟨k3.get y (by simpa using B),.inr ⟨o,e,by rw[w,O];exact D,by rw[w];exact k2⟩,h.nr⟩;exact⟨H',by rw[j];exact k1,RfAt.row_res h5 L k3 (by rw[D];simp[XE])⟩
theorem ZrG (m n:Nat)(j:0<n):Z2 .rem (Q J (m:Int)) (Q J (n:Int))=K (Q J ((m % n:Nat):Int)):=by
 unfold Z2 X6;simp only[if_true,X8];rw[if_neg X,Int.ofNat_tmod]
theorem Zrw (m n:Nat)(u:0<n)(hm:m<=9223372036854775807):Z2 .quo (Q J (m:Int)) (Q J (n:Int))=K (Q J ((m / n:Nat):Int)):=by
 unfold Z2 X6;simp only[if_true,X8];have:=zS m n;have j:((m:Int).tdiv (n:Int))=((m / n:Nat):Int):=(Int.ofNat_tdiv m n).symm;generalize m / n=z at this j;rw[if_neg X,j,Zl X X]
def Zbs (m:Nat):Zj:=if m=0 then [] else Go.Lib.itoa (m:Int)
theorem Ztf {m:Nat}(h:m≠0):Zbs m=Zbs (m / 10)++[zI (48+m % 10)]:=by
 unfold Zbs;rw[if_neg h]
 have e:∀ k:Nat,Go.Lib.itoa (k:Int)=Go.Lib.decDigits k:=λk=>by
  unfold Go.Lib.itoa;rw[if_neg X,zU]
 rw[e,e];by_cases j:m<10
 ·rw[if_pos X,Go.Lib.decDigits,dif_pos j,zW j];rfl
 ·rw[if_neg X]
  conv=>lhs;rw[Go.Lib.decDigits,dif_neg j]
theorem ZnJ (D:AV)(z H:Hp):∀ (k m:Nat) (s:Zj),m<=k->m<=1000001->N s+k<=1048576 ->
 FB D (.str s) (Q J (m:Int)) z H=Lz D (.str (Zbs m++s)) z H:=by
 intro k
 induction k with
 |zero =>
  intro m s hm _ _;obtain rfl:m=0:=X
  have y:((0:Nat):Int)=0:=rfl;have e0:((0:Int) != 0)=Y:=rfl;rw[Rf];simp only[y,go_sem,e0,Zbs,if_true,yD]
 |succ k M =>
  intro m s hm P hs;by_cases h:m=0
  ·subst h;have y:((0:Nat):Int)=0:=rfl;have e0:((0:Int) != 0)=Y:=rfl;rw[Rf];simp only[y,go_sem,e0,Zbs,if_true,yD]
  ·have e0:((m:Int) != 0)=I:=by simp;omega
   have C:=ZrG m 10 X;have B:=Zrw m 10 X X;rw[show ((10:Nat):Int)=10 from rfl]at C B;have F:decide (((m % 10:Nat):Int)<0)=Y:=by simp;omega
   have O:yN.wrap (48+((m % 10:Nat):Int))=((48+m % 10:Nat):Int):=by rw[Zl X X];omega
   have E:ZS .u8 (Q J ((48+m % 10:Nat):Int))=K (.int .u8 ((48+m % 10:Nat):Int)):=by
    have G:(2 ^ IntKind.u8.bits:Int)=256:=di
    have L:IntKind.u8.signed=Y:=rfl;unfold ZS IntKind.wrap;simp only[G,L,yG,zN,if_false];congr 2;omega
   have w:(ZB 1 [(0,.int .u8 ((48+m % 10:Nat):Int))] [(.int .u8 0)]).map (AV.vs 1 .clip)=K (.vs 1 .clip [.int .u8 ((48+m % 10:Nat):Int)]):=rfl;have u:XM (.vs 1 .clip [.int .u8 ((48+m % 10:Nat):Int)]) H=K (.str [zI (48+m % 10)]):=rfl;have j:Y1 .add (.str [zI (48+m % 10)]) (.str s)=K (.str ([zI (48+m % 10)]++s)):=Vc (by simp;omega);have hi:=M (m / 10) ([zI (48+m % 10)]++s) X X (by simp;omega);rw[<-zV,<-Ztf h]at hi;rw[Rf];simp only[go_sem,e0,Zf2,C,F,Zf4,O,E,w,u,j,Zf3,B];exact hi
theorem ZnI (n:Nat)(w:n≠0)(z:n<=1000001)(H:Hp):Ze Ch [Q J (n:Int)] H=K (.str (Go.Lib.itoa (n:Int)),H):=by
 refine YG (a':=Q J (n:Int)) rfl (H1:=[]) ?_ rfl;have e0:((n:Int)==0)=Y:=by simp;omega
 have u:decide ((n:Int)<0)=Y:=dh
 have j:=ZnJ (Q J (n:Int)) [] [] n n [] (zM _) z (by simp;omega);rw[zR]at j;have y:Zbs n=Go.Lib.itoa (n:Int):=by unfold Zbs;rw[if_neg w]
 rw[Zgl];unfold pZ;simp only[go_sem,e0,ZeZ,j,Zf0,u,Zf1,y]
theorem Zcc {x:AV}{l:List Zj}(L:SS x l)(P:N l<=1048576)(n:Zj)(H:Hp):Ze MC [x,.str n] H=K (.bool (decide (n∈l)),H):=by
 obtain⟨G,O,k2⟩:=SS.closed L [] 0 7;refine Xn O (b':=.str n) rfl (H1:=[]) ?_ rfl;have w:∀ t,Zf (.slice t) G=K (Q J (N l:Int)):=λt=>k2.len t
 have loop:∀ (q d:List Zj),l=d++q->SF G (.str n) (Q J (N d:Int)) [] []=K (.bool (decide (n∈q)),[]):=by
  intro q
  induction q with
  |nil =>
   intro d y;rw[zR]at y;subst y;have j:decide ((N l:Int)<(N l:Int))=Y:=dh
   rw[mH];simp only[go_sem,w,j,Zlj];simp
  |cons s q M =>
   intro d y;have F:N l=N d+(N q+1):=by rw[y];simp
   have j:decide ((N d:Int)<(N l:Int))=I:=by simp;omega
   have E:yN.wrap ((N d:Int)+1)=((N d+1:Nat):Int):=by rw[Zl X X];omega
   have D:l[N d]?=K s:=by rw[y,zF (zM _)];simp
   have u:=SS.idx k2 D;have z:Y1 .eql (.str s) (.str n)=K (.bool (s==n)):=rfl;rw[mH];by_cases B:s=n
   ·have C:(s==n)=I:=by simpa using B
    simp only[go_sem,w,j,mG,u,ZE,z,C];simp[B]
   ·have C:(s==n)=Y:=by simpa using B
    have k:=M (d++[s]) (by rw[y];simp);rw[zK,zG]at k;simp only[go_sem,w,j,mG,u,ZE,z,C,Zlk,E,k];have:¬ n=s:=λe=>B e.symm;simp[this]
 rw[Zm9];unfold Zka;exact loop l [] rfl
theorem Zcf {x:AV}{l:List Zj}(hx:SS x l)(hl:N l<=1048575)(n:Zj)(H:Hp):∃ j H',KN [x,.str n] H=K (j,H')/\NmAt H' j (Yl n l)/\Stp [] H H'/\(∀ a∈ZA j,N H<=a)/\j.cells=[j]/\j.known=I/\(ZA j).Nodup:=by
 have C:∀ t,Zf (.slice t) x=K (Q J (N l:Int)):=λt=>hx.len t
 have loop:∀ (q d O:List Zj) (y:AV) (H1:Hp),l=d++q->N O<=N d->NmAt H1 y O->Stp [] H H1->(∀ a∈ZA y,N H<=a)->y.cells=[y]->y.known=I->(ZA y).Nodup ->
  ∃ j H',BB x (.str n) y (Q J (N d:Int)) H H1=K (j,H')/\NmAt H' j (O++Yl n q)/\Stp [] H H'/\(∀ a∈ZA j,N H<=a)/\j.cells=[j]/\j.known=I/\(ZA j).Nodup:=by
  intro q
  induction q with
  |nil =>
   intro d O y H1 z hO M D E R S T;rw[zR]at z;subst z;have u:decide ((N l:Int)<(N l:Int))=Y:=dh
   refine⟨y,H1,?_,by simpa[Yl]using M,D,E,R,S,T⟩;rw[EV];simp only[go_sem,C,u,Zde]
  |cons s q ih =>
   intro d O y H1 z hO M D E R S T;have ab:N l=N d+(N q+1):=by rw[z];simp
   have u:decide ((N d:Int)<(N l:Int))=I:=by simp;omega
   have L:yN.wrap ((N d:Int)+1)=((N d+1:Nat):Int):=by rw[Zl X X];omega
   have aa:l[N d]?=K s:=by rw[z,zF (zM _)];simp
   have w:=SS.idx hx aa;have G:Y1 .neq (.str s) (.str n)=K (.bool (!(s==n))):=rfl;rw[EV];by_cases P:s=n
   ·have Z:(!(s==n))=Y:=by simpa using P
    obtain⟨j,H',k,k2⟩:=ih (d++[s]) O y H1 (by rw[z];simp) (by simp;omega) M D E R S T;rw[zK,zG]at k;have B:Yl n (s::q)=Yl n q:=by unfold Yl;rw[List.filter_cons_of_neg (by simp[P])]
    rw[B];exact⟨j,H',by simp only[go_sem,C,u,ET,w,ZE,G,Z,EU,L];exact k,k2⟩
   ·have Z:(!(s==n))=I:=by simpa using P
    obtain⟨y2,H2,p1,p2,p3,p4,p5,p6,p7⟩:=M.app s X;have ac:=D.len
    obtain⟨j,H',k,k2⟩:=ih (d++[s]) (O++[s]) y2 H2 (by rw[z];simp) (by simp;omega) p2 (D.trans p3 (λ_ h=>h) λa F=>.inr (E a F)) (λa F=>by
     rcases p4 a F with k|k
     ·exact E a k
     ·omega) p5 p6 p7
    rw[zK,zG]at k;have B:Yl n (s::q)=s::Yl n q:=by unfold Yl;rw[List.filter_cons_of_pos (by simpa using P)]
    rw[B];exact⟨j,H',by simp only[go_sem,C,u,ET,w,ZE,G,Z,VH,p1,EU,L];exact k,by simpa[zV]using k2⟩
 rw[ZeR];unfold lF;have:=loop l [] [] .nils H rfl dh (.inl ⟨rfl,rfl⟩) (Stp.refl _ _) (λa F=>by cases F) rfl rfl (by simp[ZA]);exact this
def Fk (r:Nat)(j u:AV)(tm:Tmp):du:=[.ptr r 0,.str tm.owner,Q J (tm.limit:Int),Q J (tm.last:Int),j,u,.bool tm.closed]
structure RTAt (H:Hp)(y r:Nat)(nx sx:AV)(tm:Tmp):Prop where
 cells:H[y]?=K (.cells (Fk r nx sx tm))
 names:NmAt H nx tm.names
 sld:NmAt H sx tm.sld
 nd:(y::(ZA nx++ZA sx)).Nodup
def RSysAt (H:Hp)(y r:Nat)(tm:Tmp)(s:Sto)(A:dv):Prop:=∃ j u R,RTAt H y r j u tm/\RefAt H r s R/\(∀ a∈y::(ZA j++ZA u),a∉R)/\A=(y::(ZA j++ZA u))++R
structure RSysRes (H H':Hp)(y r:Nat)(tm':Tmp)(s':Sto)(A A':dv):Prop where
 at':RSysAt H' y r tm' s' A'
 stp:Stp A H H'
 own:∀ a∈A',a∈A\/N H<=a
theorem RTAt.lt {H:Hp}{y r:Nat}{u w:AV}{tm:Tmp}(h:RTAt H y r u w tm):∀ a∈y::(ZA u++ZA w),a<N H:=by
 have key:∀ {x:AV} {l:List Zj},NmAt H x l->∀ a∈ZA x,a<N H:=by
  intro x l B a j;rcases B with ⟨rfl,_⟩|⟨t,e,rfl,z⟩
  ·cases j
  ·rw[zH.1 j];exact Zq z
 intro a j;rcases yA.1 j with e|j
 ·subst e;exact Zq h.cells
 ·rcases zE.1 j with j|j
  ·exact key h.names a j
  ·exact key h.sld a j
theorem RTAt.frame {H H':Hp}{y r:Nat}{w z:AV}{tm:Tmp}(h:RTAt H y r w z tm)(u:∀ a∈y::(ZA w++ZA z),H'[a]?=H[a]?):RTAt H' y r w z tm :=
 ⟨(u _ dh).trans h.cells,h.names.frame λa j=>u a (by simp[j]),h.sld.frame λa j=>u a (by simp[j]),h.nd⟩
theorem RSysAt.lt {H:Hp}{y r:Nat}{tm:Tmp}{s:Sto}{A:dv}(h:RSysAt H y r tm s A):∀ a∈A,a<N H:=by
 obtain⟨B,C,R,j,u,z,rfl⟩:=h;intro a w;rcases zE.1 w with k|k
 ·exact j.lt a k
 ·exact u.lt a k
theorem RSysAt.frame {H H':Hp}{y r:Nat}{tm:Tmp}{s:Sto}{A:dv}(h:RSysAt H y r tm s A)(u:∀ a∈A,H'[a]?=H[a]?):RSysAt H' y r tm s A:=by
 obtain⟨C,D,R,w,z,B,rfl⟩:=h;exact⟨C,D,R,w.frame λa j=>u a (yH _ j),z.frame λa j=>u a (by simp[j]),B,rfl⟩
theorem RSysAt.self {H:Hp}{y r:Nat}{tm:Tmp}{s:Sto}{A:dv}(h:RSysAt H y r tm s A):RSysRes H H y r tm s A A:=⟨h,Stp.refl _ _,λa j=>.inl j⟩
theorem ZcP {H H1 G:Hp}{y r:Nat}{C E u w:AV}{tm tm':Tmp}{s':Sto}{R F:dv}(S:RTAt H y r C E tm)(T:∀ a∈y::(ZA C++ZA E),a∉R)(D:RefRes H H1 r s' R F)(Z:RTAt G y r u w tm')(O:Stp (y::(ZA C++ZA E)) H1 G)(P:∀ a∈ZA u++ZA w,a∈ZA C++ZA E\/N H1<=a) :
 RSysRes H G y r tm' s' ((y::(ZA C++ZA E))++R) ((y::(ZA u++ZA w))++F):=by
 have M:=D.at'.lt;have aa:=D.stp.len
 have z:∀ a∈y::(ZA C++ZA E),a∉F:=λa j hs=>by
  rcases D.own a hs with B|B
  ·exact T a j B
  ·have:=S.lt a j;omega
 have L:∀ a∈y::(ZA u++ZA w),a∉F:=λa j hs=>by
  rcases yA.1 j with e|j
  ·exact z a (by simp[e]) hs
  ·rcases P a j with k|k
   ·exact z a (List.mem_cons_of_mem _ k) hs
   ·have:=M a hs;omega
 refine⟨⟨u,w,F,Z,D.at'.stp O λa j hb=>z a hb j,L,rfl⟩,(D.stp.mono λa j=>zX _ j).trans O (λ_ h=>h) λa j=>.inl (yH _ j),λa j=>?_⟩;rcases zE.1 j with k|k
 ·rcases yA.1 k with e|k
  ·exact .inl (by simp[e])
  ·rcases P a k with k|k
   ·exact .inl (by simp only[zE,yA];exact .inl (.inr (zE.1 k)))
   ·exact .inr X
 ·rcases D.own a k with B|B
  ·exact .inl (zX _ B)
  ·exact .inr B
theorem Ks {H H1:Hp}{y r:Nat}{u w:AV}{tm:Tmp}{s':Sto}{R B:dv}(z:RTAt H y r u w tm)(C:∀ a∈y::(ZA u++ZA w),a∉R)(D:RefRes H H1 r s' R B):RSysRes H H1 y r tm s' ((y::(ZA u++ZA w))++R) ((y::(ZA u++ZA w))++B) :=
 ZcP z C D (z.frame λa j=>D.stp.at' a (z.lt a j) (C a j)) (Stp.refl _ _) λa j=>.inl j
theorem Zqt {n:Nat}(h:n<4294967296):(BitVec.ofInt IntKind.i64.bits (n:Int)).toNat=n:=by
 rw[BitVec.ofInt_natCast,BitVec.toNat_ofNat];exact zW (Nat.lt_of_lt_of_le h di)
theorem ZAp {m n:Nat}(hm:m<4294967296)(j:n<4294967296):Z2 .xor (Q J (m:Int)) (Q J (n:Int))=K (Q J ((m ^^^ n:Nat):Int)):=by
 have u:m ^^^ n<4294967296:=Nat.xor_lt_two_pow (n:=32) hm j;unfold Z2 X6;simp only[if_true,X8];rw[BitVec.toNat_xor,Zqt hm,Zqt j,Zl X X]
def Zcz:Nat->Nat->Nat
 |0,r=>r
 |k+1,r=>Zcz k (Vp r)
theorem ZAu (r:Nat):Zcz 8 r=Kp (Kp r):=rfl
theorem Zuy (B C:AV)(y H:Hp):∀ (k r:Nat),k<=8->r<4294967296->Sg.R17_Crc_L2 B (Q J (r:Int)) C (Q J ((8-k:Nat):Int)) y H=Sg.R17_Crc_J3 B (Q J ((Zcz k r:Nat):Int)) C y H:=by
 intro k
 induction k with
 |zero =>
  intro r _ _;have d:decide (((8-0:Nat):Int)<8)=Y:=rfl;rw[Sg.R17_Crc_L2_eq];simp only[go_sem,d,Zcz]
 |succ k E =>
  intro r hk D;have d:decide (((8-(k+1):Nat):Int)<8)=I:=by simp;omega
  have hw:yN.wrap (((8-(k+1):Nat):Int)+1)=((8-k:Nat):Int):=by rw[Zl X X];omega
  have w:=ZrG r 2 X;have u:=Zrw r 2 X X;rw[show ((2:Nat):Int)=2 from rfl]at w u;have hi:=E (Vp r) X (L7 D);rw[Sg.R17_Crc_L2_eq];unfold Vp at hi;by_cases j:r % 2=1
  ·have e:(((r % 2:Nat):Int)==1)=I:=by rw[j];rfl
   have z:=ZAp (m:=r / 2) (n:=3988292384) X X;rw[show ((3988292384:Nat):Int)=3988292384 from rfl]at z;rw[if_pos j]at hi;simp only[go_sem,d,Sg.R17_Crc_J4_eq,w,e,u,z,Sg.R17_Crc_J5_eq,hw,hi,Zcz,Vp,if_pos j]
  ·have e:(((r % 2:Nat):Int)==1)=Y:=by rw[beq_eq_false_iff_ne];omega
   rw[if_neg j]at hi;simp only[go_sem,d,Sg.R17_Crc_J4_eq,w,e,u,Sg.R17_Crc_J5_eq,hw,hi,Zcz,Vp,if_neg j]
theorem ZuA (s:Zj)(hs:N s<=1048576)(F H:Hp):∀ (r d:Zj),s=d++r->Sg.R17_Crc_L1 (.str s) (Q J ((Jy d:Nat):Int)) (Q J (N d:Int)) F H=K (.int .u32 (Ri s),H):=by
 have z:Zf .string (.str s)=K (Q J (N s:Int)):=rfl;intro r
 induction r with
 |nil =>
  intro d y;rw[zR]at y;subst y;have w:decide ((N s:Int)<(N s:Int))=Y:=dh
  have P:=(hY s).2;have hw:yN.wrap (4294967295-((Jy s:Nat):Int))=((4294967295-Jy s:Nat):Int):=by rw[Zl X X];omega
  have u:ZS .u32 (Q J ((4294967295-Jy s:Nat):Int))=K (.int .u32 ((4294967295-Jy s:Nat):Int)):=by
   unfold ZS;dsimp only;rw[ZiV X]
  rw[Sg.R17_Crc_L1_eq,ZfQ];simp only[go_sem,z,w,Sg.R17_Crc_J1_eq,hw,u]
 |cons b r O =>
  intro d y;have G:N s=N d+(N r+1):=by rw[y];simp
  have w:decide ((N d:Int)<(N s:Int))=I:=by simp;omega
  have E:yN.wrap ((N d:Int)+1)=((N d+1:Nat):Int):=by rw[Zl X X];omega
  have C:Zp (.str s) (Q J (N d:Int))=K (.int .u8 (b.toNat:Int)):=ZG (by rw[y,zF (zM _)];simp);have L:=b.toNat_lt
  have u:ZS .i64 (.int .u8 (b.toNat:Int))=K (Q J (b.toNat:Int)):=by
   unfold ZS;dsimp only;rw[Zl X X]
  have B:=(hY d).2;have M:=ZAp (m:=Jy d) (n:=b.toNat) B X;have j:=Zuy (.str s) (Q J (N d:Int)) F H 8 (Jy d ^^^ b.toNat) (zM _) (ZpM B b);rw[ZAu,<-Zwa,show ((8-8:Nat):Int)=0 from rfl]at j;have D:=O (d++[b]) (by rw[y];simp);rw[zK,zG]at D;rw[Sg.R17_Crc_L1_eq];simp only[go_sem,z,w,Sg.R17_Crc_J2_eq,C,u,M,j,Sg.R17_Crc_J3_eq,E];exact D
theorem Zuz (s:Zj)(hs:N s<=1048576)(H:Hp):Ze Sg.C_R17_Crc [.str s] H=K (.int .u32 (Ri s),H):=by
 refine YG (a':=.str s) rfl (H1:=[]) ?_ rfl;rw[Sg.F_R17_Crc_eq];unfold Sg.F_R17_Crc;exact ZuA s hs [] [] s [] rfl
theorem Zzd {H:Hp}{o e:Nat}{l:Zj}(h:H[o]?=K (.row e (l.map bv)))(z:N l<=1048576)(b:Nat)(w:b<256) :
 V1 Y 1 1 (.ws Y 1 o e (N l)) (.vs 1 .clip [.int .u8 (b:Int)]) H=K (.ws Y 1 o (e+1) (l++[zI b]).length,H.set o (.row (e+1) ((l++[zI b]).map bv))):=by
 have j:Xe (N l+[AV.int .u8 (b:Int)].length) 1=I:=by simp[Xe];omega
 have u:bv (zI b)=.int .u8 (b:Int):=by
  show AV.int .u8 ((zI b).toNat:Int)=_;rw[UInt8.toNat_ofNat'];have:b % 2 ^ 8=b:=zW w;rw[this]
 unfold V1;have y:Go.Am.elems 1 (.vs 1 .clip [.int .u8 (b:Int)]) H=K [.int .u8 (b:Int)]:=rfl;rw[y];dsimp only;unfold BF;simp only[j,and_self,if_true,h,zY,Nat.mul_one,zM,ZcB,List.take_of_length_le (show (l.map bv).length<=N l by simp)];rw[if_neg dh];simp[u,AV.cells]
theorem Zxv {H:Hp}{o e:Nat}{l:Zj}(h:H[o]?=K (.row e (l.map bv))):XM (.ws Y 1 o e (N l)) H=K (.str l):=by
 have u:Qm (.ws Y 1 o e (N l)) H=K (l.map bv):=by
  show Go.Am.elems 1 (.ws Y 1 o e (N l)) H=_;unfold Go.Am.elems;dsimp only;rw[if_pos ⟨rfl,.inr rfl⟩,h];dsimp only;rw[if_pos ⟨rfl,dh⟩]
  have:∀ m:du,Vr Y 1 (N m) m=m:=λm=>by
   induction m with
   |nil=>rfl
   |cons a m w=>simp only[yB,Vr];rw[List.drop_one,List.tail_cons,w];rfl
  have:=this (l.map bv);rw[zY]at this;rw[this]
 have j:Ql (.ws Y 1 o e (N l))=U:=rfl;unfold XM;rw[j,u];dsimp only;rw[Zer]
theorem ZkY (s:Zj)(hs:N s<=1048000)(H:Hp):∃ H',sealE.run [.str s] H=K (.str (s++Gh s),H'):=by
 have hc:=ZfQ s;have hb:=(hY s).2
 have B:ZS .i64 (.int .u32 (Ri s))=K (Q J ((4294967295-Jy s:Nat):Int)):=by
  rw[hc];unfold ZS;dsimp only;rw[Zl X X]
 have w:SM (.str s) H=K (.ws Y 1 (N H) 0 (N s),H++[.row 0 (s.map bv)]):=rfl;have g0:(H++[AObj.row 0 (s.map bv)])[N H]?=K (.row 0 (s.map bv)):=dh
 have u:∀ (c i:Nat) (l:Zj) (e:Nat) (H1 y:Hp),c<4294967296->i<4->N l<=1048500->H1[N H]?=K (.row e (l.map bv)) ->
  ∃ z,Sg.R17_seal_L1 (Q J (c:Int)) (.ws Y 1 (N H) e (N l)) (Q J (i:Int)) y H1=Sg.R17_seal_L1 (Q J ((c / 256:Nat):Int)) (.ws Y 1 (N H) (e+1) (l++[byN c]).length) (Q J ((i+1:Nat):Int)) y z/\z[N H]?=K (.row (e+1) ((l++[byN c]).map bv)):=by
  intro c i l e H1 y aa hi hl F;have d:decide ((i:Int)<4)=I:=by simp;omega
  have L:=ZrG c 256 X;have G:=Zrw c 256 X X;rw[show ((256:Nat):Int)=256 from rfl]at L G
  have cv:ZS .u8 (Q J ((c % 256:Nat):Int))=K (.int .u8 ((c % 256:Nat):Int)):=by
   have e1:(2 ^ IntKind.u8.bits:Int)=256:=di
   have e2:IntKind.u8.signed=Y:=rfl;unfold ZS IntKind.wrap;simp only[e1,e2,yG,zN,if_false];congr 2;omega
  have E:(ZB 1 [(0,.int .u8 ((c % 256:Nat):Int))] [(.int .u8 0)]).map (AV.vs 1 .clip)=K (.vs 1 .clip [.int .u8 ((c % 256:Nat):Int)]):=rfl;have ha:=Zzd F X (c % 256) (Nat.mod_lt _ X);have hw:yN.wrap ((i:Int)+1)=((i+1:Nat):Int):=by rw[Zl X X];omega
  refine⟨_,?_,Zu _ F⟩;rw[Sg.R17_seal_L1_eq];simp only[go_sem,d,Sg.R17_seal_J2_eq,L,cv,E,ha,G,Sg.R17_seal_J3_eq,hw];rfl
 have j:4294967295-Jy s<4294967296:=X
 obtain⟨H1,O,P⟩:=u (4294967295-Jy s) 0 s 0 _ H j X X g0;obtain⟨z,R,S⟩:=u _ 1 _ _ _ H (zQ (zS _ _) j) X (by simp;omega) P;obtain⟨H3,T,Z⟩:=u _ 2 _ _ _ H (zQ (zS _ _) (zQ (zS _ _) j)) X (by simp;omega) S;obtain⟨M,d1,d2⟩:=u _ 3 _ _ _ H (zQ (zS _ _) (zQ (zS _ _) (zQ (zS _ _) j))) X (by simp;omega) Z;have D:=Zxv d2;have C:decide (((3+1:Nat):Int)<4)=Y:=rfl;refine⟨M,?_⟩;rw[ZxA];unfold Sg.F_R17_seal;rw[ZxK];simp only[Zuz s X,go_sem,B,w];refine O.trans (R.trans (T.trans (d1.trans ?_)));rw[Sg.R17_seal_L1_eq];simp only[go_sem,C,Sg.R17_seal_J1_eq,D];simp[zV]
theorem ZuT (s:Zj)(hs:N s<=1000000)(H:Hp):Ze Cn [.str s] H=K (if 4096<N s then .tuple [.str [],Q J 3] else .tuple [.str (X0 s),Q J 0],H):=by
 have u:Zf .string (.str s)=K (Q J (N s:Int)):=rfl;by_cases h:4096<N s
 ·have w:decide ((4096:Int)<(N s:Int))=I:=by rw[decide_eq_true_eq];omega
  rw[if_pos h];refine YG (a':=.str s) rfl (H1:=[]) ?_ rfl;rw[Il];unfold Cu;simp only[go_sem,u,w]
 ·have w:decide ((4096:Int)<(N s:Int))=Y:=by simp;omega
  rw[if_neg h];have D:=Zrw (N s) 256 X X;have E:=ZrG (N s) 256 X;rw[show ((256:Nat):Int)=256 from rfl]at D E;have L:(2 ^ IntKind.u8.bits:Int)=256:=di
  have M:IntKind.u8.signed=Y:=rfl
  have C:∀ m:Nat,m<256->ZS .u8 (Q J (m:Int))=K (.int .u8 (m:Int)):=λm hm=>by
   unfold ZS IntKind.wrap;simp only[L,M,yG,zN,if_false];congr 2;omega
  have F:=C (N s / 256) X;have G:=C (N s % 256) X;have B:(ZB 1 [(0,.int .u8 ((N s / 256:Nat):Int)),(1,.int .u8 ((N s % 256:Nat):Int))] [(.int .u8 0),(.int .u8 0)]).map (AV.vs 1 .clip)=K (.vs 1 .clip [.int .u8 ((N s / 256:Nat):Int),.int .u8 ((N s % 256:Nat):Int)]):=rfl;have y:XM (.vs 1 .clip [.int .u8 ((N s / 256:Nat):Int),.int .u8 ((N s % 256:Nat):Int)]) []=K (.str [zI (N s / 256),zI (N s % 256)]):=rfl
  have O:[zI (N s / 256),zI (N s % 256)]++s=VF s:=by
   unfold VF
   have P:QN .i64 8 (N s:Int)=((N s / 256:Nat):Int):=by
    unfold QN;rw[show min 8 IntKind.i64.bits=8 from rfl,show (2:Int) ^ 8=((256:Nat):Int) from rfl];exact zZ _ (Int.natCast_nonneg _)
   rw[P,BH,BH];unfold byN;rw[zW (show N s / 256<256 by omega)]
  have j:Y1 .add (.str [zI (N s / 256),zI (N s % 256)]) (.str s)=K (.str (VF s)):=by rw[Vc (by simp;omega),O]
  obtain⟨H',z⟩:=ZkY (VF s) (by rw[Qq];omega) [];refine YG (a':=.str s) rfl (H1:=H') ?_ rfl;rw[Il];unfold Cu;simp only[go_sem,u,w,Zfs,D,E,F,G,B,y,j,z];rfl
theorem TxAt.read {H:Hp}{x:AV}{l:Zj}(h:TxAt H x l):XM x H=K (.str l):=by
 rcases h with ⟨rfl,rfl⟩|⟨t,e,rfl,_⟩|rfl
 ·rfl
 ·unfold XM;rw[ZfR]
 ·unfold XM;rw[ZfR]
theorem ZuH {x:AV}{l:List Zj}(R:SS x l)(hL:∀ s∈l,N s<=1000000)(hl:Yo l<=1048576)(Z:Hp):∀ (r d:List Zj) (y:AV) (H:Hp),l=d++r->Wq d=I->TxAt H y (Ym d) ->
 ∃ H',FQ x y (Q J (N d:Int)) Z H=K (if Wq l=I then .tuple [.str (Ym l),Q J 0] else .tuple [.str [],Q J 3],H'):=by
 have B:∀ t,Zf (.slice t) x=K (Q J (N l:Int)):=λt=>R.len t;intro r
 induction r with
 |nil =>
  intro d y H u F O;rw[zR]at u;subst u;have w:decide ((N l:Int)<(N l:Int))=Y:=dh
  refine⟨H,?_⟩;rw[Hc];simp only[go_sem,B,w,Zfp,O.read,if_pos F]
 |cons s r S =>
  intro d y H u F O
  have C:∀ l:List Zj,6*N l<=Yo l:=by
   intro l
   induction l with
   |nil=>simp[Yo]
   |cons s l S=>simp only[Yo,yB];omega
  have:=C l;have P:N l=N d+(N r+1):=by rw[u];simp
  have w:decide ((N d:Int)<(N l:Int))=I:=by simp;omega
  have M:yN.wrap ((N d:Int)+1)=((N d+1:Nat):Int):=by rw[Zl X X];omega
  have G:l[N d]?=K s:=by rw[u,zF (zM _)];simp
  have z:=SS.idx R G;have hs:=hL s (by rw[u];simp);have j:=ZuT s hs H;rw[Hc];by_cases h:4096<N s
  ·have L:Wq l=Y:=by
    rw[u];simp only[Wq,List.all_append,List.all_cons];rw[show decide (N s<=4096)=Y by simp;omega];simp
   have e3:((3:Int) != 0)=I:=rfl;rw[if_pos h]at j;refine⟨H,?_⟩;simp only[go_sem,B,w,Hb,z,ZE,j,zA,zB,e3,L,zN,if_false]
  ·have e0:((0:Int) != 0)=Y:=rfl;rw[if_neg h]at j;have D:Yo l=Yo d+(N s+6+Yo r):=by rw[u,Zkn];rfl
   obtain⟨y2,H2,a1,a2,_⟩:=O.app (X0 s) (by rw[Rk,Kq];omega);have E:Ym (d++[s])=Ym d++X0 s:=by rw[ZmR];simp[Ym]
   obtain⟨H',T⟩:=S (d++[s]) y2 H2 (by rw[u];simp) (by
    have:Wq (d++[s])=(Wq d&&(decide (N s<=4096)&&I)):=by simp[Wq]
    rw[this,F];simp;omega) (by rw[E];exact a2)
   rw[zK,zG]at T;refine⟨H',?_⟩;simp only[go_sem,B,w,Hb,z,ZE,j,zA,zB,e0,Zfr,a1,Zfq,M];exact T
theorem ZuG {x:AV}{l:List Zj}(w:SS x l)(j:∀ s∈l,N s<=1000000)(u:Yo l<=1048576)(H:Hp) :
 Ze Cl [x] H=K (if Wq l=I then .tuple [.str (Ym l),Q J 0] else .tuple [.str [],Q J 3],H):=by
 obtain⟨B,y,k2⟩:=SS.closed w [] 0 7;obtain⟨H',z⟩:=ZuH k2 j u [] l [] .nils [] rfl rfl (.inl ⟨rfl,rfl⟩);refine YG y (H1:=H') ?_ (by split <;> rfl)
 rw[Zgr];unfold Za2;exact z
theorem ZuC (a b:UInt8):UO a b=((a.toNat*256+b.toNat:Nat):Int):=by
 have y:=a.toNat_lt;have z:=b.toNat_lt;have j:yN.wrap (a.toNat:Int)=(a.toNat:Int):=Zl X X;have u:yN.wrap (b.toNat:Int)=(b.toNat:Int):=Zl X X
 have w:kG (a.toNat:Int)=((a.toNat*256:Nat):Int):=by
  unfold kG;rw[show min 8 IntKind.i64.bits=8 from rfl,show (2:Int) ^ 8=256 from rfl,Zl X X];omega
 unfold UO;rw[j,u,w];unfold jS;rw[BitVec.toNat_or,Zqt X,Zqt X]
 have:a.toNat*256 ||| b.toNat=a.toNat*256+b.toNat:=by
  have:=Nat.two_pow_add_eq_or_of_lt (i:=8) (b:=b.toNat) X a.toNat;rw[Nat.mul_comm,show (256:Nat)=2 ^ 8 from rfl];exact this.symm
 rw[this,Zl X X]
theorem ZrV (g:Zj)(hg:N g<=1000000)(H:Hp):Ze fD [.str g,Q J 0] H=K (.tuple [.str (XO g).1,Q J (XO g).2.1,Q J (XO g).2.2],H):=by
 have j:Zf .string (.str g)=K (Q J (N g:Int)):=rfl;have y:decide ((0:Int)<0)=Y:=rfl;have B:decide ((N g:Int)<0)=Y:=by rw[decide_eq_false_iff_not];omega
 have hw:yN.wrap ((N g:Int)-0)=(N g:Int):=by rw[Int.sub_zero,Zl X X]
 match g,hg with
 |[],hg =>
  have d:decide ((([]:Zj).length:Int)<2)=I:=rfl;refine Xn (a':=.str []) (b':=Q J 0) rfl rfl (H1:=[]) ?_ rfl;rw[Q1];unfold JW;simp only[go_sem,y,j,B,Uj,hw,d];rfl
 |[a],hg =>
  have d:decide ((([a]:Zj).length:Int)<2)=I:=rfl;refine Xn (a':=.str [a]) (b':=Q J 0) rfl rfl (H1:=[]) ?_ rfl;rw[Q1];unfold JW;simp only[go_sem,y,j,B,Uj,hw,d];rfl
 |a::b::r,hg =>
  have ha:=a.toNat_lt;have hb:=b.toNat_lt;have T:decide (((a::b::r).length:Int)<2)=Y:=by rw[decide_eq_false_iff_not];simp;omega
  have i0:Zp (.str (a::b::r)) (Q J 0)=K (.int .u8 (a.toNat:Int)):=ZG (i:=0) rfl;have i1:Zp (.str (a::b::r)) (Q J 1)=K (.int .u8 (b.toNat:Int)):=ZG (i:=1) rfl
  have cv:∀ n:Nat,n<256->ZS .i64 (.int .u8 (n:Int))=K (Q J (n:Int)):=λn hn=>by
   unfold ZS;dsimp only;rw[Zl X X]
  have R:=cv a.toNat ha;have S:=cv b.toNat hb;have wm:yN.wrap ((a.toNat:Int)*256)=((a.toNat*256:Nat):Int):=by rw[Zl X X];omega
  have wa:yN.wrap (((a.toNat*256:Nat):Int)+(b.toNat:Int))=((a.toNat*256+b.toNat:Nat):Int):=by rw[Zl X X];omega
  have w:yN.wrap (0+1)=1:=rfl;unfold XO;dsimp only;rw[ZuC];generalize hG:a::b::r=G at *;generalize hz:a.toNat*256+b.toNat=z at *;have aa:z<65536:=X
  rw[show (((z:Nat):Int)).toNat=z from zU z];by_cases h3:4096<(z:Int)
  ·have C:decide ((4096:Int)<(z:Int))=I:=decide_eq_true h3;rw[if_pos h3];refine Xn (a':=.str G) (b':=Q J 0) rfl rfl (H1:=[]) ?_ rfl;rw[Q1];unfold JW;simp only[go_sem,y,j,B,Uj,hw,T,Bz,i0,R,wm,w,i1,S,wa,C]
  ·have C:decide ((4096:Int)<(z:Int))=Y:=decide_eq_false h3;rw[if_neg h3];have w6:yN.wrap ((z:Int)+6)=((z+6:Nat):Int):=by rw[Zl X X];omega
   by_cases h4:(N G:Int)<(z:Int)+6
   ·have Z:decide ((N G:Int)<((z+6:Nat):Int))=I:=by rw[decide_eq_true_eq];omega
    rw[if_pos h4];refine Xn (a':=.str G) (b':=Q J 0) rfl rfl (H1:=[]) ?_ rfl;rw[Q1];unfold JW;simp only[go_sem,y,j,B,Uj,hw,T,Bz,i0,R,wm,w,i1,S,wa,C,NF,w6,Z]
   ·have Z:decide ((N G:Int)<((z+6:Nat):Int))=Y:=by rw[decide_eq_false_iff_not];omega
    rw[if_neg h4];have L:yN.wrap (0+2)=2:=rfl;have M:yN.wrap (0+6)=6:=rfl;have O:yN.wrap (2+(z:Int))=((z+2:Nat):Int):=by rw[Zl X X];omega
    have P:yN.wrap (6+(z:Int))=((z+6:Nat):Int):=by rw[Zl X X];omega
    have sl:∀ n:Nat,n<=N G->ZR (.str G) (K (Q J 0)) (K (Q J (n:Int))) U=K (.str (G.take n)):=λn hn=>by
     have:=VV (s:=G) (n:=0) (m:=(n:Int)) .i64 .i64 X X X;rw[this];simp
    have s1:=sl (z+2) X;have s2:=sl (z+6) X
    have s3:ZR (.str G) (K (Q J 2)) (K (Q J ((z+2:Nat):Int))) U=K (.str ((G.take (z+2)).drop 2)):=by
     have:=VV (s:=G) (n:=2) (m:=((z+2:Nat):Int)) .i64 .i64 X X X;rw[this,zU];rfl
    obtain⟨H',E⟩:=ZkY (G.take (z+2)) (by rw[yC];omega) []
    have F:G.take (z+6)=G.take (z+2)++(G.take (z+6)).drop (z+2):=by
     have:=(List.take_append_drop (z+2) (G.take (z+6))).symm
     rwa [List.take_take,show min (z+2) (z+6)=z+2 by omega]at this
    have D:(!(G.take (z+2)++Gh (G.take (z+2))==G.take (z+6)))=!((G.take (z+6)).drop (z+2)==Gh (G.take (z+2))):=by
     congr 1;rw[Bool.eq_iff_iff,beq_iff_eq,beq_iff_eq];constructor
     ·intro e;rw[F]at e;exact (List.append_cancel_left e).symm
     ·intro e
      conv=>rhs;rw[F,e]
    have u:Y1 .neq (.str (G.take (z+2)++Gh (G.take (z+2)))) (.str (G.take (z+6)))=K (.bool (!((G.take (z+6)).drop (z+2)==Gh (G.take (z+2))))):=by
     rw[<-D];rfl
    cases hq:((G.take (z+6)).drop (z+2)==Gh (G.take (z+2))) with
    |false =>
     rw[hq]at u;rw[if_neg dh];refine Xn (a':=.str G) (b':=Q J 0) rfl rfl (H1:=H') ?_ rfl;rw[Q1];unfold JW;simp only[go_sem,y,j,B,Uj,hw,T,Bz,i0,R,wm,w,i1,S,wa,C,NF,w6,Z,cQ,L,O,s1,E,M,P,s2,u,yF]
    |true =>
     rw[hq]at u;rw[if_pos rfl];refine Xn (a':=.str G) (b':=Q J 0) rfl rfl (H1:=H') ?_ rfl;rw[Q1];unfold JW;simp only[go_sem,y,j,B,Uj,hw,T,Bz,i0,R,wm,w,i1,S,wa,C,NF,w6,Z,cQ,L,O,s1,E,M,P,s2,u,yI,Zjo,s3];rfl
theorem Zc8 (y:Nat):∀ u,Y5 (.pointer u) .eql (.ptr y 0) .nilp=K (.bool Y):=λ_=>rfl
theorem kC {H:Hp}{y r:Nat}{C F:AV}{tm:Tmp}(h:RTAt H y r C F tm)(hm:TmpOk tm)(n:Zj):Wx [.ptr y 0,.str n] H=K (Q J (ZI tm n),H):=by
 have u:=ZZ h.cells 6 (v:=.bool tm.closed) rfl;have B:=ZZ h.cells 4 (v:=C) rfl;have D:=hm.len;have E:=hm.last;have j:=Zcc h.names.ss X n H;rw[MI];unfold Ti ZI
 cases z:tm.closed with
 |true =>
  rw[z]at u;simp only[Zc8,go_sem,Gc,zC,u,if_true]
 |false =>
  rw[z]at u;by_cases w:n∈tm.names
  ·rw[decide_eq_true w]at j;simp only[Zc8,go_sem,Gc,zC,u,N3,B,j,yI,oM,if_pos w,zN,if_false]
  ·rw[decide_eq_false w]at j;simp only[Zc8,go_sem,Gc,zC,u,N3,B,j,yF,if_neg w,zN,if_false]
theorem RTAt.put {H:Hp}{y r:Nat}{z B:AV}{tm:Tmp}{l:du}(D:H[y]?=K (.cells l))(C:NmAt H z tm.names)(hs:NmAt H B tm.sld)(j:(y::(ZA z++ZA B)).Nodup) :
 RTAt (H.set y (.cells (Fk r z B tm))) y r z B tm:=by
 rw[zO]at j;have w:∀ a∈ZA z++ZA B,y≠a:=λa u e=>j.1 (by rw[e];exact u);exact⟨Zu _ D,C.frame λa u=>zT (w a (by simp[u])),hs.frame λa u=>zT (w a (by simp[u])),zO.2 j⟩
theorem Zut {H:Hp}{y r:Nat}{tm:Tmp}{s:Sto}{A:dv}(h:RSysAt H y r tm s A)(hm:TmpOk tm)(hk:ROk s)(hl:tm.last<1000000) :
 ∃ H' A',Vx [.ptr y 0] H=K (.tuple [.str (Zi tm s).1.1,Q J (Zi tm s).1.2],H')/\RSysRes H H' y r (Zi tm s).2.1 (Zi tm s).2.2 A A':=by
 have ae:=h;obtain⟨w,u,R,E,h2,h3,rfl⟩:=h;have l6:=ZZ E.cells 6 (v:=.bool tm.closed) rfl;have l0:=ZZ E.cells 0 (v:=.ptr r 0) rfl;have l1:=ZZ E.cells 1 (v:=.str tm.owner) rfl;have l3:=ZZ E.cells 3 (v:=Q J (tm.last:Int)) rfl;have ho:=hm.owner;have hw:yN.wrap ((tm.last:Int)+1)=((tm.last+1:Nat):Int):=by rw[Zl X X];omega
 obtain⟨n1,n2⟩:=ZpE tm.owner (tm.last+1) ho X;have a1:Y1 .add (.str [46,116,109,112,46]) (.str tm.owner)=K (.str ([46,116,109,112,46]++tm.owner)):=Vc (by simp;omega);have a2:Y1 .add (.str ([46,116,109,112,46]++tm.owner)) (.str [46])=K (.str (Yu tm.owner)):=by rw[Vc (by simp;omega)];rfl
 have ac:=ZnI (tm.last+1) X X H;have F:Y1 .add (.str (Yu tm.owner)) (.str (Go.Lib.itoa ((tm.last+1:Nat):Int)))=K (.str (Yr tm.owner (tm.last+1))):=by rw[Vc X];rfl
 obtain⟨H1,R1,p1,p2⟩:=Zpb h2 hk (Yr tm.owner (tm.last+1)) n1;rw[MH];unfold Tg Zi;by_cases Z:tm.closed=I
 ·rw[Z]at l6;rw[if_pos Z];exact⟨H,_,by simp only[Zc8,go_sem,zC,Gb,l6],ae.self⟩
 ·rw[yK]at Z;rw[Z]at l6;rw[if_neg (by simp[Z])]
  cases ai:s.create (Yr tm.owner (tm.last+1)) with
  |mk e s' =>
  rw[ai]at p1 p2;simp only at p1 p2 ⊢;by_cases he:e=0
  ·subst he;rw[if_pos rfl];have O:((0:Int) != 0)=Y:=rfl;have C:=E.frame (H':=H1) λa j=>p2.stp.at' a (E.lt a j) (h3 a j);have k3:=ZZ C.cells 3 (v:=Q J (tm.last:Int)) rfl;have s3:=Wp C.cells 3 (v:=Q J ((tm.last+1:Nat):Int)) rfl rfl (by simp[Fk]);have g1:=Zu (zD (zL (Fk r w u tm) 3 (Q J ((tm.last+1:Nat):Int)))) C.cells;have k4:=ZZ g1 4 (v:=w) rfl;have aj:=C.nd;have z:=zO.1 aj;have D:∀ a∈ZA w++ZA u,a≠y:=λa j e=>z.1 (by rw[<-e];exact j);have ak:y<N H1:=Zq C.cells;generalize G:H1.set y (.cells (zL (Fk r w u tm) 3 (Q J ((tm.last+1:Nat):Int))))=T at s3 g1 k4;have M:N T=N H1:=by rw[<-G];simp
   have fr:∀ a∈ZA w++ZA u,T[a]?=H1[a]?:=λa j=>by rw[<-G];exact zT (λe=>D a j e.symm)
   have af:NmAt T w tm.names:=C.names.frame λa j=>fr a (by simp[j]);have ag:NmAt T u tm.sld:=C.sld.frame λa j=>fr a (by simp[j]);have al:=hm.len;obtain⟨S,H3,q1,q2,q3,q4,q5,q6,q7⟩:=af.app (Yr tm.owner (tm.last+1)) X;have aa:∀ a∈ZA u,a∉ZA w:=λa j hb=>(zP.1 z.2).2.2 a hb a j rfl;have ah:NmAt H3 u tm.sld:=ag.frame λa j=>q3.at' a (by rw[M];exact C.lt a (by simp[j])) (aa a j);have g2:H3[y]?=K (.cells (zL (Fk r w u tm) 3 (Q J ((tm.last+1:Nat):Int)))):=q3.get g1 λj=>D y (by simp[j]) rfl;have s4:=Wp g2 4 (v:=S) q5 q6 (by simp[Fk])
   have P:∀ a∈ZA S,a∈ZA w\/a=N H1:=λa j=>by
    rcases q4 a j with k|k
    ·exact .inl k
    ·exact .inr X
   have ad:(y::(ZA S++ZA u)).Nodup:=by
    rw[zO,zP];refine⟨λj=>?_,q7,(zP.1 z.2).2.1,λa j b hb e=>?_⟩
    ·rcases zE.1 j with k|k
     ·rcases P y k with k|k
      ·exact D y (by simp[k]) rfl
      ·omega
     ·exact D y (by simp[k]) rfl
    ·subst e;rcases P a j with k|k
     ·exact aa a hb k
     ·have:=C.lt a (by simp[hb]);omega
   have ab:=RTAt.put (r:=r) (tm:={ tm with last:=tm.last+1,names:=tm.names++[Yr tm.owner (tm.last+1)] }) g2 q2 ah ad;have L:zL (zL (Fk r w u tm) 3 (Q J ((tm.last+1:Nat):Int))) 4 S=Fk r S u { tm with last:=tm.last+1,names:=tm.names++[Yr tm.owner (tm.last+1)] }:=rfl
   have hS:Stp (y::(ZA w++ZA u)) H1 (H3.set y (.cells (Fk r S u { tm with last:=tm.last+1,names:=tm.names++[Yr tm.owner (tm.last+1)] }))):=by
    have e1:Stp (y::(ZA w++ZA u)) H1 T:=by rw[<-G];exact Stp.set _ _ dh
    have e2:Stp (y::(ZA w++ZA u)) H1 H3:=e1.trans (q3.mono (B:=y::(ZA w++ZA u)) λa j=>by simp[j]) (λ_ h=>h) λ_ h=>.inl h;exact e2.trans (Stp.set (A:=y::(ZA w++ZA u)) _ _ dh) (λ_ h=>h) λ_ h=>.inl h
   refine⟨_,_,?_,ZcP E h3 p2 ab hS λa j=>?_⟩
   ·rw[L]at s4;simp only[Zc8,go_sem,zC,Gb,l6,PZ,l1,a1,a2,l3,hw,ac,F,l0,p1,O,oL,k3,s3,k4,VH,q1,s4]
   ·rcases zE.1 j with k|k
    ·rcases P a k with k|k
     ·exact .inl (by simp[k])
     ·exact .inr X
    ·exact .inl (by simp[k])
  ·rw[if_neg he];have O:(e != 0)=I:=by simpa using he
   exact⟨H1,_,by simp only[Zc8,go_sem,zC,Gb,l6,PZ,l1,a1,a2,l3,hw,ac,F,l0,p1,O],Ks E h3 p2⟩
theorem Zpd {H:Hp}{y r:Nat}{Z sx:AV}{tm:Tmp}(h:RTAt H y r Z sx tm)(hm:TmpOk tm){x:AV}{fs:List Fil}(S:Sl 3 x (fs.map ZL))(hl:N fs<=64)(hu:Zs fs<=262144)(HB:Hp):∀ (q d:List Fil),fs=d++q ->
 J5 (.ptr y 0) (Q J (X5 tm.names d:Int)) x (Q J (N d:Int)) HB H=K (Q J (X5 tm.names fs:Int),H):=by
 have D:∀ t,Zf (.slice t) x=K (Q J (N fs:Int)):=λt=>by have:=Sl.len S t;rwa [zY]at this
 have T:=ZZ h.cells 4 (v:=Z) rfl;have aa:=hm.len;have ab:=hm.last;have ac:=AX tm.names fs;intro q
 induction q with
 |nil =>
  intro d C;rw[zR]at C;subst C;have u:decide ((N fs:Int)<(N fs:Int))=Y:=dh
  rw[TU];simp only[go_sem,D,u,gT]
 |cons f q ih =>
  intro d C;have R:N fs=N d+(N q+1):=by rw[C];simp
  have u:decide ((N d:Int)<(N fs:Int))=I:=by simp;omega
  have F:yN.wrap ((N d:Int)+1)=((N d+1:Nat):Int):=by rw[Zl X X];omega
  have hi:fs[N d]?=K f:=by rw[C,zF (zM _)];simp
  have z:Zr 3 x (Q J (N d:Int))=K (.vp (ZL f).cells):=Sl.idx S (c:=ZL f) (by simp[hi]);have w:Z6 0 (.vp (ZL f).cells)=K (.vp (ZL f).cells):=rfl;have B:Z4 Y 1 (.vp (ZL f).cells) H=K (.str f.name):=rfl;have L:Z6 1 (.vp (ZL f).cells)=K (.vp [Q J (N f.text:Int),Q J (f.syn:Int)]):=rfl;have M:Z4 Y 1 (.vp [Q J (N f.text:Int),Q J (f.syn:Int)]) H=K (Q J (N f.text:Int)):=rfl;have j:=Zcc h.names.ss X f.name H;have E:X5 tm.names (d++[f])=X5 tm.names d+(if f.name∈tm.names then N f.text else 0):=by rw[Zcp];simp[X5]
  have O:X5 tm.names fs=X5 tm.names d+((if f.name∈tm.names then N f.text else 0)+X5 tm.names q):=by rw[C,Zcp];rfl
  have k:=ih (d++[f]) (by rw[C];simp);rw[zK,zG,E]at k;rw[TU];by_cases G:f.name∈tm.names
  ·rw[decide_eq_true G]at j;rw[if_pos G]at k O;have P:yN.wrap ((X5 tm.names d:Int)+(N f.text:Int))=((X5 tm.names d+N f.text:Nat):Int):=by rw[Zl X X];omega
   simp only[go_sem,D,u,TS,zC,T,z,w,B,j,L,M,P,TT,F];exact k
  ·rw[decide_eq_false G]at j;rw[if_neg G,yM]at k;simp only[go_sem,D,u,TS,zC,T,z,w,B,j,TT,F];exact k
theorem Zuu {H:Hp}{y r:Nat}{tm:Tmp}{s:Sto}{A:dv}(h:RSysAt H y r tm s A)(hm:TmpOk tm)(hk:ROk s) :
 Ve R9 [.ptr y 0] H=K (Q J (if tm.closed then 0 else (V4 tm s:Int)),H):=by
 obtain⟨L,M,R,u,z,E,rfl⟩:=h;have j:=ZZ u.cells 6 (v:=.bool tm.closed) rfl;have B:=ZZ u.cells 0 (v:=.ptr r 0) rfl;obtain⟨x,C,D⟩:=Ar z hk;have G:=Zii hk.nd;have hs:=hk.sto.used;have F:=hk.sto.limit;refine Qx (H1:=H) (v:=Q J (if tm.closed then 0 else (V4 tm s:Int))) ?_ (Keep.refl _ _) (zM _) rfl;rw[nS];unfold CC
 cases w:tm.closed with
 |true =>
  rw[w]at j;simp only[Zc8,go_sem,zC,j,if_true]
 |false =>
  rw[w]at j;have:=Zpd u hm D hk.len X H (ZH s.files) [] rfl;rw[ZiO tm.names (VZ hk.nd)]at this;simp only[Zc8,go_sem,zC,j,gS,B,C,zN,if_false];exact this
theorem Zpc {H:Hp}{y r:Nat}{tm:Tmp}{s:Sto}{A:dv}(h:RSysAt H y r tm s A)(hm:TmpOk tm)(hk:ROk s)(S:N tm.sld<=1048576)(n:Zj){x:AV}{l:List Zj}(hx:SS x l)(hL:∀ s∈l,N s<=1000000)(hl:Yo l<=1048576) :
 ∃ H' Z,WO [.ptr y 0,.str n,x] H=K (Q J (ZO tm s n l).1,H')/\RSysRes H H' y r tm (ZO tm s n l).2 A Z:=by
 have w:=h;have B:=Zuu h hm hk;obtain⟨nx,sx,R,D,h2,h3,rfl⟩:=h;have G:=kC D hm n;have M:=ZZ D.cells 5 (v:=sx) rfl;have l0:=ZZ D.cells 0 (v:=.ptr r 0) rfl;have T:=ZZ D.cells 2 (v:=Q J (tm.limit:Int)) rfl;have j:=Zcc D.sld.ss S n H;have u:=ZuG hx hL hl H;have P:=Rk l;rw[Th];unfold Dt ZO;by_cases z:ZI tm n=0
 ·have e0:(ZI tm n != 0)=Y:=by rw[z];rfl
  have O:=(HZ z).2;rw[if_neg (by simp[z])];rw[O]at B;by_cases hs:n∈tm.sld
  ·rw[if_pos hs];rw[decide_eq_true hs]at j;exact⟨H,_,by simp only[G,go_sem,e0,VC,zC,M,j],w.self⟩
  ·rw[if_neg hs];rw[decide_eq_false hs]at j
   cases C:Wq l with
   |false =>
    rw[C]at u;have e3:((3:Int) != 0)=I:=rfl;rw[if_pos rfl];rw[if_neg dh]at u;exact⟨H,_,by simp only[G,go_sem,e0,VC,zC,M,j,Ju,u,zA,zB,e3],w.self⟩
   |true =>
    rw[C]at u;rw[if_pos rfl]at u;rw[if_neg dh];have E:((0:Int) != 0)=Y:=rfl;have F:Zf .string (.str (Ym l))=K (Q J ((Yo l:Nat):Int)):=by rw[<-P];rfl
    have aa:=hm.limit;have ad:=AX tm.names s.files;have ab:=hk.sto.used;have ac:=hk.sto.limit;have hw:yN.wrap ((tm.limit:Int)-(V4 tm s:Int))=(tm.limit:Int)-(V4 tm s:Int):=by unfold V4;rw[Zl X X]
    rw[if_neg dh]at B;by_cases L:(tm.limit:Int)-(V4 tm s:Int)<(Yo l:Int)
    ·rw[if_pos L];exact⟨H,_,by simp only[G,go_sem,e0,VC,zC,M,j,Ju,u,zA,zB,E,RO,F,T,B,hw,decide_eq_true L],w.self⟩
    ·rw[if_neg L];obtain⟨H1,R1,p1,p2⟩:=Zpa h2 hk n (Ym l) X;exact⟨H1,_,by simp only[G,go_sem,e0,VC,zC,M,j,Ju,u,zA,zB,E,RO,F,T,B,hw,decide_eq_false L,dE,l0,p1],Ks D h3 p2⟩
 ·have e0:(ZI tm n != 0)=I:=by simpa using z
  rw[if_pos z];exact⟨H,_,by simp only[G,go_sem,e0],w.self⟩
def Znw (tm:Tmp)(s:Sto)(n:Zj):Tmp:=if ZI tm n≠0 then tm else if (s.sync n).1≠0 then tm else { tm with sld:=Yl n tm.sld++[n] }
theorem ZrA {H:Hp}{y r:Nat}{tm:Tmp}{s:Sto}{A:dv}(h:RSysAt H y r tm s A)(hm:TmpOk tm)(hk:ROk s)(af:N tm.sld<=1048575)(n:Zj) :
 ∃ H' A',V6 [.ptr y 0,.str n] H=K (Q J (ZM tm s n).1,H')/\RSysRes H H' y r (Znw tm s n) (ZM tm s n).2.2 A A':=by
 have S:=h;obtain⟨B,F,R,G,h2,h3,rfl⟩:=h;have hf:=kC G hm n;have l0:=ZZ G.cells 0 (v:=.ptr r 0) rfl;obtain⟨H1,R1,p1,p2⟩:=Zus h2 hk n;rw[PE];unfold Rd ZM Znw;by_cases w:ZI tm n=0
 ·have e0:(ZI tm n != 0)=Y:=by rw[w];rfl
  have hh:¬ (ZI tm n≠0):=by simp[w]
  rw[if_neg hh,if_neg hh];by_cases u:(s.sync n).1=0
  ·have Z:((s.sync n).1 != 0)=Y:=by rw[u];rfl
   have O:¬ ((s.sync n).1≠0):=by simp[u]
   rw[if_neg O,if_neg O];have z:=G.frame (H':=H1) λa j=>p2.stp.at' a (G.lt a j) (h3 a j);have k5:=ZZ z.cells 5 (v:=F) rfl;obtain⟨x1,H2,w1,w2,w3,w4,w5,w6,w7⟩:=Zcf z.sld.ss X n H1;have ad:(Yl n tm.sld).length<=N tm.sld:=yE _ _;obtain⟨L,T,q1,q2,q3,q4,q5,q6,q7⟩:=w2.app n X;have ae:=w3.len
   have E:∀ a∈ZA L,N H1<=a:=λa j=>by
    rcases q4 a j with k|k
    ·exact w4 a k
    ·omega
   have ab:=z.nd;have C:=zO.1 ab;have ac:y<N H1:=Zq z.cells;have g2:H2[y]?=K (.cells (Fk r B F tm)):=w3.get z.cells dh;have g3:T[y]?=K (.cells (Fk r B F tm)):=q3.get g2 λj=>by have:=w4 y j;omega
   have aa:NmAt T B tm.names:=(z.names.frame λa j=>w3.at' a (z.lt a (by simp[j])) dh).frame λa j=>q3.at' a (by have:=z.lt a (by simp[j]);omega) λk=>by have:=w4 a k;have:=z.lt a (by simp[j]);omega
   have s5:=Wp g3 5 (v:=L) q5 q6 (by simp[Fk])
   have P:(y::(ZA B++ZA L)).Nodup:=by
    rw[zO,zP];refine⟨λj=>?_,(zP.1 C.2).1,q7,λa j b hb e=>?_⟩
    ·rcases zE.1 j with k|k
     ·exact C.1 (by simp[k])
     ·have:=E y k;omega
    ·subst e;have:=E a hb;have:=z.lt a (by simp[j]);omega
   have M:=RTAt.put (r:=r) (tm:={ tm with sld:=Yl n tm.sld++[n] }) g3 aa q2 P;have D:zL (Fk r B F tm) 5 L=Fk r B L { tm with sld:=Yl n tm.sld++[n] }:=rfl;rw[D]at s5
   have hS:Stp (y::(ZA B++ZA F)) H1 (T.set y (.cells (Fk r B L { tm with sld:=Yl n tm.sld++[n] }))):=by
    have e2:Stp (y::(ZA B++ZA F)) H1 T:=(w3.mono λa j=>by cases j).trans q3 (λ_ h=>h) λa j=>.inr (w4 a j);exact e2.trans (Stp.set (A:=y::(ZA B++ZA F)) _ _ dh) (λ_ h=>h) λ_ h=>.inl h
   refine⟨_,_,?_,ZcP G h3 p2 M hS λa j=>?_⟩
   ·rw[u]at p1 Z;simp only[hf,go_sem,e0,TR,zC,l0,p1,Z,gR,k5,w1,VH,q1,s5]
   ·rcases zE.1 j with k|k
    ·exact .inl (by simp[k])
    ·exact .inr (E a k)
  ·have Z:((s.sync n).1 != 0)=I:=by simpa using u
   rw[if_pos u,if_pos u];exact⟨H1,_,by simp only[hf,go_sem,e0,TR,zC,l0,p1,Z],Ks G h3 p2⟩
 ·have e0:(ZI tm n != 0)=I:=by simpa using w
  rw[if_pos w,if_pos w];exact⟨H,_,by simp only[hf,go_sem,e0],S.self⟩
theorem Zz6 {s:Sto}(hk:ROk s)(n:Zj)(i k:Int):(s.read n i k).1.length<=262144:=by
 unfold Sto.read;split
 ·simp
 ·split
  ·simp
  ·rename_i f y;split
   ·simp
   ·have j:=hk.sto.used;have u:=hk.sto.limit;obtain⟨a,b,w,_⟩:=VY y;rw[w,XG]at j;simp only[yC,yJ];omega
theorem ZrF {s:Sto}(hk:ROk s)(n:Zj)(i k:Int)(h:(s.read n i k).2=0):0<=i/\i<=262144:=by
 unfold Sto.read at h;split at h
 ·cases h
 ·split at h
  ·cases h
  ·rename_i f y;split at h
   ·cases h
   ·rename_i z;have j:=hk.sto.used;have u:=hk.sto.limit;obtain⟨a,b,w,_⟩:=VY y;rw[w,XG]at j;omega
theorem Zrz {H:Hp}{y r:Nat}{tm:Tmp}{s:Sto}{A:dv}(h:RSysAt H y r tm s A)(hm:TmpOk tm)(hk:ROk s)(n:Zj)(i:Int)(hi:-9223372036854775808<=i/\i<=9223372036854775807) :
 ∃ H' Z,V5 [.ptr y 0,.str n,Q J i] H=K (.tuple [.str (Yi tm s n i).1,Q J (Yi tm s n i).2.1,Q J (Yi tm s n i).2.2],H')/\RSysRes H H' y r tm (if ZI tm n=0 then s.tick else s) A Z:=by
 have G:=h;obtain⟨nx,sx,R,C,h2,M,rfl⟩:=h;have E:=kC C hm n;have O:=ZZ C.cells 0 (v:=.ptr r 0) rfl;obtain⟨H1,P,S⟩:=Zur h2 hk n i 4102 hi X;rw[PD];unfold Rc Yi;by_cases j:ZI tm n=0
 ·have e0:(ZI tm n != 0)=Y:=by rw[j];rfl
  rw[if_neg (by simp[j]),if_pos j];by_cases u:(s.read n i 4102).2=0
  ·have D:((s.read n i 4102).2 != 0)=Y:=by rw[u];rfl
   rw[if_neg (by simp[u])];have B:Y1 .eql (.str (s.read n i 4102).1) (.str [])=K (.bool ((s.read n i 4102).1==[])):=rfl;by_cases w:(s.read n i 4102).1=[]
   ·have L:((s.read n i 4102).1==[])=I:=by rw[w];rfl
    rw[if_pos w];exact⟨H1,_,by simp only[E,go_sem,e0,VU,zC,O,P,zA,zB,D,K4,B,L],Ks C M S⟩
   ·have L:((s.read n i 4102).1==[])=Y:=by simpa using w
    rw[if_neg w];have F:=ZrV (s.read n i 4102).1 (by have:=Zz6 hk n i 4102;omega) H1;by_cases z:(XO (s.read n i 4102).1).2.2=0
    ·have T:((XO (s.read n i 4102).1).2.2 != 0)=Y:=by rw[z];rfl
     rw[if_neg (by simp[z])];have ac:=bA (s.read n i 4102).1;obtain⟨aa,ab⟩:=ZrF hk n i 4102 u;have hw:yN.wrap (i+(XO (s.read n i 4102).1).2.1)=i+(XO (s.read n i 4102).1).2.1:=Zl X X;exact⟨H1,_,by simp only[E,go_sem,e0,VU,zC,O,P,zA,zB,D,K4,B,L,TQ,F,T,gQ,hw],Ks C M S⟩
    ·have T:((XO (s.read n i 4102).1).2.2 != 0)=I:=by simpa using z
     rw[if_pos z];exact⟨H1,_,by simp only[E,go_sem,e0,VU,zC,O,P,zA,zB,D,K4,B,L,TQ,F,T],Ks C M S⟩
  ·have D:((s.read n i 4102).2 != 0)=I:=by simpa using u
   rw[if_pos u];exact⟨H1,_,by simp only[E,go_sem,e0,VU,zC,O,P,zA,zB,D],Ks C M S⟩
 ·have e0:(ZI tm n != 0)=I:=by simpa using j
  rw[if_pos j,if_neg j];exact⟨H,_,by simp only[E,go_sem,e0],G.self⟩
theorem ZuN {H H1:Hp}{y r:Nat}{w u:AV}{tm:Tmp}{s':Sto}{R R1:dv}(M:RTAt H y r w u tm)(h3:∀ a∈y::(ZA w++ZA u),a∉R)(hm:TmpOk tm)(p2:RefRes H H1 r s' R R1)(n:Zj) :
 ∃ z D T A',KN [w,.str n] H1=K (z,D)/\Zg 1 (.ptr y 4) z D=K (.tuple [],T)/\RSysRes H T y r { tm with names:=Yl n tm.names } s' ((y::(ZA w++ZA u))++R) A':=by
 have ab:=hm.len;have ac:=hm.last;have E:=M.frame (H':=H1) λa j=>p2.stp.at' a (M.lt a j) (h3 a j);obtain⟨z,D,w1,w2,P,S,w5,w6,w7⟩:=Zcf E.names.ss X n H1;have C:=zO.1 E.nd;have aa:y<N H1:=Zq E.cells;have Z:D[y]?=K (.cells (Fk r w u tm)):=P.get E.cells dh;have O:NmAt D u tm.sld:=E.sld.frame λa j=>P.at' a (E.lt a (by simp[j])) dh;have s4:=Wp Z 4 (v:=z) w5 w6 (by simp[Fk])
 have L:(y::(ZA z++ZA u)).Nodup:=by
  rw[zO,zP];refine⟨λj=>?_,w7,(zP.1 C.2).2.1,λa j b hb e=>?_⟩
  ·rcases zE.1 j with k|k
   ·have:=S y k;omega
   ·exact C.1 (by simp[k])
  ·subst e;have:=S a j;have:=E.lt a (by simp[hb]);omega
 have G:=RTAt.put (r:=r) (tm:={ tm with names:=Yl n tm.names }) Z w2 O L;have F:zL (Fk r w u tm) 4 z=Fk r z u { tm with names:=Yl n tm.names }:=rfl;rw[F]at s4
 have hS:Stp (y::(ZA w++ZA u)) H1 (D.set y (.cells (Fk r z u { tm with names:=Yl n tm.names }))) :=
  (P.mono (B:=y::(ZA w++ZA u)) λa j=>by cases j).trans (Stp.set (A:=y::(ZA w++ZA u)) _ _ dh) (λ_ h=>h) λ_ h=>.inl h
 exact⟨z,D,_,_,w1,s4,ZcP M h3 p2 G hS λa j=>by
  rcases zE.1 j with k|k
  ·exact .inr (S a k)
  ·exact .inl (by simp[k])⟩
theorem Zny {H:Hp}{y r:Nat}{tm:Tmp}{s:Sto}{A:dv}(h:RSysAt H y r tm s A)(hm:TmpOk tm)(hk:ROk s)(n:Zj) :
 ∃ H' D,Wh [.ptr y 0,.str n] H=K (Q J (ZU tm s n).1,H')/\RSysRes H H' y r (ZU tm s n).2.1 (ZU tm s n).2.2 A D:=by
 have B:=h;obtain⟨nx,sx,R,z,T,E,rfl⟩:=h;have G:=kC z hm n;have P:=ZZ z.cells 0 (v:=.ptr r 0) rfl;obtain⟨H1,R1,L,M⟩:=ZeA T hk n;rw[RF];unfold GS ZU;dsimp only;by_cases j:ZI tm n=0
 ·have e0:(ZI tm n != 0)=Y:=by rw[j];rfl
  have F:Kr tm s n=(s.remove n).1:=by unfold Kr;rw[if_neg (by simp[j])]
  have w:BW tm s n=(s.remove n).2:=by unfold BW;rw[if_neg (by simp[j])]
  rw[F,w];by_cases u:(s.remove n).1=0
  ·have C:((s.remove n).1 != 0)=Y:=by rw[u];rfl
   rw[if_pos u];obtain⟨x1,H2,S,D,k1,k2,k3⟩:=ZuN z E hm M n;have Z:=z.frame (H':=H1) λa O=>M.stp.at' a (z.lt a O) (E a O);have k4:=ZZ Z.cells 4 (v:=nx) rfl;refine⟨S,D,?_,k3⟩;rw[u]at L C ⊢;simp only[G,go_sem,e0,F1,zC,P,L,C,aG,k4,k1,k2]
  ·have C:((s.remove n).1 != 0)=I:=by simpa using u
   rw[if_neg u];exact⟨H1,_,by simp only[G,go_sem,e0,F1,zC,P,L,C],Ks z E M⟩
 ·have e0:(ZI tm n != 0)=I:=by simpa using j
  have F:Kr tm s n=ZI tm n:=by unfold Kr;rw[if_pos j]
  have w:BW tm s n=s:=by unfold BW;rw[if_pos j]
  rw[F,w,if_neg j];exact⟨H,_,by simp only[G,go_sem,e0],B.self⟩
def ZAq (H:Hp)(y r:Nat)(tm:Tmp)(s:Sto)(A:dv)(k:Nat):Prop:=∃ sl,RSysAt H y r { tm with sld:=sl } s A/\(∀ n∈tm.names,(n∈sl↔n∈tm.sld))/\(∀ n∈sl,Num tm n)/\N sl<=k
def RMAt (H:Hp)(r:Nat)(p:AV)(m:Option Tmp)(s:Sto)(A:dv)(k:Nat):Prop:=match m with
 |none=>p=.nilp/\RefAt H r s A
 |some tm=>∃ y,p=.ptr y 0/\ZAq H y r tm s A k
structure RMRes (H H':Hp)(r:Nat)(p:AV)(m':Option Tmp)(s':Sto)(A A':dv)(k:Nat):Prop where
 at':RMAt H' r p m' s' A' k
 stp:Stp A H H'
 own:∀ a∈A',a∈A\/N H<=a
theorem RMAt.lt {H:Hp}{r k:Nat}{p:AV}{m:Option Tmp}{s:Sto}{A:dv}(h:RMAt H r p m s A k):∀ a∈A,a<N H:=by
 cases m with
 |none=>exact h.2.lt
 |some tm =>
  obtain⟨y,_,sl,h,_⟩:=h;exact h.lt
theorem RMAt.frame {H H':Hp}{r k:Nat}{p:AV}{m:Option Tmp}{s:Sto}{A:dv}(h:RMAt H r p m s A k)(j:∀ a∈A,H'[a]?=H[a]?):RMAt H' r p m s A k:=by
 cases m with
 |none=>exact⟨h.1,h.2.frame j⟩
 |some tm =>
  obtain⟨y,u,sl,w,z⟩:=h;exact⟨y,u,sl,w.frame j,z⟩
theorem RMAt.up {H:Hp}{r k:Nat}{p:AV}{m:Option Tmp}{s:Sto}{A:dv}(h:RMAt H r p m s A k):RMAt H r p m s A (k+1):=by
 cases m with
 |none=>exact h
 |some tm =>
  obtain⟨y,j,sl,u,w,z,B⟩:=h;exact⟨y,j,sl,u,w,z,zJ B⟩
theorem RMAt.sto {H:Hp}{r k:Nat}{p:AV}{m:Option Tmp}{s:Sto}{A:dv}(h:RMAt H r p m s A k):∃ R,RefAt H r s R/\(∀ a∈R,a∈A)/\∀ {H':Hp} {s':Sto} {j:dv},RefRes H H' r s' R j->∃ w,RMRes H H' r p m s' A w (k+1):=by
 cases m with
 |none=>exact⟨A,h.2,λa u=>u,λ{H' s' j} hr=>⟨j,⟨h.1,hr.at'⟩,hr.stp,hr.own⟩⟩
 |some tm =>
  obtain⟨y,e,sl,⟨G,L,R,z,B,C,rfl⟩,D,E,F⟩:=h;refine⟨R,B,λa u=>zX _ u,λ{H' s' j} hr=>?_⟩;have:=Ks z C hr;exact⟨_,⟨y,e,sl,this.at',D,E,zJ F⟩,this.stp,this.own⟩
theorem RSysRes.mres {H H':Hp}{y r k:Nat}{tm tm':Tmp}{s':Sto}{A j:dv}(sl:List Zj)(h:RSysRes H H' y r { tm' with sld:=sl } s' A j)(u:∀ n∈tm'.names,(n∈sl↔n∈tm'.sld))(w:∀ n∈sl,Num tm' n)(z:N sl<=k):RMRes H H' r (.ptr y 0) (K tm') s' A j k :=
 ⟨⟨y,rfl,sl,h.at',u,w,z⟩,h.stp,h.own⟩
theorem ZA4:∀ u,Y5 (.pointer u) .eql .nilp .nilp=K (.bool I):=λ_=>rfl
theorem kB (n:AV)(H:Hp):Wx [.nilp,n] H=K (Q J 5,H):=by
 rw[MI];unfold Ti;simp only[ZA4,go_sem]
theorem Zxr (H:Hp):Vx [.nilp] H=K (.tuple [.str [],Q J 5],H):=by
 rw[MH];unfold Tg;simp only[ZA4,go_sem]
theorem Zs3 (n x:AV)(H:Hp):WO [.nilp,n,x] H=K (Q J 5,H):=by
 rw[Th];unfold Dt;simp only[kB,go_sem,b50]
theorem ZuU (n:AV)(H:Hp):V6 [.nilp,n] H=K (Q J 5,H):=by
 rw[PE];unfold Rd;simp only[kB,go_sem,b50]
theorem Zpg (n:AV)(H:Hp):Wh [.nilp,n] H=K (Q J 5,H):=by
 rw[RF];unfold GS;simp only[kB,go_sem,b50]
theorem ZuS (n i:AV)(H:Hp):V5 [.nilp,n,i] H=K (.tuple [.str [],Q J 0,Q J 5],H):=by
 rw[PD];unfold Rc;simp only[kB,go_sem,b50]
section
variable {H:Hp}{r k:Nat}{p:AV}{m:Option Tmp}{s:Sto}{A:dv}(h:RMAt H r p m s A k)(hm:Zjk m k)(hs:ROk s)(hk:k<48)
include h hm hs hk
theorem ZAF:∃ H' u,Vx [p] H=K (.tuple [.str (YL m s λtm=>((K (Zi tm s).2.1,(Zi tm s).2.2),((Zi tm s).1.1,0,(Zi tm s).1.2))).2.1,Q J (YL m s λtm=>((K (Zi tm s).2.1,(Zi tm s).2.2),((Zi tm s).1.1,0,(Zi tm s).1.2))).2.2.2],H') /\
 RMRes H H' r p (YL m s λtm=>((K (Zi tm s).2.1,(Zi tm s).2.2),((Zi tm s).1.1,0,(Zi tm s).1.2))).1.1 (YL m s λtm=>((K (Zi tm s).2.1,(Zi tm s).2.2),((Zi tm s).1.1,0,(Zi tm s).1.2))).1.2 A u (k+1):=by
 cases m with
 |none =>
  obtain⟨rfl,w⟩:=h;exact⟨H,A,Zxr H,⟨rfl,w⟩,Stp.refl _ _,λa M=>.inl M⟩
 |some tm =>
  have hi:=hm tm rfl;obtain⟨y,rfl,sl,G,w,D,L⟩:=h;have hl:=hi.last;obtain⟨H',u,E,F⟩:=Zut G (Fj hi.ok sl) hs (by show tm.last<1000000;omega);rw[ZpF]at E F;obtain⟨R,S,T,Z⟩:=ZkN tm s;refine⟨H',u,E,RSysRes.mres (tm:=tm) sl F (λn B=>?_) (λn B=>(D n B).up S T) (zJ L)⟩;rw[R];rcases Z n B with C|C
  ·exact w n C
  ·have no:∀ l:List Zj,(∀ x∈l,Num tm x)->n∉l:=λl z O=>by
    obtain⟨i,i1,P⟩:=z n O;have:=bL (o:=tm.owner) (i:=tm.last+1) (j:=i) X X (by rw[<-C,<-P]);omega
   exact⟨λx=>absurd x (no _ D),λx=>absurd x (no _ hi.snum)⟩
theorem Zzc (n:Zj){x:AV}{l:List Zj}(L:SS x l)(E:∀ s∈l,N s<=1000000)(G:Yo l<=1048576):∃ H' u,WO [p,.str n,x] H=K (Q J (YL m s λtm=>((K tm,(ZO tm s n l).2),([],0,(ZO tm s n l).1))).2.2.2,H') /\
 RMRes H H' r p (YL m s λtm=>((K tm,(ZO tm s n l).2),([],0,(ZO tm s n l).1))).1.1 (YL m s λtm=>((K tm,(ZO tm s n l).2),([],0,(ZO tm s n l).1))).1.2 A u (k+1):=by
 cases m with
 |none =>
  obtain⟨rfl,j⟩:=h;exact⟨H,A,Zs3 _ _ H,⟨rfl,j⟩,Stp.refl _ _,λa F=>.inl F⟩
 |some tm =>
  have hi:=hm tm rfl;obtain⟨y,rfl,sl,B,j,C,D⟩:=h;obtain⟨H',u,w,z⟩:=Zpc B (Fj hi.ok sl) hs (by show N sl<=1048576;omega) n L E G;rw[Zl9 tm sl j]at w z;exact⟨H',u,w,RSysRes.mres (tm:=tm) sl z j C (zJ D)⟩
theorem ZAe (n:Zj):∃ H' C,V6 [p,.str n] H=K (Q J (YL m s λtm=>((K (ZM tm s n).2.1,(ZM tm s n).2.2),([],0,(ZM tm s n).1))).2.2.2,H') /\
 RMRes H H' r p (YL m s λtm=>((K (ZM tm s n).2.1,(ZM tm s n).2.2),([],0,(ZM tm s n).1))).1.1 (YL m s λtm=>((K (ZM tm s n).2.1,(ZM tm s n).2.2),([],0,(ZM tm s n).1))).1.2 A C (k+1):=by
 cases m with
 |none =>
  obtain⟨rfl,z⟩:=h;exact⟨H,A,ZuU _ H,⟨rfl,z⟩,Stp.refl _ _,λa R=>.inl R⟩
 |some tm =>
  have hi:=hm tm rfl;obtain⟨y,rfl,sl,P,z,D,G⟩:=h;obtain⟨H',C,L,j⟩:=ZrA P (Fj hi.ok sl) hs (by show N sl<=1048575;omega) n;obtain⟨M,O⟩:=ZnS tm sl s n;rw[M]at L;rw[O]at j;refine⟨H',C,L,?_⟩;show RMRes H H' r (.ptr y 0) (K (ZM tm s n).2.1) (ZM tm s n).2.2 A C (k+1);unfold Znw at j;have S:ZI { tm with sld:=sl } n=ZI tm n:=rfl;rw[S]at j;by_cases w:ZI tm n≠0
  ·rw[if_pos w]at j;have:(ZM tm s n).2.1=tm:=by unfold ZM;rw[if_pos w]
   rw[this];exact RSysRes.mres (tm:=tm) sl j z D (zJ G)
  ·rw[if_neg w]at j;have E:=(HZ (by simpa using w)).1;by_cases u:(s.sync n).1≠0
   ·rw[if_pos u]at j;have:(ZM tm s n).2.1=tm:=by unfold ZM;rw[if_neg w,if_pos u]
    rw[this];exact RSysRes.mres (tm:=tm) sl j z D (zJ G)
   ·rw[if_neg u]at j;have:(ZM tm s n).2.1={ tm with sld:=NI tm.sld n }:=by unfold ZM;rw[if_neg w,if_neg u]
    rw[this];have T:(Yl n sl).length<=N sl:=yE _ _
    have B:∀ x,x∈Yl n sl++[n]↔x∈sl\/x=n:=λx=>by
     unfold Yl;rw[zE,yL,zH];constructor
     ·rintro (⟨h,_⟩|h)
      ·exact .inl h
      ·exact .inr h
     ·rintro (h|h)
      ·by_cases e:x=n
       ·exact .inr e
       ·exact .inl ⟨h,by simpa using e⟩
      ·exact .inr h
    refine RSysRes.mres (tm:=tm) (tm':={ tm with sld:=NI tm.sld n }) (Yl n sl++[n]) j (λx F=>?_) (λx F=>?_) (by simp;omega)
    ·show x∈Yl n sl++[n]↔x∈NI tm.sld n;rw[B,Ai,z x F]
    ·rcases (B x).1 F with e|e
     ·exact D x e
     ·rw[e];exact hi.num n E
theorem ZAd (n:Zj)(i:Int)(hi:-9223372036854775808<=i/\i<=9223372036854775807):∃ H' j,V5 [p,.str n,Q J i] H=K (.tuple [.str (YL m s λtm=>((K tm,if ZI tm n=0 then s.tick else s),Yi tm s n i)).2.1,Q J (YL m s λtm=>((K tm,if ZI tm n=0 then s.tick else s),Yi tm s n i)).2.2.1,Q J (YL m s λtm=>((K tm,if ZI tm n=0 then s.tick else s),Yi tm s n i)).2.2.2],H') /\
 RMRes H H' r p (YL m s λtm=>((K tm,if ZI tm n=0 then s.tick else s),Yi tm s n i)).1.1 (YL m s λtm=>((K tm,if ZI tm n=0 then s.tick else s),Yi tm s n i)).1.2 A j (k+1):=by
 cases m with
 |none =>
  obtain⟨rfl,u⟩:=h;exact⟨H,A,ZuS _ _ H,⟨rfl,u⟩,Stp.refl _ _,λa D=>.inl D⟩
 |some tm =>
  have w:=hm tm rfl;obtain⟨y,rfl,sl,z,u,B,C⟩:=h;obtain⟨H',j,E,F⟩:=Zrz z (Fj w.ok sl) hs n i hi;exact⟨H',j,E,RSysRes.mres (tm:=tm) sl F u B (zJ C)⟩
theorem Zxq (n:Zj):∃ H' u,Wh [p,.str n] H=K (Q J (YL m s λtm=>((K (ZU tm s n).2.1,(ZU tm s n).2.2),([],0,(ZU tm s n).1))).2.2.2,H') /\
 RMRes H H' r p (YL m s λtm=>((K (ZU tm s n).2.1,(ZU tm s n).2.2),([],0,(ZU tm s n).1))).1.1 (YL m s λtm=>((K (ZU tm s n).2.1,(ZU tm s n).2.2),([],0,(ZU tm s n).1))).1.2 A u (k+1):=by
 cases m with
 |none =>
  obtain⟨rfl,w⟩:=h;exact⟨H,A,Zpg _ H,⟨rfl,w⟩,Stp.refl _ _,λa L=>.inl L⟩
 |some tm =>
  have hi:=hm tm rfl;obtain⟨y,rfl,sl,G,w,C,D⟩:=h;obtain⟨H',u,B,j⟩:=Zny G (Fj hi.ok sl) hs n;have E:Kr { tm with sld:=sl } s n=Kr tm s n:=rfl;have F:BW { tm with sld:=sl } s n=BW tm s n:=rfl;unfold ZU at B j;dsimp only at B j;rw[E]at B j;rw[F]at j;refine⟨H',u,B,?_⟩;show RMRes H H' r (.ptr y 0) (K (ZU tm s n).2.1) (ZU tm s n).2.2 A u (k+1);by_cases z:Kr tm s n=0
  ·rw[if_pos z]at j;have:(ZU tm s n).2.1={ tm with names:=Yl n tm.names }:=by unfold ZU;rw[if_pos z]
   rw[this];exact RSysRes.mres (tm:=tm) (tm':={ tm with names:=Yl n tm.names }) sl j (λx M=>w x (yL.1 M).1) C (zJ D)
  ·rw[if_neg z]at j;have:(ZU tm s n).2.1=tm:=by unfold ZU;rw[if_neg z]
   rw[this];exact RSysRes.mres (tm:=tm) sl j w C (zJ D)
end
theorem ZAc {H:Hp}{r k k2:Nat}{p:AV}{m:Option Tmp}{s:Sto}{A:dv}(h:RMAt H r p m s A k)(hs:ROk s)(u:Zj)(L:N u<=1048000)(lim:Int) :
 ∃ H' G C,Sw [.ptr r 0,.str u,Q J lim] H=K (.tuple [C,Q J (FY u lim s).1],H')/\RMRes H H' r C (FY u lim s).2.1 (FY u lim s).2.2 A G k2:=by
 obtain⟨R,F,w,_⟩:=h.sto;obtain⟨C,e,H',D,M⟩:=Zo9 F hs u L lim;unfold FY;rcases M with ⟨y,rfl,rfl,rfl⟩|⟨y,B,rfl,rfl,z,v3⟩|⟨y,B,rfl,o,z,rfl,v3,v4,v5,E⟩
 ·rw[if_neg (by simp[y])];exact⟨H',R,.nilp,D,⟨rfl,F⟩,Stp.refl _ _,λa j=>.inl (w a j)⟩
 ·rw[if_pos y];dsimp only;rw[if_neg B];refine⟨H',z,.nilp,D,⟨rfl,v3.at'⟩,v3.stp.mono w,λa j=>(v3.own a j).imp (w a) id⟩
 ·rw[if_pos y];dsimp only;rw[if_pos B,B];refine⟨H',[o]++z,_,D,⟨o,rfl,[],⟨.nils,.nils,z,⟨v5,.inl ⟨rfl,rfl⟩,.inl ⟨rfl,rfl⟩,by simp[ZA]⟩,E.at',λa j=>?_,rfl⟩,dh,dh,dh⟩,E.stp.mono w,λa j=>?_⟩
  ·simp[ZA]at j;rw[j];exact v4
  ·rcases zE.1 j with k|k
   ·rw[zH.1 k];exact .inr v3
   ·exact (E.own a k).imp (w a) id
end Go.Am
