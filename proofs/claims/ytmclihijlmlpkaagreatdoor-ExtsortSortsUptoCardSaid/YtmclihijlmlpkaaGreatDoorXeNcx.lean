/- The example of chapter 24 -/
import Derived.Test.YtmclihijlmlpkaaGreatDoorXeCox
import Derived.Test.YtmclihijlmlpkaaGreatDoorXeGAx
import Derived.Test.YtmclihijlmlpkaaGreatDoorXeLax
import Derived.Test.YtmclihijlmlpkaaGreatDoorXeVax
open Option renaming some->K
open Bool renaming true->X,false->Y
open List renaming length->O
open Go.Am.AV renaming int->Q
open Go.IntKind renaming i64->J
open List renaming getElem?_append_left->zC,getElem?_cons_zero->zD,getElem?_cons_succ->zE,set->zH,length_set->zI
open Bool renaming not_false->zF,not_true->zG
open Int renaming reduceAdd->zJ,reduceLT->zK
open Go.Am.AObj renaming cells->zA
open Go.Am.AV renaming int->zB
namespace Go.Am
set_option maxRecDepth 100000
theorem ZyY (H:Hp):Ze PO [.vs 1 .clip [Q J 40,Q J 40,Q J 40],.agg [Q J 64,Q J 2]] H=K (.tuple [Q J 3,Q J 1],H):=by
 refine Xi (args':=[.vs 1 .clip [Q J 40,Q J 40,Q J 40],.agg [Q J 64,Q J 2]]) (H1:=Hz 64 2) rfl ?_ rfl;rw[Zcb];unfold aG;have h:Gx 64 2=X:=rfl;have g:Zk (.slice 3) (.vs 1 .clip [Q J 40,Q J 40,Q J 40])=K (Q J 3):=rfl;have j:Zj 1 (.vs 1 .clip [Q J 40,Q J 40,Q J 40]) (Q J 0)=K (.vp [Q J 40]):=rfl;have u:Zj 1 (.vs 1 .clip [Q J 40,Q J 40,Q J 40]) (Q J 1)=K (.vp [Q J 40]):=rfl;have w:Zj 1 (.vs 1 .clip [Q J 40,Q J 40,Q J 40]) (Q J 2)=K (.vp [Q J 40]):=rfl;have q:Z3 .quo (Q J 4) (Q J 2)=K (Q J 2):=rfl;simp only[ZmQ,go_sem,hza,Zeo,h,zG,ZaF,g]
 iterate 4
  rw[ZaP];simp (disch:=omega) only[go_sem,ZaG,ZaK,ZaL,ZaM,ZaN,j,u,w,Zu,cM,Zi1,Is,DR,Zo,zJ,zK,Int.reduceEq,Int.reduceBEq,decide_true,decide_false]
 iterate 2
  rw[ZaO];simp (disch:=omega) only[go_sem,ZaH,ZaI,ZaJ,cM,Zi1,Is,DR,Zo,zJ,Int.reduceSub,zK,q,decide_true,decide_false]
def J8:Zi:=[49,50,51,52,53,54,55,56,57,48,49,50,51,52,53,54,55,56,57,48,49,50,51,52,53,54,55,56,57,48,49,50,51,52,53,54,55,56,57]
def bwL:List Zi:=[101::J8,97::J8,100::J8,98::J8,99::J8]
theorem bwS:ZX defL plainP bwL=[97::J8,98::J8,99::J8,100::J8,101::J8]:=df
theorem bwE:(Gi defL plainP 64 2 bwL).r=5/\(Gi defL plainP 64 2 bwL).y=56:=⟨by kernel_rfl,by kernel_rfl⟩
theorem bwC:Wb plainP 64 2 bwL=0:=df
theorem ZAV:Y4 (.str [48,49,50,51,52,53,54,55,56,57,48,49,50,51,52,53,54,55,56,57,48,49,50,51,52,53,54,55,56,57,48,49,50,51,52,53,54,55,56,57]) (K (Q J 1)) none none=K (.str J8):=df
theorem bwA (c:UInt8):YK .add (.str [c]) (.str J8)=K (.str (c::J8)):=rfl
theorem bwV:(Zt 1 [(0,.str (101::J8)),(1,.str (97::J8)),(2,.str (100::J8)),(3,.str (98::J8)),(4,.str (99::J8))] [(.str []),(.str []),(.str []),(.str []),(.str [])]).map (AV.vs 1 .clip)=K (.vs 1 .clip (bwL.map AV.str)):=rfl
theorem Zwl:∃ H',Dl [] []=K (.bool X,H'):=by
 obtain⟨H2,s1,s2,s3⟩:=Zq5 262144 cm [];have N:(min (max (262144:Int) 0) 262144).toNat=262144:=rfl;rw[N]at s2;have en:YJ (.pointer 67) .eql (.ptr (([]:Hp).length+1) 0) .nilp=K (.bool Y):=rfl;obtain⟨ad,g1,g2⟩:=FM H2;obtain⟨A,y,aa,S1,q1,C,_⟩:=ZmO (w:=2) (mem:=64) g2 Zrk Zyk (ZAG plainP rfl) (ZAd rfl) (by show 0<=_;omega) (ZAa bwL .clip) co co ZbT bwC s2 cm (Zix ((XS.start (B:=[]) (pk:=0) cm).stoOk ZbT) rfl);rw[bwS]at C;obtain⟨c1,c2⟩:=bwE;have F:(Yq [(1,1,(Q J (-1)))] [.nils,(Q J 0),(Q J 0),(.bool Y),(.bool Y)]).map AV.agg=K (.agg (plainP.cells .nils)):=rfl;have H:(Yq [(0,1,(Q J 64)),(1,1,(Q J 2))] [(Q J 0),(Q J 0)]).map AV.agg=K (.agg [Q J 64,Q J 2]):=rfl;have L:(Zt 1 [(0,(Q J 40)),(1,(Q J 40)),(2,(Q J 40))] [(Q J 0),(Q J 0),(Q J 0)]).map (AV.vs 1 .clip)=K (.vs 1 .clip [Q J 40,Q J 40,Q J 40]):=rfl;have ew:((2:Nat):Int)=2:=rfl;rw[ew]at q1;have R:=C.len 9;have j:=C.idx (i:=0) (s:=97::J8) rfl;have u:=C.idx (i:=4) (s:=101::J8) rfl;have z:((0:Nat):Int)=0:=rfl;have S:((4:Nat):Int)=4:=rfl;rw[z]at j;rw[S]at u;have l1:Zj 1 (.vs 1 .clip (bwL.map AV.str)) (Q J 1)=K (.vp [.str (97::J8)]):=rfl;have l0:Zj 1 (.vs 1 .clip (bwL.map AV.str)) (Q J 0)=K (.vp [.str (101::J8)]):=rfl;have h:(A++[zA [zB .i64 0,Q J 0,Q J 0,Q J 0]])[O A]?=K (.cells [zB .i64 0,Q J 0,Q J 0,Q J 0]):=cn
 have g:=YL (off:=0) (sz:=4) (v:=YN (Gi defL plainP 64 2 bwL)) h rfl rfl cn;have M:=Zs (zA (splice [zB .i64 0,Q J 0,Q J 0,Q J 0] 0 (YN (Gi defL plainP 64 2 bwL)).cells)) h;generalize (A++[zA [zB .i64 0,Q J 0,Q J 0,Q J 0]]).set (O A) (zA (splice [zB .i64 0,Q J 0,Q J 0,Q J 0] 0 (YN (Gi defL plainP 64 2 bwL)).cells))=H5 at g M;have T:=ZU M 0 (v:=Q J (Gi defL plainP 64 2 bwL).r) rfl;have Z:=ZU M 2 (v:=Q J (Gi defL plainP 64 2 bwL).y) rfl;rw[c1]at T;rw[c2]at Z;have f2:∀ o,Z8 2 (.ptr o 0)=K (.ptr o 2):=λ_=>rfl;have b0:((0:Int)==0)=X:=rfl;have b3:((3:Int)==3)=X:=rfl;have b5:((5:Int)==5)=X:=rfl;have D:((([97::J8,98::J8,99::J8,100::J8,101::J8]:List Zi).length:Int)==5)=X:=rfl;have E:((56:Int)==56)=X:=rfl;have bs:∀ s:Zi,(s==s)=X:=λs=>beq_self_eq_true s;have b1:decide ((1:Int)<=1)=X:=rfl;refine⟨H5,?_⟩;rw[Zj9];unfold Zd6;simp only[s1,go_sem,en,Zgw,ZAV,bwA,bwV,g1,F,H,q1,zD,zE,g,L,ZyY,b0,R,D,j,u,l0,l1,Zu,bs,cM,T,b5,f2,Z,E,b3,b1]
theorem Zkj (H:Hp):Ze Dl [] H=K (.bool X,H):=by
 obtain⟨H',h⟩:=Zwl;exact Xi (args':=[]) rfl h rfl
set_option linter.unusedSectionVars false
theorem ZvU {a q x:AV}{L:Loc}{p:Spec}{l:List Zi}(ha:LocAV a L)(Z:SpecAV q p)(hx:SS x l)(T:O l<=40)(j:∀ s∈l,O s<=200){mem w:Int}(B:¬ Wb p mem w l=0)(t:Nat)(H:Hp) :
 ∃ H',U6 [.ptr t 0,a,q,.agg [Q J mem,Q J w],x] H=K (.tuple [.nils,YN ⟨0,0,0,0⟩,Q J (Wb p mem w l)],H')/\Stp [] H H':=by
 have g:YE l:=λs hs=>by have:=j s hs;omega
 have C:=Z;obtain⟨lx,cl,e,rfl,ac,aa,ab⟩:=ha;obtain⟨xp,rfl,ad⟩:=Z;have b0:ZF (.agg (L.cells lx cl e)) H=K (.ptr (O H) 0,H++[zA (L.cells lx cl e)]):=ZW _ _;have b1:ZF (.agg (p.cells xp)) (H++[zA (L.cells lx cl e)])=K (.ptr (O H+1) 0,H++[zA (L.cells lx cl e),.cells (p.cells xp)]):=by rw[ZW];simp
 have b2:ZF (.agg [Q J mem,Q J w]) (H++[zA (L.cells lx cl e),.cells (p.cells xp)])=K (.ptr (O H+2) 0,H++[zA (L.cells lx cl e),.cells (p.cells xp),.cells [Q J mem,Q J w]]):=by rw[ZW];simp
 have l3:(H++[zA (L.cells lx cl e),.cells (p.cells xp),.cells [Q J mem,Q J w]]).length=O H+3:=cn
 have l4:(H++[zA (L.cells lx cl e),.cells (p.cells xp),.cells [Q J mem,Q J w]]++[zA [Q J 0,Q J 0,Q J 0,Q J 0]]).length=O H+4:=cn
 have e5:H++[zA (L.cells lx cl e),.cells (p.cells xp),.cells [Q J mem,Q J w]]++[zA [Q J 0,Q J 0,Q J 0,Q J 0]]++[zA [Q J 0]]=H++[zA (L.cells lx cl e),.cells (p.cells xp),.cells [Q J mem,Q J w],.cells (ZC ⟨0,0,0,0⟩),.cells [Q J 0]]:=by simp[ZC]
 have F:(H++[zA (L.cells lx cl e),.cells (p.cells xp),.cells [Q J mem,Q J w],.cells (ZC ⟨0,0,0,0⟩),.cells [Q J 0]])[O H+1]?=K (.cells (p.cells xp)):=cn
 have M:(H++[zA (L.cells lx cl e),.cells (p.cells xp),.cells [Q J mem,Q J w],.cells (ZC ⟨0,0,0,0⟩),.cells [Q J 0]])[O H+2]?=K (.cells [Q J mem,Q J w]):=cn
 have N:(H++[zA (L.cells lx cl e),.cells (p.cells xp),.cells [Q J mem,Q J w],.cells (ZC ⟨0,0,0,0⟩),.cells [Q J 0]])[O H+3]?=K (.cells (ZC ⟨0,0,0,0⟩)):=cn
 have R:(H++[zA (L.cells lx cl e),.cells (p.cells xp),.cells [Q J mem,Q J w],.cells (ZC ⟨0,0,0,0⟩),.cells [Q J 0]])[O H+4]?=K (.cells [Q J 0]):=cn
 have t1:Stp [] H (H++[zA (L.cells lx cl e),.cells (p.cells xp),.cells [Q J mem,Q J w],.cells (ZC ⟨0,0,0,0⟩),.cells [Q J 0]]):=Stp.push _ _;rw[LT];unfold PV;simp only[b0,b1,b2,go_sem,l3,l4,e5];generalize H++[zA (L.cells lx cl e),.cells (p.cells xp),.cells [Q J mem,Q J w],.cells (ZC ⟨0,0,0,0⟩),.cells [Q J 0]]=H1 at F M N R t1;have s5:=X6 F;have sz:Z2 X 2 (.ptr (O H+2) 0) H1=K (.agg [Q J mem,Q J w]):=by rw[Yk M];rfl
 obtain⟨u,q1,E⟩:=Zl2 hx g cm C mem w t H1;have nn:∀ i,i∉([]:da):=λi h=>by cases h
 have S:=E.get N (nn _);have g4:=E.get R (nn _);have A:(Wb p mem w l != 0)=X:=by simpa using B
 have z3:=YL (off:=0) (sz:=4) (v:=YN ⟨0,0,0,0⟩) S rfl rfl (by simp[ZC]);have k3:=Zs (zA (splice (ZC ⟨0,0,0,0⟩) 0 (YN ⟨0,0,0,0⟩).cells)) S;have D:=Y2 (zA (splice (ZC ⟨0,0,0,0⟩) 0 (YN ⟨0,0,0,0⟩).cells)) (show O H+3≠O H+4 by omega) g4;have t3:Stp [O H+3,O H+4] u (u.set (O H+3) (.cells (splice (ZC ⟨0,0,0,0⟩) 0 (YN ⟨0,0,0,0⟩).cells))):=Stp.set _ _ cn;have hz:YN ⟨0,0,0,0⟩=.agg [Q J 0,Q J 0,Q J 0,Q J 0]:=rfl;generalize u.set (O H+3) (.cells (splice (ZC ⟨0,0,0,0⟩) 0 (YN ⟨0,0,0,0⟩).cells))=y at z3 k3 D t3;have z4:=Vb D 0 (v:=Q J (Wb p mem w l)) rfl rfl cn;have m3:=Y2 (zA (zH [zB .i64 0] 0 (Q J (Wb p mem w l)))) (show O H+4≠O H+3 by omega) k3;have m4:=Zs (zA (zH [zB .i64 0] 0 (Q J (Wb p mem w l)))) D;have t4:Stp [O H+3,O H+4] y (y.set (O H+4) (.cells (zH [zB .i64 0] 0 (Q J (Wb p mem w l))))):=Stp.set _ _ cn;generalize y.set (O H+4) (.cells (zH [zB .i64 0] 0 (Q J (Wb p mem w l))))=z at z4 m3 m4 t4;have v3:Z2 X 4 (.ptr (O H+3) 0) z=K (YN ⟨0,0,0,0⟩):=by rw[Yk m3];rfl
 have v4:=ZU m4 0 (v:=Q J (Wb p mem w l)) rfl;have t2:Stp [] H u:=t1.trans E (λ_ h=>h) λa h=>.inl h;have t5:Stp [] H y:=t2.trans t3 (λ_ h=>h) λa h=>.inr (by simp at h;omega);have t6:Stp [] H z:=t5.trans t4 (λ_ h=>h) λa h=>.inr (by simp at h;omega);rw[hz]at z3 v3;refine⟨z,?_,t6⟩;simp only[go_sem,s5,sz,q1,A,z3,z4,v3,v4,hz]
theorem Ztc {a q x:AV}{L:Loc}{p:Spec}{l:List Zi}(M:LocAV a L)(C:LocOk L)(D:LocSm L)(N:SpecAV q p)(A:∀ k∈p.keys,KeOk k)(z:O p.keys<=1048576)(R:SS x l)(u:O l<=40)(j:∀ s∈l,O s<=200)
 (mem w:Int) {t:Nat} {S0:da} {H:Hp} (h:StoreAt H t ⟨262144,0,[],Y,0⟩ S0) :
 ∃ H' y,U6 [.ptr t 0,a,q,.agg [Q J mem,Q J w],x] H=K (.tuple [y,YN (if Wb p mem w l=0 then Gi L p mem w.toNat l else ⟨0,0,0,0⟩),Q J (Wb p mem w l)],H') /\
  SS y (if Wb p mem w l=0 then ZX L p l else [])/\Stp S0 H H':=by
 by_cases g:Wb p mem w l=0
 ·rw[if_pos g,if_pos g,g];obtain⟨Z,aa,ab,ac,ad⟩:=Zkk g;obtain⟨T,rfl⟩:∃ T:Nat,w=(T:Int):=⟨w.toNat,cm⟩;rw[Int.toNat_natCast];obtain⟨H',y,pk,S,E,F,r3,r4,r5,r6,r7⟩:=ZmO M C D N A z R u j ZbT g h cm (Zix ((XS.start (B:=[]) (pk:=0) cm).stoOk ZbT) rfl);exact⟨H',y,E,F,r5⟩
 ·rw[if_neg g,if_neg g];obtain⟨H',E,F⟩:=ZvU M N R u j g t H;exact⟨H',.nils,E,.inl ⟨rfl,rfl⟩,F.mono λa h=>by cases h⟩
theorem Ztd {x:AV}{p:Spec}{xp:AV}{mem w:Int}{l:List Zi}(ag:Sl 5 xp (p.keys.map Ke.av))(aa:∀ k∈p.keys,KeOk k)(am:O p.keys<=1048576)(hx:SS x l)(hL:YE l)(hl:O l<=1048576) :
 ∃ H',Mo [.agg (We p xp mem w),x] []=K (.bool X,H'):=by
 have ae:SpecAV (.agg (p.cells xp)) p:=⟨xp,rfl,ag⟩;have M:=ZxE (p:=p) (xp:=xp) (mem:=mem) (w:=w) [];have e1:([]++[zA (We p xp mem w)]:Hp)[0]?=K (.cells (We p xp mem w)):=rfl;have a7:Z2 X 7 (.ptr 0 0) ([]++[zA (We p xp mem w)])=K (.agg (We p xp mem w)):=Zze (p:=p) (xp:=xp) (mem:=mem) (w:=w) [];obtain⟨b,f1,f2⟩:=Zrz hx hl hL ([]++[zA (We p xp mem w)]);have f3:=Zos (p:=p) (mem:=mem) (w:=w) ag ([]++[zA (We p xp mem w)]);have el:([]:Hp).length=0:=rfl;rw[el]at M;have ab:([]++[zA (We p xp mem w)]:Hp).length=1:=rfl;generalize ([]++[zA (We p xp mem w)]:Hp)=H1 at M a7 f1 f3 e1 ab;rw[aB];unfold Mp
 cases b with
 |false=>exact⟨H1,by simp only[M,go_sem,f1,zF,Zkj]⟩
 |true =>
 obtain⟨B,u⟩:=f2 rfl
 cases hk:decide ((O p.keys:Int)<=10) with
 |false=>exact⟨H1,by simp only[M,go_sem,f1,zG,a7,f3,hk,zF,Zkj]⟩
 |true =>
 have z1:=Zif e1;have A:(H1.set 0 .dead).length=1:=by simp[ab]
 simp only[M,go_sem,f1,zG,a7,f3,hk,zF,Oa,z1];generalize H1.set 0 .dead=H2 at A;obtain⟨H3,s1,s2,s3⟩:=Zq5 262144 cm (H2++[.free]);have ap:(min (max (262144:Int) 0) 262144).toNat=262144:=rfl;rw[ap]at s2;have E:(H2++[AObj.free]).length=2:=by simp[A]
 rw[E]at s1 s2;obtain⟨ad,g1,g2⟩:=FM H3;obtain⟨L,y,r1,r2,r3⟩:=Ztc g2 Zrk Zyk ae aa am hx B u mem w s2;have al:H3[1]?=K .free:=by rw[s3,zC cm,List.getElem?_append_right cm,A];rfl
 have T:=r3.get al cn;have ak:=ZkY (l:=[zB .i64 0,Q J 0,Q J 0,Q J 0]) T;have af:=Zs (zA [zB .i64 0,Q J 0,Q J 0,Q J 0]) T;have ax:=r3.len;have aw:O H3=4:=by rw[s3,List.length_append,E];rfl
 have an:(L.set 1 (.cells [zB .i64 0,Q J 0,Q J 0,Q J 0])).length=O L:=zI ..;generalize hR:(if Wb p mem w l=0 then Gi defL p mem w.toNat l else ⟨0,0,0,0⟩:Stt)=R at r1;have z:=YL (off:=0) (sz:=4) (v:=YN R) af rfl rfl cn;have N:splice [zB .i64 0,Q J 0,Q J 0,Q J 0] 0 (YN R).cells=ZC R:=rfl;rw[N]at z;have h6:=Zs (zA (ZC R)) af;have ao:((L.set 1 (.cells [zB .i64 0,Q J 0,Q J 0,Q J 0])).set 1 (.cells (ZC R))).length=O L:=by rw[zI,an]
 generalize ((L.set 1 (.cells [zB .i64 0,Q J 0,Q J 0,Q J 0])).set 1 (.cells (ZC R)))=D at z h6 ao;obtain⟨au,k1,k2⟩:=FM (D++[.free]);obtain⟨H7,y2,t1,t2,t3,t4⟩:=Zta k2 Zrk ae aa hx B u mem w (D++[.free]);rw[hR]at t1;have Z:H7[O D]?=K .free:=by rw[t3 _ cn];simp
 have ai:H7[1]?=K (.cells (ZC R)):=by rw[t3 _ (by simp;omega),zC cm];exact h6
 have S:=ZkY (l:=[zB .i64 0,Q J 0,Q J 0,Q J 0]) Z;have C:=Zs (zA [zB .i64 0,Q J 0,Q J 0,Q J 0]) Z;have aj:=Y2 (zA [zB .i64 0,Q J 0,Q J 0,Q J 0]) (show O D≠1 by omega) ai;have g:=YL (off:=0) (sz:=4) (v:=YN R) C rfl rfl cn;rw[N]at g;have j:=Zs (zA (ZC R)) C;have h:=Y2 (zA (ZC R)) (show O D≠1 by omega) aj;generalize ((H7.set (O D) (.cells [zB .i64 0,Q J 0,Q J 0,Q J 0])).set (O D) (.cells (ZC R)))=H9 at g j h
 have ac:(if Wb p mem w l=0 then ZX defL p l else []).length<=1048576:=by
  split
  ·exact Nat.le_trans (IJ defL p l) hl
  ·exact Nat.zero_le _
 have F:=ZpT r2 t2 ac H9;have ah:(Wb p mem w l==Wb p mem w l)=X:=beq_self_eq_true _;have a0:=ZU h 0 (v:=Q J R.r) rfl;have a1:=ZU h 1 (v:=Q J R.m) rfl;have a2:=ZU h 2 (v:=Q J R.y) rfl;have a3:=ZU h 3 (v:=Q J R.k) rfl;have c0:=ZU j 0 (v:=Q J R.r) rfl;have c1:=ZU j 1 (v:=Q J R.m) rfl;have c2:=ZU j 2 (v:=Q J R.y) rfl;have c3:=ZU j 3 (v:=Q J R.k) rfl;have q0:(R.r==R.r)=X:=beq_self_eq_true _;have q1:(R.m==R.m)=X:=beq_self_eq_true _;have q2:(R.y==R.y)=X:=beq_self_eq_true _;have q3:(R.k==R.k)=X:=beq_self_eq_true _;have ar:∀ H:Hp,Z2 X 5 (.vp (We p xp mem w)) H=K (.agg (p.cells xp)):=λ_=>rfl;have aq:∀ H:Hp,Z2 X 2 (.vp [Q J mem,Q J w]) H=K (.agg [Q J mem,Q J w]):=λ_=>rfl;refine⟨H9,?_⟩;simp only[A,E,s1,g1,go_sem,Zzf,Zzg,Zv3,Zv2,r1,zD,zE,Nat.add_zero,Nat.zero_add,Nat.reduceAdd,ak,z,k1,ar,aq,t1,S,g,ah,F,a0,a1,a2,a3,c0,c1,c2,c3,q0,q1,q2,q3,Zkj]
end Go.Am
