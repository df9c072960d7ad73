/- The N3 of ExtsortBounds in the machine -/
import Derived.Test.YtnaneekpogohaaaGreatDoorXeLax
open List renaming getElem?_cons_zero->zE,getElem?_cons_succ->zF
open Nat renaming le_refl->zI
open Bool renaming not_false->zD,not_true->zG
open Int renaming le_refl->zA,le_trans->zH
open Go.Am.AObj renaming cells->zB
open Go.Am.AV renaming int->zC
namespace Go.Am
set_option linter.unusedSectionVars false
set_option maxRecDepth 100000
def NH (l:List Zi):List Int:=l.map fun s=>(s.length:Int)
theorem Zrc (mem:Int):∀ (r d:List Zi),Wg mem d.length (((UO (ZZ cS mem d)).length:Int),(ZZ cS mem d).cost) (NH r)=(((UO (ZZ cS mem (d++r))).length:Int),(ZZ cS mem (d++r)).cost):=by
 intro r
 induction r with
 |nil=>intro d;simp[NH,Wg]
 |cons x r B =>
  intro d;show Wg mem (d.length+1) (KP mem d.length (((UO (ZZ cS mem d)).length:Int),(ZZ cS mem d).cost) (x.length:Int)) (NH r)=_;have A:=IR cS mem d x
  have j:KP mem d.length (((UO (ZZ cS mem d)).length:Int),(ZZ cS mem d).cost) (x.length:Int)=(((UO (ZZ cS mem (d++[x]))).length:Int),(ZZ cS mem (d++[x])).cost):=by
   rw[A];have g:cS x=(x.length:Int)+16:=rfl;unfold KP JC;by_cases y:d=[]
   ·subst y;simp[ZZ,UO,g]
   ·have w:=Zse cS mem y;have z:¬ d.length=0:=fun e=>y (List.length_eq_zero_iff.1 e);by_cases u:mem<(ZZ cS mem d).cost+((x.length:Int)+16)
    ·rw[if_pos (.inr u),if_pos ⟨w,u⟩];unfold UO;rw[if_neg w,if_neg (by simp)];simp[g];omega
    ·rw[if_neg (by simp[z,u]),if_neg (fun h=>u h.2)];unfold UO;rw[if_neg w,if_neg (by simp)];simp[g]
  rw[j];have:=B (d++[x]);rw[List.length_append,List.length_singleton]at this;rw[this];simp
theorem Zsr (w:Int):∀ (f:Nat) (k a:Int),a<=QH w f k a:=by
 intro f
 induction f with
 |zero=>intro k a;exact zA _
 |succ f g =>
  intro k a;simp only[QH];split
  ·have:=g ((k+w-1) / w) (a+1);omega
  ·exact zA _
theorem Zne (w n:Int)(f:Nat):QH w (f+1) n 0=0↔¬ w<n:=by
 simp only[QH];split
 ·have:=Zsr w f ((n+w-1) / w) (0+1);rename_i h;constructor
  ·intro e;omega
  ·intro e;exact absurd h e
 ·rename_i h;exact⟨fun _=>h,fun _=>rfl⟩
theorem ZB2 {L:Loc}{p:Spec}{k:Nat}{G P:List Pr}{st:Stt}:st.m<=(gT L p k G P st).m/\(2<=G.length->st.m+1<=(gT L p k G P st).m):=by
 match G with
 |[]=>exact⟨by show st.m<=st.m+1;omega,fun h=>absurd h (by simp)⟩
 |[x]=>exact⟨zA _,fun h=>absurd h (by simp)⟩
 |x::y::r=>exact⟨by show st.m<=st.m+1;omega,fun _=>zA _⟩
theorem ZtJ {L:Loc}{p:Spec}{w:Nat}{R:List Pr}(a:PSt):∀ q,a.st.m<=(Yz L p w R q a).st.m/\(2<=w->w<=R.length->0<q->a.st.m+1<=(Yz L p w R q a).st.m):=by
 intro q
 induction q with
 |zero=>exact⟨zA _,fun _ _ h=>absurd h (by omega)⟩
 |succ q A =>
  obtain⟨j,u⟩:=A;have g:=ZB2 (L:=L) (p:=p) (k:=(Yz L p w R q a).k) (G:=YP w R q) (P:=(Yz L p w R q a).P) (st:=(Yz L p w R q a).st);refine⟨zH j g.1,fun hw y _=>?_⟩;by_cases z:q=0
  ·subst z;have B:(YP w R 0).length=w:=by unfold YP;rw[List.length_take,List.length_drop];omega
   exact g.2 (by omega)
  ·have:=u hw y (by omega);exact zH this g.1
theorem ZAf {L:Loc}{p:Spec}{w:Nat}:∀ (f:Nat) (a:PSt),a.st.m<=(K3 L p w f a).st.m:=by
 intro f
 induction f with
 |zero=>intro a;exact zA _
 |succ f g =>
  intro a;simp only[K3];split
  ·exact zH (ZtJ ⟨[],a.P,a.k,a.st⟩ (YN w a.O.length)).1 (g _)
  ·exact zA _
theorem ZnK {L:Loc}{p:Spec}{mem:Int}{w:Nat}{l:List Zi}(hw:2<=w):((Wk L p mem w l).m==0)=!(decide (w<(ZI mem l).length)):=by
 have g:(wP L p [] 0 (ZI mem l)).length=(ZI mem l).length:=by rw[ZuF];simp
 have j:=(ZxW L p (ZI mem l) [] 0 ⟨0,0,0,0⟩).2;unfold Wk;have z:K3 L p w 40 (Vm L p (ZI mem l))=if w<(wP L p [] 0 (ZI mem l)).length then K3 L p w 39 (NR L p w (Vm L p (ZI mem l))) else Vm L p (ZI mem l):=rfl;rw[z,g];by_cases h:w<(ZI mem l).length
 ·rw[if_pos h,decide_eq_true h]
  have u:=(ZtJ (L:=L) (p:=p) (w:=w) (R:=(Vm L p (ZI mem l)).O) ⟨[],(Vm L p (ZI mem l)).P,(Vm L p (ZI mem l)).k,(Vm L p (ZI mem l)).st⟩ (YN w (Vm L p (ZI mem l)).O.length)).2 hw (by show w<=(wP L p [] 0 (ZI mem l)).length;omega) (by
   have:=Zfh (w:=w) (i:=(Vm L p (ZI mem l)).O.length) (by omega);have y:(Vm L p (ZI mem l)).O.length=(ZI mem l).length:=g;refine Nat.pos_of_ne_zero fun e=>?_;rw[e,Nat.zero_mul]at this;omega)
  have A:=ZAf (L:=L) (p:=p) (w:=w) 39 (NR L p w (Vm L p (ZI mem l)));have B:(Vm L p (ZI mem l)).st.m=0:=j;have C:(Vm L p (ZI mem l)).st.m+1<=(NR L p w (Vm L p (ZI mem l))).st.m:=u;have:¬ (K3 L p w 39 (NR L p w (Vm L p (ZI mem l)))).st.m=0:=by omega
  simpa using this
 ·rw[if_neg h,decide_eq_false h];have:(Vm L p (ZI mem l)).st.m=0:=j;simpa using this
def DL (l:List Zi):Int:=l.foldl (fun n s=>max n ((s.length:Int)+16)) 0
theorem Zjz (d:List Zi)(s:Zi):DL (d++[s])=max (DL d) ((s.length:Int)+16):=by simp[DL]
theorem Ztj:∀ (l:List Zi),0<=DL l/\∀ s∈l,(s.length:Int)+16<=DL l:=by
 intro l
 have key:∀ (l:List Zi) (n:Int),n<=l.foldl (fun n s=>max n ((s.length:Int)+16)) n/\∀ s∈l,(s.length:Int)+16<=l.foldl (fun n s=>max n ((s.length:Int)+16)) n:=by
  intro l
  induction l with
  |nil=>intro n;exact⟨zA _,fun s g=>by cases g⟩
  |cons x l u =>
   intro n;obtain⟨w,j⟩:=u (max n ((x.length:Int)+16));rw[List.foldl_cons];refine⟨by omega,fun s g=>?_⟩;rcases List.mem_cons.1 g with rfl|g
   ·omega
   ·exact j s g
 exact key l 0
theorem ZB5 (L:Loc)(p:Spec)(M:Int):∀ (r:List (List Zi)) (P:List Pr) (k:Nat) (st:Stt),st.y<=M->(∀ c∈r,Xs cS c<=M)->(wT L p P k st r).y<=M:=by
 intro r
 induction r with
 |nil=>intro P k st h _;exact h
 |cons c r u =>
  intro P k st h g;simp only[wT];refine u _ _ _ ?_ fun d j=>g d (by simp[j]);have:=g c (by simp);show max st.y (Xs cS c)<=M;omega
theorem Ztm (L:Loc)(p:Spec)(mem:Int)(E:0<=mem)(l:List Zi):(wT L p [] 0 ⟨0,0,0,0⟩ (ZI mem l)).y<=max mem (DL l):=by
 have B:=Ztj l;refine ZB5 L p _ _ _ _ _ (by show (0:Int)<=_;omega) fun c g=>?_;have z:=ZgN cS mem l;obtain⟨w,A⟩:=Zl0 mem l
 have u:c∈(ZZ cS mem l).done++[(ZZ cS mem l).cur]:=by
  unfold ZI UO at g;split at g
  ·exact List.mem_append_left _ g
  ·exact g
 by_cases j:1<c.length
 ·have:=z.fit c u j;omega
 ·have C:=List.length_pos_iff.2 (A c g)
  match c,C,j,g with
  |[s],_,_,g =>
   have D:s∈l:=by rw[<-w];exact List.mem_flatten.2 ⟨[s],g,by simp⟩
   have:=B.2 s D;show (0:Int)+cS s<=_;unfold cS;omega
  |x::y::r,_,j,_=>simp at j
section
variable {x2 x6 x7:AV}
theorem Zn6 {x:AV}{l:List Zi}(M:SS x l)(hl:l.length<=40)(Q:∀ s∈l,s.length<=200){N:Nat}(F:Hp):∀ (r d:List Zi) (C:AV) (H:Hp),l=d++r->RowN N H 1 C ((NH d).map (zC .i64))->N<=H.length->DL d<=1000 ->
 ∃ (j:AV) (H':Hp),VB x x2 x6 x7 (.int .i64 (DL d)) C (.int .i64 (d.length:Int)) F H=J0 x2 x6 x7 (.int .i64 (DL l)) j F H'/\Sl 1 j ((NH l).map (zC .i64))/\(∀ a,a<N->H'[a]?=H[a]?):=by
 have L:=SS.len M 9;intro r
 induction r with
 |nil =>
  intro d C H y g I u;rw[List.append_nil]at y;subst y;have w:decide ((l.length:Int)<(l.length:Int))=false:=by simp
  refine⟨C,H,?_,g.sl,fun _ _=>rfl⟩;rw[GF];simp only[go_sem,L,w]
 |cons s r R =>
  intro d C H y g I u;have K:l.length=d.length+(r.length+1):=by rw[y];simp
  have w:decide ((d.length:Int)<(l.length:Int))=true:=by rw[decide_eq_true_eq];omega
  have A:l[d.length]?=some s:=by rw[y,List.getElem?_append_right (zI _)];simp
  have hs:=Q s (List.mem_of_getElem? A);have z:=SS.idx M A;have D:IntKind.i64.wrap ((d.length:Int)+1)=((d++[s]).length:Int):=by rw[Zo (by omega) (by omega)];simp
  have E:IntKind.i64.wrap ((s.length:Int)+16)=(s.length:Int)+16:=Zo (by omega) (by omega);have B:(ZE 1 [(0,zC .i64 (s.length:Int))] [(.int .i64 0)]).map (AV.vs 1 .clip)=some (.vs 1 .clip [.int .i64 (s.length:Int)]):=rfl;obtain⟨Z,O,V,W,X,Y,_⟩:=g.app I 8 (.vs 1 .clip [.int .i64 (s.length:Int)]) [.int .i64 (s.length:Int)] rfl (by simp[NH];omega)
  obtain⟨j,H',S,T,U⟩:=R (d++[s]) Z O (by rw[y];simp) (by
   have:(NH (d++[s])).map (zC .i64)=(NH d).map (zC .i64)++[.int .i64 (s.length:Int)]:=by simp[NH]
   rw[this];exact W) X (by rw[Zjz];omega)
  refine⟨j,H',?_,T,fun a J=>(U a J).trans (Y a J)⟩;rw[GF];simp only[go_sem,L,w,Sj,z,ZB,E,B,V,Sk,D];rw[<-Zjz];exact S
end
theorem ZoT {x:AV}{p:Spec}{xp:AV}{mem w:Int}{l:List Zi}(V:Sl 5 xp (p.keys.map Ke.av))(aj:∀ k∈p.keys,KeOk k)(ai:p.keys.length<=1048576)(Z:SS x l)(hL:Wc l)(hl:l.length<=1048576) :
 ∃ H',RV [.agg (XD p xp mem w),x] []=some (.bool true,H'):=by
 have T:SpecAV (.agg (p.cells xp)) p:=⟨xp,rfl,V⟩;have M:=ZwK (p:=p) (xp:=xp) (mem:=mem) (w:=w) [];have X:([]++[zB (XD p xp mem w)]:Hp)[0]?=some (.cells (XD p xp mem w)):=rfl;have W:Z3 true 7 (.ptr 0 0) ([]++[zB (XD p xp mem w)])=some (.agg (XD p xp mem w)):=ZyX (p:=p) (xp:=xp) (mem:=mem) (w:=w) [];have I:=ZwM X;have az:=ZwL X;obtain⟨b,Q,f2⟩:=Zq3 Z hl hL ([]++[zB (XD p xp mem w)]);have Y:=Zmu (p:=p) (mem:=mem) (w:=w) V ([]++[zB (XD p xp mem w)]);have f4:=ZtS Z hL hl T mem w ([]++[zB (XD p xp mem w)]);have el:([]:Hp).length=0:=rfl;rw[el]at M;have R:=ZlH X;generalize ([]++[zB (XD p xp mem w)]:Hp)=H1 at M W I az Q Y f4 X R;rw[Hn];unfold RW
 cases b with
 |false=>exact⟨H1,by simp only[M,go_sem,Q,zD,MJ]⟩
 |true =>
 obtain⟨F,j⟩:=f2 rfl
 cases hk:decide ((p.keys.length:Int)<=10) with
 |false=>exact⟨H1,by simp only[M,go_sem,Q,zG,W,Y,hk,zD,MJ]⟩
 |true =>
 cases J:IQ p mem w l != 0 with
 |true=>exact⟨H1,by simp only[M,go_sem,Q,zG,W,Y,hk,zD,Ef,ZsK,I,az,f4,J,MJ]⟩
 |false =>
 have E:IQ p mem w l=0:=by simpa using J
 obtain⟨_,ax,ay,ba,bb⟩:=Zoa E;obtain⟨g,rfl⟩:∃ g:Nat,w=(g:Int):=⟨w.toNat,by omega⟩;simp only[M,go_sem,Q,zG,W,Y,hk,zD,Ef,ZsK,I,az,f4,J,Sh,R]
 -- the store
 obtain⟨H2,s1,s2,s3⟩:=ZxZ 262144 (by omega) (H1.set 0 .dead++[.free]);have ao:(min (max (262144:Int) 0) 262144).toNat=262144:=rfl;rw[ao]at s2
 have D:H2[(H1.set 0 .dead).length]?=some .free:=by
  rw[s3,List.getElem?_append_left (by simp)];simp
 have S:StoOk ⟨262144,0,[],false,0⟩:=(XS.start (B:=[]) (pk:=0) (by omega)).stoOk Zo7;obtain⟨ad,d1,d2⟩:=Zan H2;obtain⟨H3,y,bc,S3,r1,r2,r3,r4,r5,r6,r7⟩:=ZuP d2 ZAE ZAF T aj ai Z F j Zo7 E s2 (by omega) (ZqT S rfl);have al:(H1.set 0 .dead).length∉[(H1.set 0 .dead++[AObj.free]).length+1,(H1.set 0 .dead++[AObj.free]).length]:=by simp;omega
 have u:=r5.get D al;have ae:=ZrN (l:=[zC .i64 0,.int .i64 0,.int .i64 0,.int .i64 0]) u;have H:=Zt (zB [zC .i64 0,.int .i64 0,.int .i64 0,.int .i64 0]) u;have C:=UL (off:=0) (sz:=4) (v:=Zxd (Wk defL p mem g l)) H rfl rfl (by simp);have ab:splice [zC .i64 0,.int .i64 0,.int .i64 0,.int .i64 0] 0 (Zxd (Wk defL p mem g l)).cells=[.int .i64 (Wk defL p mem g l).r,.int .i64 (Wk defL p mem g l).m,.int .i64 (Wk defL p mem g l).y,.int .i64 (Wk defL p mem g l).k]:=rfl;rw[ab]at C;have z:=Zt (zB [zC .i64 (Wk defL p mem g l).r,.int .i64 (Wk defL p mem g l).m,.int .i64 (Wk defL p mem g l).y,.int .i64 (Wk defL p mem g l).k]) H;generalize aw:((H3.set (H1.set 0 .dead).length (.cells [zC .i64 0,.int .i64 0,.int .i64 0,.int .i64 0])).set (H1.set 0 .dead).length (.cells [zC .i64 (Wk defL p mem g l).r,.int .i64 (Wk defL p mem g l).m,.int .i64 (Wk defL p mem g l).y,.int .i64 (Wk defL p mem g l).k]))=H5 at C z;obtain⟨x9,O,m1,m2,m3⟩:=Zn6 (x2:=.vp (XD p xp mem (g:Int))) (x6:=.ptr (H1.set 0 .dead).length 0) (x7:=.int .i64 0) Z F j (N:=H5.length) [] l [] .nils H5 rfl (RowN.nil _ _ _) (zI _) (by show (0:Int)<=_;omega);have A:O[(H1.set 0 .dead).length]?=some (.cells [zC .i64 (Wk defL p mem g l).r,.int .i64 (Wk defL p mem g l).m,.int .i64 (Wk defL p mem g l).y,.int .i64 (Wk defL p mem g l).k]):=(m3 _ (Zg z)).trans z
 -- the numbers
 have ah:=Zso m2 (by simp[NH];omega) mem (g:Int) O;have ap:Q7 mem (g:Int)=true:=by unfold Q7;simp;omega
 have am:∀ v∈NH l,OB v:=fun v hv=>by
  obtain⟨s,hs,rfl⟩:=List.mem_map.1 hv;have:=j s hs;exact⟨by omega,by omega⟩
 have K:=Zrc mem l [];rw[List.nil_append]at K;have U:(((UO (ZZ cS mem ([]:List Zi))).length:Int),(ZZ cS mem ([]:List Zi)).cost)=((0:Int),(0:Int)):=rfl;rw[U,List.length_nil]at K
 have ag:Pu mem (g:Int) (NH l)=(((ZI mem l).length:Int),QH (g:Int) 400 ((ZI mem l).length:Int) 0):=by
  unfold Pu;rw[if_pos ⟨ap,am⟩,K];rfl
 have hr:(Wk defL p mem g l).r=((ZI mem l).length:Int):=r7.ry.1
 have hy:(Wk defL p mem g l).y<=max mem (DL l):=by
  have h1:(Wk defL p mem g l).y=(wT defL p [] 0 ⟨0,0,0,0⟩ (ZI mem l)).y:=r7.ry.2;rw[h1];exact Ztm defL p mem (by omega) l
 have c1:decide ((Wk defL p mem g l).y<=max mem (DL l))=true:=decide_eq_true hy;have c2:((Wk defL p mem g l).r==((ZI mem l).length:Int))=true:=by rw[hr];simp
 have ak:=ZnK (L:=defL) (p:=p) (mem:=mem) (l:=l) (show 2<=g by omega)
 have an:(QH (g:Int) 400 ((ZI mem l).length:Int) 0==0)=!(decide (g<(ZI mem l).length)):=by
  have:=Zne (g:Int) ((ZI mem l).length:Int) 399;rw[Bool.eq_iff_iff];simp only[beq_iff_eq,Bool.not_eq_true',decide_eq_false_iff_not];rw[this];omega
 have l0:=ZU A 0 (v:=.int .i64 (Wk defL p mem g l).r) rfl;have lm:=ZU A 1 (v:=.int .i64 (Wk defL p mem g l).m) rfl;have ly:=ZU A 2 (v:=.int .i64 (Wk defL p mem g l).y) rfl;have au:Z3 true 2 (.vp [.int .i64 mem,.int .i64 (g:Int)]) O=some (.agg [.int .i64 mem,.int .i64 (g:Int)]):=rfl;have ar:Z3 false 1 (.vp [.int .i64 mem,.int .i64 (g:Int)]) O=some (.int .i64 mem):=rfl;have ac:Z6 0 (.vp [zC .i64 mem,.int .i64 (g:Int)])=some (.vp [.int .i64 mem,.int .i64 (g:Int)]):=rfl;have aa:((0:Int)==0)=true:=rfl;have af:((!(decide (g<(ZI mem l).length)))==(!(decide (g<(ZI mem l).length))))=true:=beq_self_eq_true _;refine⟨O,?_⟩;have aq:DL ([]:List Zi)=0:=rfl;rw[aq]at m1;simp only[s1,d1,go_sem,ZyY,Zor,ZtI,ZtH,r1,zE,zF,Nat.add_zero,ae,C];refine m1.trans ?_;rw[Si];simp only[go_sem,Zor,au,ah,ag,zE,zF,aa,Nat.zero_add,ly,ac,ar,c1,l0,c2,lm,ak,an,af,MJ]
end Go.Am
