/- Dividing lines into Vr -/
import Derived.Test.YtjmhpjoedfegkaaGreatDoorRwSmx
import Derived.Test.YtjmhpjoedfegkaaGreatDoorRwQbx
import Derived.Test.YtjmhpjoedfegkaaGreatDoorRwGPx
import Derived.Test.YtjmhpjoedfegkaaGreatDoorRwGRx
import Derived.Sort.Walk0
open Option renaming some->K,none->V
open Bool renaming true->Y,false->I
open List renaming length->Z
open Go.dw renaming b5->X,dh->U
open Go.Am.AV renaming int->Q
open Go.IntKind renaming i64->J
open Go.IntKind renaming i64->xV
open List renaming length_singleton->zA,length_append->zB,getElem?_append_right->zD,append_nil->zH,mem_singleton->zI,mem_cons->zK,set->zL,length_map->zM,append_assoc->zN,getElem?_cons_zero->zQ,getElem?_cons_succ->zR,mem_append->zS,map_append->zT,drop_eq_getElem_cons->zV,map_cons->zW,getElem?_append_left->zX,getElem?_eq_getElem->zZ,length_take->yB,mem_map_of_mem->yC,nodup_append->yF,length_cons->yG,cons_append->yH,drop_eq_nil_iff->yK,getElem?_set_ne->yL,drop_append_of_le_length->yM,length_pos_iff->yO,flatMap_append->yP,pairwise_cons->yQ,flatten_cons->yR,flatMap_cons->yS,all_cons->yT,getElem?_eq_some_iff->yV,mem_map->yW,pairwise_mergeSort->yX,nodup_cons->yY,length_nil->yZ,length_filter_le->xB,mem_append_right->xC,mem_of_getElem?->xD,range->xE,all_nil->xI,flatten_nil->xK,mem_filter->xO,lt_irrefl->xP,map_nil->xS,length->xT,not_lt->xU
open Nat renaming zero_add->zC,le_refl->zE,le_trans->zU,le_succ_of_le->zY,add_zero->yN,zero_le->xA,lt_of_le_of_lt->xH,le_succ->xM
open Bool renaming not_true->zF,not_false->zG,false_and->zO,true_and->zP,eq_iff_iff->yA,and_false->yD,and_true->yU
open Int renaming toNat_natCast->yE
open UInt8 renaming le_iff_toNat_le->yI,ofNat->yJ,ofNat_toNat->xJ,toNat_inj->xN
open Go.Am.AObj renaming cells->zJ
open Go.Am.AV renaming str->xF,cells->xG,agg->xL,vs->xR
open List.Perm renaming refl->xQ
namespace Go.Am
set_option linter.unusedSectionVars false
set_option maxRecDepth 100000
def cS (s:ZW):Int:=(Z s:Int)+16
theorem ZoB:∀ (k:List ZW),XK k->0<=Mu cS k/\Mu cS k<=(Z k:Int)*1048592:=by
 have:∀ (k:List ZW) (n:Int),XK k->n<=k.foldl (λn x=>n+cS x) n/\k.foldl (λn x=>n+cS x) n<=n+(Z k:Int)*1048592:=by
  intro k
  induction k with
  |nil=>intro n _;simp
  |cons s k w =>
   intro n j;have hs:=j s U;obtain⟨y,z⟩:=w (n+cS s) λt u=>j t (by simp[u]);rw[List.foldl_cons];simp only[yG];have:cS s=(Z s:Int)+16:=rfl;constructor <;> omega
 intro k hk;have:=this k 0 hk;unfold Mu;simpa using this
section
variable {mem:Int}{l:List ZW}
theorem ZmA {d:List ZW}(j:CkOk cS mem d (YK cS mem d)):(YK cS mem d).cur.length<=Z d/\d.drop (Z d-(YK cS mem d).cur.length)=(YK cS mem d).cur:=by
 have h:=j.flat;generalize (YK cS mem d)=s at h;subst h;constructor
 ·simp
 ·rw[zB,Nat.add_sub_cancel,yM (zE _),List.drop_length];rfl
theorem ZsV {d:List ZW}(u:CkOk cS mem d (YK cS mem d)):(YK cS mem d).done.length<=Z d:=by
 have h:=u.flat;have j:=u.ne;generalize (YK cS mem d)=s at h j;subst h
 have:∀ (A:List (List ZW)),(∀ k∈A,k≠[])->Z A<=Z A.flatten:=by
  intro A
  induction A with
  |nil=>intro _;simp
  |cons k A w =>
   intro h;have y:=w λk hk=>h k (by simp[hk]);have z:0<Z k:=yO.2 (h k U);simp only[yG,yR,zB];omega
 have:=this s.done j;simp only[zB];omega
theorem ZlQ {d r:List ZW}{i:Nat}(hi:i<=Z d):((d++r).take (Z d)).drop i=d.drop i:=U
theorem ZhK {s:Ck ZW}{x:ZW}(h:s.cur=[]\/s.cost+cS x<=mem):Bf cS mem s x=⟨s.done,s.cur++[x],s.cost+cS x⟩:=by
 unfold Bf;rw[if_neg]
 rintro⟨h1,h2⟩
 rcases h with h|h
 ·exact h1 h
 ·omega
theorem ZqA {s:Ck ZW}{x:ZW}(j:s.cur≠[])(u:mem<s.cost+cS x):Bf cS mem s x=⟨s.done++[s.cur],[x],cS x⟩:=by
 unfold Bf;rw[if_pos ⟨j,u⟩]
theorem ZwY {d:List ZW}(j:XK d)(u:CkOk cS mem d (YK cS mem d)):XK (YK cS mem d).cur:=λs hs=>j s (by
 have h:=u.flat;rw[<-h];simp[hs])
theorem Zsb {x:AV}(hx:SS x l)(hL:XK l)(hl:Z l<=1048576)(H0:Hp):∀ (r d:List ZW) (F:AV) (H:Hp),l=d++r->(∃ o,Rst o H F (YK cS mem d).done) ->
 ∃ y H',R3 (Q J mem) x F (Q J ((Z d-(YK cS mem d).cur.length:Nat):Int)) (Q J (YK cS mem d).cost) x (Q J (Z l:Int)) (Q J (Z d:Int)) H0 H=K (y,H')/\LL H' y (ZlU (YK cS mem l)):=by
 have hn:=SS.len hx 9;intro r
 induction r with
 |nil =>
  intro d F H C ⟨o,hr⟩;rw[zH]at C;subst C;have u:=ZsW cS mem l;obtain⟨ad,M⟩:=ZmA u;have G:decide ((Z l:Int)<(Z l:Int))=I:=U
  rw[At];simp only[go_sem,G,Zga,hn,Zgb];by_cases h0:l=[]
  ·subst h0;have h1:decide ((0:Int)<((([]:List ZW).length:Nat):Int))=I:=rfl;simp only[h1,go_sem];exact⟨_,_,rfl,hr.ll⟩
  ·have h1:decide ((0:Int)<(Z l:Int))=Y:=by have:=yO.2 h0;simp;exact this
   obtain⟨a,q1,E⟩:=hx.cut (i:=Z l-(YK cS mem l).cur.length) (j:=Z l) X (zE _);rw[List.take_length,M]at E
   have z:(ZB 1 [(0,a)] [AV.nils]).map (xR 1 .clip)=K (.vs 1 .clip [a]):=by
    simp only[ZB,E.cell.1,E.cell.2];rfl
   obtain⟨o',x',H',p1,p2,p3,p4⟩:=hr.app E (by have:=ZsV u;omega);simp only[h1,go_sem,q1,z,p1];refine⟨_,_,rfl,?_⟩;unfold ZlU;rw[if_neg (ZzJ cS mem h0)];exact p2.ll
 |cons s r ih =>
  intro d F H C ⟨o,hr⟩;have u:=ZsW cS mem d;obtain⟨ad,M⟩:=ZmA u;have aa:XK d:=λt ht=>hL t (by rw[C];simp[ht]);have ab:=ZoB _ (ZwY aa u);rw[<-u.cost]at ab;have hs:Z s<=1048576:=hL s (by rw[C];simp);have ag:Z l=Z d+(Z r+1):=by rw[C];simp
  have G:decide ((Z d:Int)<(Z l:Int))=Y:=by simp;omega
  have N:xV.wrap ((Z d:Int)+1)=((Z d+1:Nat):Int):=by rw[Zl X X];omega
  have ae:xV.wrap ((Z s:Int)+16)=cS s:=by rw[Zl X X];rfl
  have ah:cS s=(Z s:Int)+16:=rfl;have O:xV.wrap ((YK cS mem d).cost+cS s)=(YK cS mem d).cost+cS s:=Zl X X;have af:xV.wrap (0+cS s)=cS s:=by rw[Zl X X];omega
  have ac:l[Z d]?=K s:=by rw[C,zD (zE _)];simp
  have R:=SS.idx hx ac;have w:=λF H h=>ih (d++[s]) F H (by rw[C];simp) h;simp only[ZhJ,zB,zA]at w;rw[At];simp only[go_sem,G,Zgc,R,ZE,ae];by_cases P:(YK cS mem d).cur=[]
  ·have D:decide (((Z d-(YK cS mem d).cur.length:Nat):Int)<(Z d:Int))=I:=by rw[P];simp
   have B:=ZhK (mem:=mem) (s:=YK cS mem d) (x:=s) (.inl P);rw[B]at w;obtain⟨y,H',S,T⟩:=w F H ⟨o,hr⟩;refine⟨y,H',?_,T⟩;simp only[D,go_sem,Rr,O,Rq,N];rw[show Z d-(YK cS mem d).cur.length=Z d+1-((YK cS mem d).cur++[s]).length by rw[P];simp];exact S
  ·have D:decide (((Z d-(YK cS mem d).cur.length:Nat):Int)<(Z d:Int))=Y:=by have:=yO.2 P;simp;omega
   by_cases hm:mem<(YK cS mem d).cost+cS s
   ·have B:=ZqA (mem:=mem) P hm;rw[B]at w;obtain⟨a,q1,E⟩:=hx.cut (i:=Z d-(YK cS mem d).cur.length) (j:=Z d) X X;rw[C,ZlQ X,M]at E
    have z:(ZB 1 [(0,a)] [AV.nils]).map (xR 1 .clip)=K (.vs 1 .clip [a]):=by
     simp only[ZB,E.cell.1,E.cell.2];rfl
    obtain⟨o',x',H1,p1,p2,p3,p4⟩:=hr.app E (by have:=ZsV u;omega);obtain⟨y,H',S,T⟩:=w x' H1 ⟨o',p2⟩;refine⟨y,H',?_,T⟩;simp only[D,go_sem,O,decide_eq_true hm,q1,z,p1,Rr,af,Rq,N];exact S
   ·have B:=ZhK (mem:=mem) (s:=YK cS mem d) (x:=s) (.inr X);rw[B]at w;obtain⟨y,H',S,T⟩:=w F H ⟨o,hr⟩;refine⟨y,H',?_,T⟩;simp only[D,go_sem,O,decide_eq_false hm,Rr,Rq,N];rw[show Z d-(YK cS mem d).cur.length=Z d+1-((YK cS mem d).cur++[s]).length by simp];exact S
theorem Zsa {x:AV}(F:SS x l)(E:XK l)(u:Z l<=1048576)(H:Hp):∃ y,Ze Cs [x,Q J mem] H=K (y,H)/\LsV y (ZlU (YK cS mem l)):=by
 obtain⟨N,C,D⟩:=SS.closed F [] 0 7;obtain⟨P,B,j⟩:=SK D u [];obtain⟨y,H',G,M⟩:=Zsb (mem:=mem) j E u [] l [] .nils [] rfl ⟨0,.inl ⟨rfl,.inl rfl⟩⟩;obtain⟨O,w,z⟩:=M.close0;refine⟨O,?_,z⟩;refine A0 (args':=[N,Q J mem]) (H1:=H') (v:=y) (by rw[List.mapM_cons,C];rfl) ?_ w;rw[ZgA];unfold Zac;simp only[B,go_sem,SS.len j 9];exact G
end
theorem Zn7 {l:List Fil}{n:Zj}(h:Y2 l n=V)(f:Fil)(j:f.name=n):Y2 (l++[f]) n=K f:=by
 induction l with
 |nil=>simp[Y2,j]
 |cons g l w =>
  unfold Y2 at h;split at h
  ·cases h
  ·rename_i u;rw[yH,Y2,if_neg u];exact w h
theorem Zo4 {l:List Fil}{n:Zj}(h:Y2 l n=V)(f:Fil)(j:f.name=n)(u:Fil->Fil):Y9 (l++[f]) n u=l++[u f]:=by
 induction l with
 |nil=>simp[Y9,j]
 |cons g l y =>
  unfold Y2 at h;split at h
  ·cases h
  ·rename_i w;rw[yH,Y9,if_neg w,y h];rfl
section
variable {tm:Tmp}{s:Sto}{n:Zj}
theorem Zzf (u:s.crashed=I)(w:s.count=0)(j:tm.closed=I)(C:n=Yr tm.owner (tm.last+1))(z:UN n=Y)(B:Y2 s.files n=V)(y:Z s.files<64) :
 Zi tm s=((n,0),({ tm with last:=tm.last+1,names:=tm.names++[n] },{ s with files:=s.files++[⟨n,[],0⟩] })):=by
 subst C;unfold Zi;rw[if_neg (by simp[j])]
 have:s.create (Yr tm.owner (tm.last+1))=(0,{ s with files:=s.files++[⟨Yr tm.owner (tm.last+1),[],0⟩] }):=by
  unfold Sto.create;rw[C9 u w,if_neg (by simp[u]),if_neg (by simp[z]),B];dsimp only;rw[if_neg X]
 rw[this];rfl
theorem ZuY {fs:List Fil}(y:s.crashed=I)(B:s.count=0)(w:tm.closed=I)(D:n∈tm.names)(hs:n∉tm.sld)(j:s.files=fs++[⟨n,[],0⟩])(z:Y2 fs n=V){l:List Zj}(u:Wq l=Y)(G:Zs fs+Yo l<=s.limit)(M:Zs fs+Yo l<=tm.limit) :
 ZO tm s n l=(0,{ s with files:=fs++[⟨n,Ym l,0⟩],peak:=max s.peak (Zs fs+Yo l) }):=by
 have E:Zs s.files=Zs fs:=by rw[j,Ug];simp[Zs]
 have C:ZI tm n=0:=by unfold ZI;rw[if_neg (by simp[w]),if_pos D]
 have F:=AX tm.names s.files;unfold ZO;rw[if_neg (by simp[C]),if_neg hs,if_neg (by simp[u]),if_neg (by unfold V4;omega)];unfold Sto.append;rw[C9 y B,if_neg (by simp[y]),j,Zn7 z _ rfl];dsimp only;rw[<-j,E,Rk,if_neg X,j,Zo4 z _ rfl];rfl
theorem Zxx {fs:List Fil}{x:Zj}{k:Nat}(y:s.crashed=I)(B:s.count=0)(j:tm.closed=I)(D:n∈tm.names)(u:s.files=fs++[⟨n,x,k⟩])(z:Y2 fs n=V) :
 ZM tm s n=(0,({ tm with sld:=NI tm.sld n },{ s with files:=fs++[⟨n,x,Z x⟩] })):=by
 have C:ZI tm n=0:=by unfold ZI;rw[if_neg (by simp[j]),if_pos D]
 have w:s.sync n=(0,{ s with files:=fs++[⟨n,x,Z x⟩] }):=by
  unfold Sto.sync;rw[C9 y B,if_neg (by simp[y]),u,Zn7 z _ rfl];dsimp only;rw[Zo4 z _ rfl]
 unfold ZM;rw[if_neg (by simp[C]),w];rfl
end
theorem SysAt.frame {H H':Hp}{o t:Nat}{tm:Tmp}{s:Sto}{A:dv}(h:SysAt H o t tm s A)(w:∀ a∈A,H'[a]?=H[a]?):SysAt H' o t tm s A:=by
 obtain⟨B,S,⟨D,j,E,sl,y,rfl⟩,z,C,rfl⟩:=h;exact⟨_,S,⟨D,j,E,sl,y.frame λa u=>w a (by simp only[zS];exact .inl u),rfl⟩,z.frame λa u=>w a (by simp[u]),C,rfl⟩
theorem Zv5 (L:Loc)(p:Spec)(l:List ZW):∀ s∈Ye L p l,s∈l:=by
 intro s hs;unfold Ye at hs;split at hs
 ·exact hs
 ·split at hs
  ·rcases Zuk _ _ s hs with h|h
   ·cases h
   ·exact (O4 L p l).2 s h
  ·exact (O4 L p l).2 s hs
theorem ZeC (a b:UInt8):0<=UO a b/\UO a b<65536:=by
 have y:=a.toNat_lt;have z:=b.toNat_lt;have j:xV.wrap (a.toNat:Int)=(a.toNat:Int):=Zl X X;have u:xV.wrap (b.toNat:Int)=(b.toNat:Int):=Zl X X
 have w:kG (a.toNat:Int)=((a.toNat*256:Nat):Int):=by
  unfold kG;rw[show min 8 IntKind.i64.bits=8 from rfl,show (2:Int) ^ 8=256 from rfl,Zl X X];omega
 unfold UO;rw[j,u,w];unfold jS
 have B:(BitVec.ofInt IntKind.i64.bits ((a.toNat*256:Nat):Int) ||| BitVec.ofInt IntKind.i64.bits (b.toNat:Int)).toNat<2 ^ 16:=by
  rw[BitVec.toNat_or];refine Nat.or_lt_two_pow ?_ ?_
  ·rw[BitVec.ofInt_natCast,BitVec.toNat_ofNat];exact xH (Nat.mod_le _ _) X
  ·rw[BitVec.ofInt_natCast,BitVec.toNat_ofNat];exact xH (Nat.mod_le _ _) X
 rw[Zl X X];omega
def XO (g:Zj):Zj×Int×Int:=match g with
 |a::b::r=>if 4096<UO a b then ([],0,13) else if (Z g:Int)<UO a b+6 then ([],0,14) else
  if ((g.take ((UO a b).toNat+6)).drop ((UO a b).toNat+2)==Gh (g.take ((UO a b).toNat+2)))=Y then ((g.take ((UO a b).toNat+2)).drop 2,UO a b+6,0) else ([],0,13)
 |_=>([],0,14)
theorem Zx8 (g:Zj)(hg:Z g<=1048576)(H:Hp):Ze Te [.str g,Q J 0] H=K (.tuple [.str (XO g).1,Q J (XO g).2.1,Q J (XO g).2.2],H):=by
 refine Xn (a':=.str g) (b':=Q J 0) rfl rfl (H1:=[]) ?_ rfl;have D:decide ((0:Int)<0)=I:=rfl;have E:decide ((Z g:Int)<0)=I:=by rw[decide_eq_false_iff_not];omega
 have w:ZR (.str g) (K (Q J 0)) V V=K (.str g):=by
  rw[P6 .i64 X X];simp
 rw[Ir];unfold CD
 match g with
 |[]=>simp only[go_sem,D,E,Ki,w,XO];rfl
 |[a]=>simp only[go_sem,D,E,Ki,w,XO];rfl
 |a::b::r =>
  have h2:decide (((a::b::r).length:Int)<2)=I:=by rw[decide_eq_false_iff_not];simp;omega
  have i0:Zp (.str (a::b::r)) (Q J 0)=K (.int .u8 (a.toNat:Int)):=ZG (i:=0) rfl;have i1:Zp (.str (a::b::r)) (Q J 1)=K (.int .u8 (b.toNat:Int)):=ZG (i:=1) rfl;have cv:∀ n,ZS .i64 (.int .u8 n)=K (Q J (xV.wrap n)):=λn=>rfl;have M:∀ a:Int,Z2 .shl (Q J a) (.int .u64 8)=K (Q J (kG a)):=λa=>rfl;have F:∀ a b:Int,Z2 .or (Q J a) (Q J b)=K (Q J (jS a b)):=λa b=>by simp[Z2,X6,X8,jS]
  have y:jS (kG (xV.wrap (a.toNat:Int))) (xV.wrap (b.toNat:Int))=UO a b:=rfl;obtain⟨r1,r2⟩:=ZeC a b;unfold XO;generalize hn:UO a b=z at y r1 r2;generalize hG:a::b::r=G at *;simp only[go_sem,D,E,Ki,w,h2,A6,i0,i1,cv,M,F,y];subst hG;dsimp only;rw[hn];generalize hG:a::b::r=G at *;by_cases B:4096<z
  ·have j:decide ((4096:Int)<z)=Y:=decide_eq_true B;simp only[j,go_sem,if_pos B]
  ·have j:decide ((4096:Int)<z)=I:=decide_eq_false B;have T:xV.wrap (z+6)=z+6:=Zl X X;have w2:xV.wrap (z+2)=z+2:=Zl X X;have w0:xV.wrap (0+z)=z:=by rw[Zl X X];omega
   simp only[j,go_sem,if_neg B,A8,T];by_cases C:(Z G:Int)<z+6
   ·have u:decide ((Z G:Int)<z+6)=Y:=decide_eq_true C;simp only[u,go_sem,if_pos C]
   ·have u:decide ((Z G:Int)<z+6)=I:=decide_eq_false C;have t6:(z+6).toNat=z.toNat+6:=X
    have S:(z+2).toNat=z.toNat+2:=X
    have O:ZR (.str G) (K (Q J (z+2))) (K (Q J (z+6))) V=K (.str ((G.take (z.toNat+6)).drop (z.toNat+2))):=by
     rw[VV .i64 .i64 X X X,t6,S]
    have P:ZR (.str G) V (K (Q J (z+2))) V=K (.str (G.take (z.toNat+2))):=by
     rw[BG .i64 X X,S]
    have R:ZR (.str G) (K (Q J 2)) (K (Q J (z+2))) V=K (.str ((G.take (z.toNat+2)).drop 2)):=by
     rw[VV .i64 .i64 X X X,S];rfl
    have N:=Zgg (G.take (z.toNat+2)) (by rw[yB];omega);simp only[u,go_sem,if_neg C,A9,w2,T,O,P,N]
    cases hq:(G.take (z.toNat+6)).drop (z.toNat+2)==Gh (G.take (z.toNat+2)) with
    |true=>simp only[go_sem,zF,Aa,w2,R,w0,T,if_true]
    |false=>simp only[go_sem,zG,Bool.false_eq_true,if_false]
def Yi (tm:Tmp)(s:Sto)(n:Zj)(i:Int):Zj×Int×Int :=
 if ZI tm n≠0 then ([],0,ZI tm n) else if (s.read n i 4102).2≠0 then ([],0,(s.read n i 4102).2) else
  if (s.read n i 4102).1=[] then ([],0,5) else if (XO (s.read n i 4102).1).2.2≠0 then ([],0,(XO (s.read n i 4102).1).2.2) else ((XO (s.read n i 4102).1).1,i+(XO (s.read n i 4102).1).2.1,0)
theorem bA (g:Zj):0<=(XO g).2.1/\(XO g).2.1<=4102:=by
 match g with
 |[]=>exact⟨di,di⟩
 |[a]=>exact⟨by show (0:Int)<=0;omega,by show (0:Int)<=4102;omega⟩
 |a::b::r =>
  have:=ZeC a b;unfold XO;dsimp only;split
  ·exact⟨by show (0:Int)<=0;omega,by show (0:Int)<=4102;omega⟩
  ·split
   ·exact⟨by show (0:Int)<=0;omega,by show (0:Int)<=4102;omega⟩
   ·split
    ·exact⟨by show (0:Int)<=UO a b+6;omega,by show UO a b+6<=4102;omega⟩
    ·exact⟨by show (0:Int)<=0;omega,by show (0:Int)<=4102;omega⟩
theorem Zsq {H:Hp}{o t:Nat}{tm:Tmp}{s:Sto}{A:dv}(h:SysAt H o t tm s A)(hm:TmpOk tm)(hk:StoOk s)(n:Zj)(i:Int)(hi:-9223372036854775808<=i/\i<=9223372036854775807) :
 ∃ H',YH [.ptr o 0,.str n,Q J i] H=K (.tuple [.str (Yi tm s n i).1,Q J (Yi tm s n i).2.1,Q J (Yi tm s n i).2.2],H')/\SysAt H' o t tm (if ZI tm n=0 then s.tick else s) A/\Stp A H H':=by
 by_cases z:ZI tm n=0
 ·rw[if_pos z];obtain⟨B,S,C,h2,h3,rfl⟩:=h;have hB:=C;obtain⟨ms,aa,nx,sl,C,rfl⟩:=C;have O:=Rl C hm n;have l0:=ZZ C.cells 0 (v:=.ptr t 0) rfl;have e0:(ZI tm n != 0)=I:=by rw[z];rfl
  obtain⟨H1,T,p2⟩:=Zmh h2 hk n i 4102 hi
  have y:(s.read n i 4102).2=0->0<=i/\i<=262144:=λj=>by
   unfold Sto.read at j;split at j
   ·cases j
   ·cases P:Y2 s.files n with
    |none=>rw[P]at j;cases j
    |some f =>
     rw[P]at j;dsimp only at j;split at j
     ·cases j
     ·rename_i hh;obtain⟨a,b,e,_⟩:=VY P;have h4:=hk.used;have h5:=hk.limit;rw[e,XG]at h4;omega
  have F:(s.read n i 4102).1.length<=4102:=by
   unfold Sto.read;split
   ·exact xA _
   ·cases Y2 s.files n with
    |none=>exact xA _
    |some f =>
     dsimp only;split
     ·exact xA _
     ·show (List.take (4102:Int).toNat _).length<=4102;rw[yB];exact Nat.min_le_left _ _
  unfold Yi;rw[if_neg (by simpa using z)];refine⟨H1,?_,SysAt.same hB h3 p2,p2.stp.mono λa ha=>by simp[ha]⟩;rw[Wy];unfold Wl;generalize hR:s.read n i 4102=R at T y F;obtain⟨g,e⟩:=R;dsimp only at T y F ⊢;simp only[O,go_sem,e0,zC,U4,l0,T,zQ,zR];by_cases N:e=0
  ·subst N;have M:((0:Int) != 0)=I:=rfl;simp only[M,go_sem,U5];rw[if_neg U];by_cases u:g=[]
   ·subst u;have:(([]:Zj)==[])=Y:=rfl;simp only[this,go_sem,if_true]
   ·have D:(g==([]:Zj))=I:=by simpa using u
    have E:=Zx8 g X H1;have ac:=bA g;have ab:=y rfl;rw[if_neg u];by_cases G:(XO g).2.2=0
    ·have hw:xV.wrap (i+(XO g).2.1)=i+(XO g).2.1:=Zl X X;have w:((XO g).2.2 != 0)=I:=by rw[G];rfl
     rw[if_neg (by simpa using G)];simp only[D,go_sem,U6,E,zQ,zR,w,GG,hw]
    ·have w:((XO g).2.2 != 0)=Y:=by simpa using G
     rw[if_pos G];simp only[D,go_sem,U6,E,zQ,zR,w]
  ·have M:(e != 0)=Y:=by simpa using N
   rw[if_pos N];simp only[M,go_sem]
 ·rw[if_neg z];unfold Yi;rw[if_pos z];exact⟨H,Zsr h hm hk n z i,h,Stp.refl _ _⟩
theorem TxAt.cut {H:Hp}{x:AV}{l:Zj}(h:TxAt H x l){n:Nat}(w:n<=Z l) :
 ∃ j,Yk 1 x V (K (Q J (n:Int))) (K (Q J (n:Int)))=K j/\ZA j=[]/\(∀ H',TxAt H' j (l.take n))/\j.cells=[j]/\j.known=Y:=by
 have u:Yy (Z l) (Z l) V (K (Q J (n:Int))) (K (Q J (n:Int)))=K (0,n,n):=by
  rw[Zq4 (len:=Z l) (cap:=Z l) .i64 .i64 X X X];simp
 have key:∀ t,Yk 1 (.vs 1 t (l.map bv)) V (K (Q J (n:Int))) (K (Q J (n:Int)))=K (.vs 1 .clip ((l.take n).map bv)):=λt=>by
  unfold Yk;dsimp only;rw[if_pos rfl,zM,u];simp
 rcases h with ⟨rfl,rfl⟩|⟨t,e,rfl,y⟩|rfl
 ·have:n=0:=by simpa using w
  subst this;exact⟨.nils,by unfold Yk;dsimp only;rw[show Yy 0 0 V (K (Q J ((0:Nat):Int))) (K (Q J ((0:Nat):Int)))=K (0,0,0) from by simpa using u],rfl,λ_=>.inl ⟨rfl,rfl⟩,rfl,rfl⟩
 ·exact⟨_,key _,rfl,λ_=>.inr (.inr rfl),rfl,rfl⟩
 ·exact⟨_,key _,rfl,λ_=>.inr (.inr rfl),rfl,rfl⟩
theorem ZA9 (i:Nat):Z2 .rem (Q J (i:Int)) (Q J 8)=K (Q J ((i % 8:Nat):Int)):=by
 unfold Z2 X6;simp only[if_true,X8];rw[if_neg X];congr 2
theorem StoRes.trans {H H1 y:Hp}{o:Nat}{C z:Sto}{A u w:dv}(h:StoRes H H1 o C A u)(k:StoRes H1 y o z u w):StoRes H y o z A w :=
 ⟨k.at',h.stp.trans k.stp (λ_ h=>h) (λa j=>h.own a j),λa j=>(k.own a j).elim (h.own a) λB=>.inr (zU h.stp.len B)⟩
def Vj (k i:Nat):Nat:=k / 2 ^ (8*(i % 8)) % 256
def YF (k i:Nat)(f:Fil):Fil:=⟨f.name,f.text.take (f.syn+min (Vj k i) (Z f.text-f.syn)),f.syn+min (Vj k i) (Z f.text-f.syn)⟩
def Zbq (k:Nat):Nat->List Zj->List Fil->List Fil
 |_,[],l=>l
 |i,n::r,l=>Zbq k (i+1) r (Y9 l n (YF k i))
def Sto.restart (s:Sto)(k:Nat):Sto:={ s with crashed:=I,count:=0,files:=Zbq k 0 (VJ (s.files.map Fil.name)) s.files }
theorem PA (l:List Fil)(n:Zj)(u:Fil->Fil)(h:∀ f,(u f).name=f.name):(Y9 l n u).map Fil.name=l.map Fil.name:=by
 induction l with
 |nil=>rfl
 |cons f l j =>
  rw[Y9];split
  ·simp[h]
  ·simp[j]
theorem Zvi (l:List Fil)(n:Zj)(u:Fil->Fil)(h:∀ f,(u f).text.length<=Z f.text):Zs (Y9 l n u)<=Zs l:=by
 induction l with
 |nil=>exact zE _
 |cons f l j =>
  rw[Y9];split
  ·have:=h f;simp only[Zs];omega
  ·simp only[Zs];omega
theorem kX {P:Fil->Prop}(l:List Fil)(n:Zj)(u:Fil->Fil)(w:∀ f∈l,P f)(h:∀ f,P f->P (u f)):∀ f∈Y9 l n u,P f:=by
 induction l with
 |nil=>intro f j;cases j
 |cons x l z =>
  rw[Y9];split
  ·intro f j;rcases zK.1 j with rfl|j
   ·exact h x (w x U)
   ·exact w f (by simp[j])
  ·intro f j;rcases zK.1 j with rfl|j
   ·exact w _ U
   ·exact z (λg y=>w g (by simp[y])) f j
theorem ZyA (k i:Nat)(f:Fil):(YF k i f).text.length<=Z f.text:=by simp[YF];omega
theorem Zt4 {s:Sto}(hk:StoOk s)(k i:Nat)(n:Zj):StoOk { s with files:=Y9 s.files n (YF k i) }:=by
 have j:=PA s.files n (YF k i) λ_=>rfl;have u:=Zvi s.files n (YF k i) (ZyA k i);have w:=hk.used;have y:=hk.len;refine⟨hk.limit,zU u w,hk.peak,kX s.files n _ hk.name λf h=>h,by show ((Y9 s.files n (YF k i)).map Fil.name).Nodup;rw[j];exact hk.nd,kX (P:=λf=>f.syn<=Z f.text) s.files n _ hk.syn λf h=>?_,?_,hk.count⟩
 ·show f.syn+min (Vj k i) (Z f.text-f.syn)<=(f.text.take (f.syn+min (Vj k i) (Z f.text-f.syn))).length;rw[yB];omega
 ·show (Y9 s.files n (YF k i)).length<=64;have:=congrArg xT j;rw[zM,zM]at this;omega
theorem ZlJ {H:Hp}{o:Nat}{s:Sto}{A:dv}(h:StoreAt H o s A)(hk:StoOk s)(k:Nat){x:AV}{ns:List Zj}(hx:SS x ns){i:Nat}{n:Zj}(hi:ns[i]?=K n)(aw:i<=64){f:Fil}(hn:Y2 s.files n=K f)(nl:AV)(H0:Hp) :
 ∃ H' A',QP (.ptr o 0) (.int .u64 (k:Int)) x nl (Q J (i:Int)) (.bool Y) H0 H=QQ (.ptr o 0) (.int .u64 (k:Int)) x nl (Q J (i:Int)) H0 H'/\StoRes H H' o { s with files:=Y9 s.files n (YF k i) } A A':=by
 obtain⟨m,af,ds,h,rfl⟩:=h;have S:=SS.idx hx hi;have l3:=ZZ h.cells 3 (v:=.map m) rfl;rcases h.look n with ⟨k,_⟩|⟨a,d,b,rfl,c3,c4,c5,c6⟩
 ·rw[hn]at k;cases k
 obtain⟨k1,P,k3,k4⟩:=h.mid;have al:d.fil∈s.files:=by rw[<-h.files];simp
 have bb:=hk.syn _ al;have aq:=hk.used;have ax:=hk.limit;have az:Z d.fil.text<=Zs s.files:=by rw[<-h.files,zT,zW,XG];omega
 have R:Y9 s.files n (YF k i)=a.map FD.fil++YF k i d.fil::b.map FD.fil:=by
  rw[<-h.files];exact AW a d b n (YF k i) c3 c4
 generalize hz:d.fil.syn+min (Vj k i) (Z d.fil.text-d.fil.syn)=z;have ar:z<=Z d.fil.text:=X
 have j:YF k i d.fil=⟨d.fil.name,d.fil.text.take z,z⟩:=by unfold YF;rw[hz]
 have am:Zs (a.map FD.fil++YF k i d.fil::b.map FD.fil)=Zs s.files-(Z d.fil.text-z):=by
  have hf:Zs s.files=Zs (a.map FD.fil++d.fil::b.map FD.fil):=by rw[<-h.files,zT,zW]
  rw[hf,XG,XG,j];show _+((d.fil.text.take z).length+_)=_;rw[yB];omega
 have m0:=ZZ P.cells 0 (v:=d.tx) rfl;have m1:=ZZ P.cells 1 (v:=Q J (d.fil.syn:Int)) rfl;have T:=P.text.len 5;have ad:Z2 .rem (Q J (i:Int)) (Q J 8)=K (Q J ((i % 8:Nat):Int)):=ZA9 i
 have ab:Z2 .mul (Q J 8) (Q J ((i % 8:Nat):Int))=K (Q J ((8*(i % 8):Nat):Int)):=by
  have:xV.wrap (8*((i % 8:Nat):Int))=((8*(i % 8):Nat):Int):=by rw[Zl X X];omega
  simp only[go_sem,this]
 have hb:min (8*(i % 8)) IntKind.u64.bits=8*(i % 8):=Nat.min_eq_left (by show 8*(i % 8)<=64;omega)
 have ae:Z2 .shr (.int .u64 (k:Int)) (Q J ((8*(i % 8):Nat):Int))=K (.int .u64 ((k / 2 ^ (8*(i % 8)):Nat):Int)):=by
  rw[Bk];unfold QN;rw[hb,Int.fdiv_eq_ediv_of_nonneg _ (Int.pow_nonneg di)];have:(2:Int) ^ (8*(i % 8))=((2 ^ (8*(i % 8)):Nat):Int):=U
  rw[this,<-Int.natCast_ediv]
 have G:Z2 .rem (.int .u64 ((k / 2 ^ (8*(i % 8)):Nat):Int)) (.int .u64 256)=K (.int .u64 ((Vj k i:Nat):Int)):=by
  unfold Z2 X6;simp only[if_true,X8];rw[if_neg X];congr 2
 have ba:Vj k i<256:=Nat.mod_lt _ di
 have ak:ZS .i64 (.int .u64 ((Vj k i:Nat):Int))=K (Q J ((Vj k i:Nat):Int)):=by
  unfold ZS;dsimp only;rw[Zl X X]
 have an:xV.wrap ((Z d.fil.text:Int)-(d.fil.syn:Int))=((Z d.fil.text-d.fil.syn:Nat):Int):=by rw[Zl X X];omega
 have aa:WU (Q J ((Vj k i:Nat):Int)) (Q J ((Z d.fil.text-d.fil.syn:Nat):Int))=K (Q J ((min (Vj k i) (Z d.fil.text-d.fil.syn):Nat):Int)):=by
  simp[WU];omega
 have ai:xV.wrap ((d.fil.syn:Int)+((min (Vj k i) (Z d.fil.text-d.fil.syn):Nat):Int))=(z:Int):=by rw[Zl X X];omega
 have ao:xV.wrap ((Z d.fil.text:Int)-(z:Int))=((Z d.fil.text-z:Nat):Int):=by rw[Zl X X];omega
 have E:H[o]?=K (.cells (YI m s)):=h.cells;have l1:=ZZ E 1 (v:=Q J (Zs s.files:Int)) rfl;have ap:xV.wrap ((Zs s.files:Int)-((Z d.fil.text-z:Nat):Int))=((Zs s.files-(Z d.fil.text-z):Nat):Int):=by rw[Zl X X];omega
 have s1:=Wp E 1 (v:=Q J ((Zs s.files-(Z d.fil.text-z):Nat):Int)) rfl rfl (by simp[YI]);have g1:=Zu (zJ (zL (YI m s) 1 (Q J ((Zs s.files-(Z d.fil.text-z):Nat):Int)))) E;have F:=k3 d.f (by simp[FD.own]);have w:=YX (zJ (zL (YI m s) 1 (Q J ((Zs s.files-(Z d.fil.text-z):Nat):Int)))) (λe=>F.1 e.symm) P.cells;obtain⟨N,p1,p2,p3,p4,p5⟩:=P.text.cut (n:=z) ar;have u:Stp [o] H (H.set o (.cells (zL (YI m s) 1 (Q J ((Zs s.files-(Z d.fil.text-z):Nat):Int))))):=Stp.set _ _ U;generalize ay:H.set o (.cells (zL (YI m s) 1 (Q J ((Zs s.files-(Z d.fil.text-z):Nat):Int))))=H1 at s1 g1 w u;have au:=ZZ w 0 (v:=d.tx) rfl;have s2:=Wp w 0 (v:=N) p4 p5 U;have g2:=Zu (zJ (zL [d.tx,Q J (d.fil.syn:Int)] 0 N)) w;have s3:=Wp g2 1 (v:=Q J (z:Int)) rfl rfl U;have g3:=Zu (zJ (zL (zL [d.tx,Q J (d.fil.syn:Int)] 0 N) 1 (Q J (z:Int)))) g2;generalize ag:H1.set d.f (.cells (zL [d.tx,Q J (d.fil.syn:Int)] 0 N))=H2 at s2 g2 s3 g3;generalize ah:H2.set d.f (.cells (zL (zL [d.tx,Q J (d.fil.syn:Int)] 0 N) 1 (Q J (z:Int))))=O at s3 g3
 have C:Stp [d.f] H1 O:=by
  rw[<-ah,<-ag];exact (Stp.set _ _ U).trans (Stp.set _ _ U) (λ_ h=>h) λ_ h=>.inl h
 have hS:Stp (o::d.own) H O:=u.trans C (λa D=>by simp[zI.1 D]) λa D=>.inl (by simp[FD.own,zI.1 D]);have ac:=h.om;have M:({ d with fil:=YF k i d.fil,tx:=N }:FD).own=[d.f]:=by simp[FD.own,p2]
 have aj:=h.upd (d':={ d with fil:=YF k i d.fil,tx:=N }) (s':={ s with files:=Y9 s.files n (YF k i) }) (H':=O) (by rw[C.get g1 (by simpa using λe=>F.1 e.symm)];show K (zJ [_,_,_,_,_,_])=K (zJ [_,Q J ((Zs (Y9 s.files n (YF k i)):Nat):Int),_,_,_,_]);rw[R,am]) (by rw[C.at' m (Zq (u.get h.map (by simpa using Ne.symm ac))) (by simpa using λe=>F.2 e.symm),u.get h.map (by simpa using Ne.symm ac),h.map]) rfl R
  ⟨by rw[g3,j];rfl,by have:=p3 O;rw[j];exact this⟩ hS (by rw[M];simp) (λy B=>.inl (by rw[M]at B;simp[FD.own,zI.1 B]))
 refine⟨O,_,?_,⟨⟨m,af,_,aj,rfl⟩,hS.mono λa D=>?_,λy B=>?_⟩⟩
 ·rw[C3];simp only[go_sem,S,ZE,zC,l3,c6,ad,ab,ae,G,ak,m1,m0,T,an,aa,ai,ao,l1,ap,s1,au,p1,s2,s3]
 ·rcases zK.1 D with e|D
  ·simp[e]
  ·rw[zK,zK,yP,yS];exact .inr (.inr (by simp[D]))
 ·rw[zK,zK,yP,yS,M]at B;refine .inl ?_;rw[zK,zK,yP,yS];rcases B with e|e|B
  ·exact .inl e
  ·exact .inr (.inl e)
  ·refine .inr (.inr ?_);simp only[zS]at B ⊢;rcases B with k|k|k
   ·exact .inl k
   ·exact .inr (.inl (by simp[FD.own,zI.1 k]))
   ·exact .inr (.inr k)
theorem ZlI {o:Nat}(k:Nat){x:AV}{j:List Zj}(hx:SS x j)(hl:Z j<=64)(H0:Hp):∀ (r d:List Zj) (H:Hp) (A:dv) (s:Sto),j=d++r->StoreAt H o s A->StoOk s->(∀ n∈j,∃ f,Y2 s.files n=K f) ->
 ∃ H' N,Vn (.ptr o 0) (.int .u64 (k:Int)) x (Q J (Z j:Int)) (Q J (Z d:Int)) H0 H=K (.tuple [],H')/\StoRes H H' o { s with files:=Zbq k (Z d) r s.files } A N/\StoOk { s with files:=Zbq k (Z d) r s.files }:=by
 intro r
 induction r with
 |nil =>
  intro d H A s u h hk y;rw[zH]at u;subst u;have w:decide ((Z j:Int)<(Z j:Int))=I:=U
  refine⟨H,A,?_,⟨h,Stp.refl _ _,λa T=>.inl T⟩,hk⟩;rw[GF];simp only[go_sem,w]
 |cons n r ih =>
  intro d H A s u h hk y;have B:Z j=Z d+(Z r+1):=by rw[u];simp
  have w:decide ((Z d:Int)<(Z j:Int))=Y:=by simp;omega
  have D:xV.wrap ((Z d:Int)+1)=((Z d+1:Nat):Int):=by rw[Zl X X];omega
  have z:j[Z d]?=K n:=by rw[u,zD (zE _)];simp
  obtain⟨f,hf⟩:=y n (by rw[u];simp);obtain⟨H1,O,q1,E⟩:=ZlJ h hk k hx z X hf (Q J (Z j:Int)) H0;have C:=PA s.files n (YF k (Z d)) λ_=>rfl
  obtain⟨R,P,F,G,M⟩:=ih (d++[n]) H1 O { s with files:=Y9 s.files n (YF k (Z d)) } (by rw[u];simp) E.at' (Zt4 hk k (Z d) n) (λm hm=>by
   obtain⟨g,hg⟩:=y m hm;refine ZfY ?_;show m∈(Y9 s.files n (YF k (Z d))).map Fil.name;rw[C];obtain⟨a,b,e,S,_⟩:=VY hg;rw[e,<-S];simp)
  rw[zB,zA]at F G M;refine⟨R,P,?_,E.trans G,M⟩;rw[GF];simp only[go_sem,w,q1,C4,D];exact F
theorem Zoa {H:Hp}{o:Nat}{s:Sto}{A:dv}(h:StoreAt H o s A)(hk:StoOk s)(k:Nat) :
 ∃ H' y,Jn [.ptr o 0,.int .u64 (k:Int)] H=K (.tuple [],H')/\StoRes H H' o (s.restart k) A y/\StoOk (s.restart k):=by
 obtain⟨m,z,S,h,rfl⟩:=h;have w:Y5 (.pointer 76) .eql (.ptr o 0) .nilp=K (.bool I):=rfl;have j:H[o]?=K (.cells (YI m s)):=h.cells;have R:=Wp j 4 (v:=.bool I) rfl rfl (by simp[YI]);have B:=Zu (zJ (zL (YI m s) 4 (.bool I))) j;have M:=Wp B 5 (v:=Q J 0) rfl rfl (by simp[YI]);have C:=Zu (zJ (zL (zL (YI m s) 4 (.bool I)) 5 (Q J 0))) B;generalize E:H.set o (.cells (zL (YI m s) 4 (.bool I)))=H1 at R B M C;generalize F:H1.set o (.cells (zL (zL (YI m s) 4 (.bool I)) 5 (Q J 0)))=N at M C
 have O:Stp [o] H N:=by
  rw[<-F,<-E];exact (Stp.set _ _ U).trans (Stp.set _ _ U) (λ_ h=>h) λ_ h=>.inl h
 have D:=h.cell (s':={ s with crashed:=I,count:=0 }) O C rfl;have u:StoOk { s with crashed:=I,count:=0 }:=⟨hk.limit,hk.used,hk.peak,hk.name,hk.nd,hk.syn,hk.len,U⟩;obtain⟨x,q1,P⟩:=ZkK D u;have G:(VJ (s.files.map Fil.name)).length<=64:=by rw[(Qy _).length_eq,zM];exact hk.len
 obtain⟨H',y,r1,r2,r3⟩:=ZlI k P G H _ [] N _ { s with crashed:=I,count:=0 } rfl ⟨m,z,S,D,rfl⟩ u (λn T=>ZfY ((Zl3 _ _).1 T));refine⟨H',y,?_,(D.res O).trans r2,r3⟩;rw[CM];unfold RJ;simp only[w,go_sem,C2,zC,R,M,q1,SS.len P 9];exact r1
def Zno (s:Zj):Bool:=s.all Uv&&(!s.isEmpty&&!(s.headD 0==48))
theorem ZmL (b:UInt8):Uv b=(!decide ((b.toNat:Int)<48)&&!decide ((57:Int)<(b.toNat:Int))):=by
 rw[yA];simp[Uv,yI];omega
theorem Zp5 (s:Zj)(H0 H:Hp):KI (.str s) H0 H=K (.bool (!s.isEmpty&&!(s.headD 0==48)),H):=by
 rw[Ig]
 cases s with
 |nil =>
  have:(!(([]:Zj)==[]))=I:=rfl;simp only[go_sem,Y1,QC,this,List.isEmpty_nil,zF,zO]
 |cons b l =>
  have:(!((b::l)==([]:Zj)))=Y:=rfl;have hi:Zp (.str (b::l)) (Q J 0)=K (.int .u8 (b.toNat:Int)):=ZG (i:=0) rfl
  have u:(((b.toNat:Int)) != 48)=!(b==48):=by
   by_cases h:b=48
   ·subst h;rfl
   ·have w:b.toNat≠48:=λe=>h (xN.1 e);have j:(b==48)=I:=by simpa using h
    rw[j];simp;omega
  simp only[go_sem,Y1,QC,this,hi,u,List.isEmpty_cons,zG,zP,List.headD_cons]
theorem ZlG (s:Zj)(hs:Z s<=1048576)(H0 H:Hp):∀ (k i:Nat),Z s-i=k->i<=Z s ->
 U8 (.str s) (Q J (Z s:Int)) (Q J (i:Int)) H0 H=K (.bool ((s.drop i).all Uv&&(!s.isEmpty&&!(s.headD 0==48))),H):=by
 intro k
 induction k with
 |zero =>
  intro i hk hi;rw[Dl];have u:decide ((i:Int)<(Z s:Int))=I:=by simp;omega
  have z:s.drop i=[]:=yK.2 X;simp only[go_sem,u,Zp5,z,xI,zP]
 |succ k B =>
  intro i hk hi;rw[Dl];have y:i<Z s:=X
  have u:decide ((i:Int)<(Z s:Int))=Y:=by simp;omega
  have hw:xV.wrap ((i:Int)+1)=((i+1:Nat):Int):=by rw[Zl X X];omega
  have j:Zp (.str s) (Q J (i:Int))=K (.int .u8 (s[i].toNat:Int)):=ZG (zZ y);rw[zV y,yT,ZmL s[i]];simp only[go_sem,u,Ih,j]
  cases C:decide ((s[i].toNat:Int)<48) with
  |true=>simp only[go_sem,zF,zO]
  |false =>
   cases w:decide ((57:Int)<(s[i].toNat:Int)) with
   |true=>simp only[go_sem,j,w,zF,zG,zO,yD]
   |false =>
    simp only[go_sem,j,w,zG,yU,zP,Ii,hw];exact B (i+1) X X
theorem ZlF (s:Zj)(hs:Z s<=1048576)(H:Hp):Ze G8 [.str s] H=K (.bool (Zno s),H):=by
 refine YG (a':=.str s) rfl (H1:=[]) ?_ rfl;rw[OO];unfold PH;simp only[go_sem];exact ZlG s hs [] [] (Z s) 0 rfl X
def DP (j n:Zj):Bool:=decide ((Yu j).length<Z n)&&((n.take (Yu j).length==Yu j)&&Zno (n.drop (Yu j).length))
def Ws (j:Zj)(fs:List Fil):List Zj:=(fs.map Fil.name).filter (DP j)
def Xo (j:Zj)(s:Sto):List Zj:=if X1 j then Ws j (ZH s.files) else []
theorem ZkD (j:Zj)(a b:List Fil):Ws j (a++b)=Ws j a++Ws j b:=by
 unfold Ws;rw[zT,List.filter_append]
theorem ZbW (j:Zj)(a:List Fil):(Ws j a).length<=Z a:=by
 unfold Ws;exact zU (xB _ _) U
theorem ZtV {H0:Hp}{j:Zj}(ho:Z j<=1048576){x:AV}{fs:List Fil}(hx:Sl 3 x (fs.map ZL))(hl:Z fs<=64)(hn:∀ f∈fs,Z f.name<=1048576)(HB:Hp):∀ (r d:List Fil) (N:AV) (H:Hp),fs=d++r ->
 RowN (Z H0) H 1 N ((Ws j d).map xF)->Keep (Z H0) H0 H->Z H0<=Z H ->
 ∃ y H',KE N (.str (Yu j)) x (Q J (Z fs:Int)) (Q J (Z d:Int)) HB H=K (y,H')/\RowN (Z H0) H' 1 y ((Ws j fs).map xF)/\Keep (Z H0) H0 H'/\Z H0<=Z H':=by
 have aq:(Yu j).length=Z j+6:=by simp[Yu]
 intro r
 induction r with
 |nil =>
  intro d N H G h5 hK B;rw[zH]at G;subst G;have P:decide ((Z fs:Int)<(Z fs:Int))=I:=U
  rw[Gi];simp only[go_sem,P,Nr];exact⟨_,_,rfl,h5,hK,B⟩
 |cons f r ih =>
  intro d N H G h5 hK B;have ah:Z fs=Z d+(Z r+1):=by rw[G];simp
  have P:decide ((Z d:Int)<(Z fs:Int))=Y:=by simp;omega
  have M:xV.wrap ((Z d:Int)+1)=((Z d+1:Nat):Int):=by rw[Zl X X];omega
  have ac:fs[Z d]?=K f:=by rw[G,zD (zE _)];simp
  have ap:=hn f (xD ac);have ab:Zr 3 x (Q J (Z d:Int))=K (.vp (ZL f).cells):=Sl.idx hx (c:=ZL f) (by simp[ac]);have z:(H++[zJ [.str [],Q J 0,Q J 0]])[Z H]?=K (.cells [.str [],Q J 0,Q J 0]):=U
  have ak:Zg 3 (.ptr (Z H) 0) (ZL f) (H++[zJ [.str [],Q J 0,Q J 0]])=K (.tuple [],H++[zJ (ZL f).cells]):=by
   rw[Uc (v:=ZL f) (sz:=3) z rfl rfl U];simp[splice,ZL,xG]
  have g1:(H++[zJ (ZL f).cells])[Z H]?=K (.cells (ZL f).cells):=U
  have m0:=ZZ g1 0 (v:=.str f.name) rfl;have E:Keep (Z H0) H0 (H++[zJ (ZL f).cells]):=hK.trans (Keep.push H B _)
  have D:RowN (Z H0) (H++[zJ (ZL f).cells]) 1 N ((Ws j d).map xF):=by
   rcases h5 with k|⟨t,e,k1,k2,k3⟩
   ·exact .inl k
   ·exact .inr ⟨t,e,k1,XC k2 _,k3⟩
  have ao:(Ws j d).length<=Z d:=ZbW _ _;have ad:(ZB 1 [(0,.str f.name)] [(.str [])]).map (xR 1 .clip)=K (.vs 1 .clip [.str f.name]):=VH _;obtain⟨x',H1,q1,q2,q3,q4,_⟩:=D.app (by simp;omega) 16 (.vs 1 .clip [.str f.name]) [.str f.name] rfl (by simp;omega)
  have u:Ws j (d++[f])=Ws j d++(if DP j f.name then [f.name] else []):=by
   rw[ZkD];congr 1;unfold Ws;cases F:DP j f.name <;> simp[F]
  rw[Gi]
  have ag:Z2 .gtr (Q J (Z f.name:Int)) (Q J ((Yu j).length:Int))=K (.bool (decide ((Yu j).length<Z f.name))):=by
   simp only[go_sem];congr 2;rw[yA];simp
  have ae:Zf .string (.str (Yu j))=K (Q J ((Yu j).length:Int)):=rfl;have af:Zf .string (.str f.name)=K (Q J (Z f.name:Int)):=rfl;simp only[go_sem,P,pW,ab,Zg3,ak,ae,af,zC,m0,ag]
  cases z:decide ((Yu j).length<Z f.name) with
  |false =>
   have F:DP j f.name=I:=by unfold DP;rw[z];rfl
   rw[F,if_neg U,zH]at u;obtain⟨y1,w,C,R,S,T⟩:=ih (d++[f]) N (H++[zJ (ZL f).cells]) (by rw[G];simp) (by rw[u];exact D) E (by simp;omega);rw[zB,zA]at C;refine⟨y1,w,?_,R,S,T⟩;simp only[go_sem,US,M];exact C
  |true =>
   have an:(Yu j).length<Z f.name:=of_decide_eq_true z
   have al:ZR (.str f.name) V (K (Q J ((Yu j).length:Int))) V=K (.str (f.name.take (Yu j).length)):=by
    rw[BG .i64 X X,yE]
   have am:ZR (.str f.name) (K (Q J ((Yu j).length:Int))) V V=K (.str (f.name.drop (Yu j).length)):=by
    rw[P6 .i64 X X,yE]
   have aj:Y1 .eql (.str (f.name.take (Yu j).length)) (.str (Yu j))=K (.bool (f.name.take (Yu j).length==Yu j)):=rfl;have ai:=ZlF (f.name.drop (Yu j).length) (by rw[List.length_drop];omega);simp only[go_sem,zC,m0,al,aj]
   cases O:(f.name.take (Yu j).length==Yu j) with
   |false =>
    have F:DP j f.name=I:=by unfold DP;rw[z,O];rfl
    rw[F,if_neg U,zH]at u;obtain⟨y1,w,C,R,S,T⟩:=ih (d++[f]) N (H++[zJ (ZL f).cells]) (by rw[G];simp) (by rw[u];exact D) E (by simp;omega);rw[zB,zA]at C;refine⟨y1,w,?_,R,S,T⟩;simp only[go_sem,US,M];exact C
   |true =>
    simp only[go_sem,zC,m0,am,ai]
    cases aa:Zno (f.name.drop (Yu j).length) with
    |false =>
     have F:DP j f.name=I:=by unfold DP;rw[z,O,aa];rfl
     rw[F,if_neg U,zH]at u;obtain⟨y1,w,C,R,S,T⟩:=ih (d++[f]) N (H++[zJ (ZL f).cells]) (by rw[G];simp) (by rw[u];exact D) E (by simp;omega);rw[zB,zA]at C;refine⟨y1,w,?_,R,S,T⟩;simp only[go_sem,US,M];exact C
    |true =>
     have F:DP j f.name=Y:=by unfold DP;rw[z,O,aa];rfl
     rw[F,if_pos rfl]at u;obtain⟨y1,w,C,R,S,T⟩:=ih (d++[f]) x' H1 (by rw[G];simp) (by rw[u,zT];exact q2) (E.trans q4) q3;rw[zB,zA]at C;refine⟨y1,w,?_,R,S,T⟩;simp only[go_sem,zC,m0,ad,q1,US,M];exact C
theorem ZbN {l:List Fil}{n:Zj}{f:Fil}(h:Y2 l n=K f):f∈l:=by
 obtain⟨a,b,e,_⟩:=VY h;rw[e];simp
theorem ZbZ {l:List Fil}{f:Fil}(h:f∈ZH l):f∈l:=by
 unfold ZH at h;obtain⟨n,_,j⟩:=List.mem_filterMap.1 h;exact ZbN j
theorem ZbY (l:List Fil):(ZH l).length<=Z l:=by
 unfold ZH;refine zU (List.length_filterMap_le _ _) ?_;rw[(Qy _).length_eq,zM];exact zE _
theorem Zye {H:Hp}{t:Nat}{s:Sto}{S:dv}(h:StoreAt H t s S)(hk:StoOk s)(j:Zj)(D:Z j<=1048576):∃ x,Ve Qc [.ptr t 0,.str j] H=K (x,H)/\SS x (Xo j s):=by
 have B:=Oh j D H;have w:Y5 (.pointer 76) .eql (.ptr t 0) .nilp=K (.bool I):=rfl
 cases u:X1 j with
 |false =>
  rw[u]at B;refine⟨.nils,Qx (H1:=H) (v:=.nils) ?_ (Keep.refl _ _) (zE _) rfl,.inl ⟨rfl,by unfold Xo;rw[u];rfl⟩⟩;rw[GW];unfold Gq;simp only[go_sem,w,B,zG]
 |true =>
  rw[u]at B;obtain⟨x,q1,M⟩:=cH h hk
  have E:Zf (.slice 96) x=K (Q J ((ZH s.files).length:Int)):=by
   have:=Sl.len M 96
   rwa [zM]at this
  have R:=ZbY s.files;have P:=hk.len;obtain⟨y,H1,p1,p2,F,G⟩:=ZtV D M X (λf O=>zU (Zg6 (hk.name f (ZbZ O))) X) H (ZH s.files) [] .nils H rfl (.inl ⟨rfl,rfl⟩) (Keep.refl _ _) (zE _)
  have z:Qc [.ptr t 0,.str j] H=K (y,H1):=by
   rw[GW];unfold Gq;simp only[go_sem,w,B,zF,Nq,jT j D,q1,E];exact p1
  have C:Xo j s=Ws j (ZH s.files):=by unfold Xo;rw[u];rfl
  rw[C];rcases p2 with ⟨rfl,T⟩|⟨N,e,rfl,ht,aa⟩
  ·exact⟨.nils,Qx z F G rfl,.inl ⟨rfl,T⟩⟩
  ·refine⟨.vs 1 (if N<Z H then .own N e else .no) ((Ws j (ZH s.files)).map xF),Qx z F G (by rw[BI,Cd (λx E=>by obtain⟨n,_,rfl⟩:=yW.1 E;rfl)]),.inr ⟨_,rfl⟩⟩
theorem iO (n:AV)(H:Hp):YZ [.nilp,n] H=K (Q J 5,H):=by
 have j:Y5 (.pointer 87) .eql .nilp .nilp=K (.bool Y):=rfl;rw[GY];unfold Jp;simp only[j,go_sem]
theorem ZyY (H:Hp):XJ [.nilp] H=K (.tuple [.str [],Q J 5],H):=by
 have j:Y5 (.pointer 87) .eql .nilp .nilp=K (.bool Y):=rfl;rw[D6];unfold JX;simp only[j,go_sem]
theorem b50:((5:Int) != 0)=Y:=rfl
theorem Zvn (n x:AV)(H:Hp):Xh [.nilp,n,x] H=K (Q J 5,H):=by
 rw[Gr];unfold QG;simp only[iO,go_sem,b50]
theorem ZxC (n:AV)(H:Hp):Xq [.nilp,n] H=K (Q J 5,H):=by
 rw[GX];unfold Jo;simp only[iO,go_sem,b50]
theorem Zpp (n:AV)(H:Hp):YM [.nilp,n] H=K (Q J 5,H):=by
 rw[W9];unfold XP;simp only[iO,go_sem,b50]
theorem Zvd (n i:AV)(H:Hp):YH [.nilp,n,i] H=K (.tuple [.str [],Q J 0,Q J 5],H):=by
 rw[Wy];unfold Wl;simp only[iO,go_sem,b50]
theorem ZtH {l:List Fil}{n m:Zj}{u:Fil->Fil}(w:∀ g,(u g).name=g.name):Y2 (Y9 l m u) n=if n=m then (Y2 l n).map u else Y2 l n:=by
 induction l with
 |nil=>simp[Y9,Y2]
 |cons g l y =>
  rw[Y9];by_cases h:m=g.name
  ·rw[if_pos h];by_cases j:n=g.name
   ·have:n=m:=j.trans h.symm;rw[if_pos this];simp[Y2,w,j]
   ·have:n≠m:=λe=>j (e.trans h);rw[if_neg this];simp[Y2,w,j]
  ·rw[if_neg h];by_cases j:n=g.name
   ·have:n≠m:=λe=>h (e.symm.trans j);rw[if_neg this];simp[Y2,j]
   ·simp only[Y2,if_neg j];exact y
theorem Zoc {H:Hp}{o t:Nat}{tm:Tmp}{s:Sto}{A:dv}(h:SysAt H o t tm s A)(hm:TmpOk tm){n:Zj}(y:ZI tm n≠0):YM [.ptr o 0,.str n] H=K (Q J (ZI tm n),H):=by
 obtain⟨B,S,⟨D,u,E,sl,w,rfl⟩,z,C,rfl⟩:=h;have j:=Rl w hm n;have e0:(ZI tm n != 0)=Y:=by simpa using y
 rw[W9];unfold XP;simp only[j,go_sem,e0]
theorem ZyL (a a':Zj)(m j n u:Int):Qg Go.Proofs.Tryz.prog cfg.eqok .neq 96 (.agg [.str a,Q J m,Q J n]) (.agg [.str a',Q J j,Q J u]) =
 (match (match K (a==a') with
  |some Y=>(match K (m==j) with
   |some Y=>(match K (n==u) with
    |some Y=>K Y
    |r=>r)
   |r=>r)
  |r=>r:Option Bool) with
 |some b=>K (.bool (!b))
 |none=>V):=dz
theorem ZzT (f:Fil):Qg Go.Proofs.Tryz.prog cfg.eqok .neq 96 (ZL f) (ZL f)=K (.bool I):=by
 unfold ZL;rw[ZyL];simp
theorem Zs4 {x z:AV}{l:List Fil}(F:Sl 3 x (l.map ZL))(G:Sl 3 z (l.map ZL))(N:Z l<=64)(H0 H:Hp):∀ (r d:List Fil),l=d++r ->
 K0 x z (Q J (Z d:Int)) H0 H=K (.bool Y,H):=by
 have y:Zf (.slice 96) x=K (Q J (Z l:Int)):=by
  have:=Sl.len F 96
  rwa [zM]at this
 intro r
 induction r with
 |nil =>
  intro d u;rw[zH]at u;subst u;have j:decide ((Z l:Int)<(Z l:Int))=I:=U
  rw[PO];simp only[go_sem,y,j,oF]
 |cons f r M =>
  intro d u;have E:Z l=Z d+(Z r+1):=by rw[u];simp
  have j:decide ((Z d:Int)<(Z l:Int))=Y:=by simp;omega
  have D:xV.wrap ((Z d:Int)+1)=((Z d+1:Nat):Int):=by rw[Zl X X];omega
  have w:l[Z d]?=K f:=by rw[u,zD (zE _)];simp
  have B:Zr 3 x (Q J (Z d:Int))=K (.vp (ZL f).cells):=Sl.idx F (c:=ZL f) (by simp[w]);have C:Zr 3 z (Q J (Z d:Int))=K (.vp (ZL f).cells):=Sl.idx G (c:=ZL f) (by simp[w]);have k:=M (d++[f]) (by rw[u];simp);rw[zB,zA]at k;rw[PO];simp only[go_sem,y,j,oG,B,C,Zg3,ZzT,oH,D];exact k
theorem Sl.closeF {x:AV}{l:List Fil}(h:Sl 3 x (l.map ZL)):∃ j,Zk [] 0 9 x=K j/\Sl 3 j (l.map ZL):=by
 rcases h with ⟨rfl,e⟩|⟨tk,rfl⟩
 ·exact⟨.nils,rfl,.inl ⟨rfl,e⟩⟩
 ·exact⟨_,by rw[BI,Zg4],.inr ⟨_,rfl⟩⟩
theorem ZiF {x z:AV}{l:List Fil}(F:Sl 3 x (l.map ZL))(G:Sl 3 z (l.map ZL))(E:Z l<=64)(H:Hp):Ze Gm [x,z] H=K (.bool Y,H):=by
 obtain⟨M,C,j⟩:=F.closeF;obtain⟨N,D,w⟩:=G.closeF;refine Xn C D (H1:=[]) ?_ rfl;have B:((Z l:Int) != (Z l:Int))=I:=U
 have u:=Sl.len j 96;have y:=Sl.len w 96;rw[zM]at u y;rw[Za3];unfold Im;simp only[go_sem,u,y,B,oE];exact Zs4 j w E [] [] l [] rfl
theorem Zvk (l:List Fil)(n:Zj)(u:Fil->Fil)(k:Nat)(j:∀ f,(u f).text.length<=Z f.text+k):Zs (Y9 l n u)<=Zs l+k:=by
 induction l with
 |nil=>simp[Zs,Y9]
 |cons f l w =>
  rw[Y9];split
  ·have:=j f;simp only[Zs];omega
  ·simp only[Zs];omega
theorem Zvj {s:Sto}(hk:StoOk s)(n:Zj)(u:Fil->Fil)(k p:Nat)(w:∀ f,(u f).name=f.name)(C:∀ f,(u f).text.length<=Z f.text+k)(hs:∀ f,f.syn<=Z f.text->(u f).syn<=(u f).text.length)(z:Zs s.files+k<=s.limit)(B:p<=s.limit):StoOk { s with files:=Y9 s.files n u,peak:=p }:=by
 have j:=PA s.files n u w;have y:=Zvk s.files n u k C;have D:=hk.len;refine⟨hk.limit,zU y z,B,kX (P:=λf=>UN f.name=Y) s.files n _ hk.name λf h=>by rw[w];exact h,by show ((Y9 s.files n u).map Fil.name).Nodup;rw[j];exact hk.nd,kX (P:=λf=>f.syn<=Z f.text) s.files n _ hk.syn hs,?_,hk.count⟩;show (Y9 s.files n u).length<=64;have:=congrArg xT j;rw[zM,zM]at this;omega
theorem iQ {l:List Fil}{n:Zj}{f:Fil}(h:Y2 l n=K f):f.name=n:=by
 obtain⟨a,b,e,j,_⟩:=VY h;exact j
theorem ZtZ {l:List Fil}(n:Zj)(u:Fil->Fil)(w:∀ f,(u f).name=f.name):ZH (Y9 l n u)=(ZH l).map λf=>if f.name=n then u f else f:=by
 unfold ZH;rw[PA l n u w,List.map_filterMap];congr 1;funext m;rw[ZtH w];by_cases h:m=n
 ·rw[if_pos h]
  cases j:Y2 l m with
  |none=>rfl
  |some f =>
   have:=iQ j;simp[this,h]
 ·rw[if_neg h]
  cases j:Y2 l m with
  |none=>rfl
  |some f =>
   have:=iQ j;simp[this,h]
def gtB (a b:Zj):Bool:=!(Op.bytesLess a b || a==b)
theorem Zpz (a b:Zj):gtB a b=Y↔b<a:=by
 unfold gtB;rw[Go.Proofs.bytesLess_eq,Bool.not_eq_true',Bool.or_eq_false_iff,decide_eq_false_iff_not,beq_eq_false_iff_ne];constructor
 ·rintro⟨h1,h2⟩
  rcases List.le_iff_lt_or_eq.1 (xU.1 h1) with h|h
  ·exact h
  ·exact absurd h.symm h2
 ·intro h;exact⟨λk=>xP _ (List.lt_trans h k),λe=>xP _ (e ▸ h)⟩
def eB (f g:Fil):Bool:=leB f.name g.name
theorem Zif (L:List Fil):L.Pairwise (λf g=>eB f g=Y)↔(L.map Fil.name).Pairwise λa b=>leB a b=Y:=by rw[List.pairwise_map];rfl
theorem Zng (a b c:Fil)(j:eB a b=Y)(u:eB b c=Y):eB a c=Y:=Znf _ _ _ j u
theorem ZtU (a b:Fil):(eB a b || eB b a)=Y:=Zne _ _
theorem On {l m:List Zj}(h:l.Pairwise (λa b=>leB a b=Y))(w:l.Perm m):VJ m=l:=by
 refine List.Perm.eq_of_pairwise (le:=λa b=>leB a b=Y) (λa b _ _ j u=>?_) (Zch m) h ((Qy m).trans w.symm);simp only[leB,decide_eq_true_eq]at j u;exact List.le_antisymm j u
theorem Zev {l:List Fil}(nd:(l.map Fil.name).Nodup){f:Fil}(j:f∈l):Y2 l f.name=K f:=by
 induction l with
 |nil=>cases j
 |cons g l u =>
  rw[zW,yY]at nd;rw[Y2];rcases zK.1 j with e|j
  ·rw[e,if_pos rfl]
  ·rw[if_neg (λe=>nd.1 (by rw[<-e];exact yC j)),u nd.2 j]
theorem iU {L l:List Fil}(hs:L.Pairwise (λf g=>eB f g=Y))(j:L.Perm l)(nd:(l.map Fil.name).Nodup):ZH l=L:=by
 unfold ZH;rw[On ((Zif L).1 hs) (j.map _),List.filterMap_map]
 have:∀ M:List Fil,(∀ f∈M,f∈l)->M.filterMap (Y2 l ∘ Fil.name)=M:=by
  intro M
  induction M with
  |nil=>intro _;rfl
  |cons f M y =>
   intro h;rw[List.filterMap_cons,Function.comp_apply,Zev nd (h f U),y λg w=>h g (by simp[w])]
 exact this L λf u=>j.mem_iff.1 u
theorem Zri (l:List Fil)(nd:(l.map Fil.name).Nodup):ZH l=l.mergeSort eB:=by
 refine iU (yX Zng ZtU l) (List.mergeSort_perm l _) nd
theorem Ae {l:List Fil}(nd:(l.map Fil.name).Nodup):(ZH l).Pairwise λf g=>eB f g=Y:=by
 rw[Zri l nd];exact yX Zng ZtU l
theorem Zg2 {l:List Fil}(nd:(l.map Fil.name).Nodup):((ZH l).map Fil.name).Nodup:=((VZ nd).map _).nodup_iff.2 nd
theorem Zp0 {l:List Fil}(nd:(l.map Fil.name).Nodup):(ZH l).map Fil.name=VJ (l.map Fil.name):=(On ((Zif _).1 (Ae nd)) ((VZ nd).map _)).symm
theorem Znk {l:List Fil}(nd:(l.map Fil.name).Nodup):(ZH l).length=Z l:=(VZ nd).length_eq
theorem ZtF {l m:List Fil}(j:l.Perm m)(nd:(m.map Fil.name).Nodup)(n:Zj):Y2 l n=Y2 m n:=by
 have u:(l.map Fil.name).Nodup:=(j.map _).nodup_iff.2 nd
 cases h:Y2 m n with
 |none=>exact Lf.2 λg w=>Lf.1 h g (j.mem_iff.1 w)
 |some f =>
  have:=Zev u (j.mem_iff.2 (ZbN h))
  rwa [iQ h]at this
theorem O7 {l:List Fil}(nd:(l.map Fil.name).Nodup)(n:Zj):Y2 (ZH l) n=Y2 l n:=ZtF (VZ nd) nd n
theorem Zsg {l m:List Fil}(h:l.Perm m):Zs l=Zs m:=by
 induction h with
 |nil=>rfl
 |cons x _ w=>simp only[Zs,w]
 |swap x y l=>simp only[Zs];omega
 |trans _ _ j u=>rw[j,u]
theorem Zii {l:List Fil}(nd:(l.map Fil.name).Nodup):Zs (ZH l)=Zs l:=Zsg (VZ nd)
def Ac (f:Fil):List Fil->List Fil
 |[]=>[f]
 |g::r=>if gtB g.name f.name=Y then f::g::r else g::Ac f r
theorem Zkw (f:Fil)(l:List Fil):(Ac f l).Perm (f::l):=by
 induction l with
 |nil=>exact xQ _
 |cons g r j =>
  rw[Ac];split
  ·exact xQ _
  ·exact (List.Perm.cons g j).trans (List.Perm.swap f g r)
theorem ZtT {a b:Zj}(h:a<b):leB a b=Y:=by simp only[leB,decide_eq_true_eq];exact List.le_of_lt h
theorem ZoW (f:Fil)(l:List Fil)(h:l.Pairwise λf g=>eB f g=Y):(Ac f l).Pairwise λf g=>eB f g=Y:=by
 induction l with
 |nil=>exact List.pairwise_singleton _ _
 |cons g r C =>
  obtain⟨z,B⟩:=yQ.1 h;rw[Ac];split
  ·rename_i w;have u:eB f g=Y:=ZtT ((Zpz _ _).1 w);refine yQ.2 ⟨λx j=>?_,h⟩;rcases zK.1 j with e|j
   ·rw[e];exact u
   ·exact Zng _ _ _ u (z x j)
  ·rename_i w;refine yQ.2 ⟨λx j=>?_,C B⟩;rcases zK.1 ((Zkw f r).mem_iff.1 j) with e|j
   ·rw[e];simp only[eB,leB,decide_eq_true_eq];exact xU.1 λy=>w ((Zpz _ _).2 y)
   ·exact z x j
theorem ZtX {l:List Fil}(nd:(l.map Fil.name).Nodup)(f:Fil)(w:Y2 l f.name=V):ZH (l++[f])=Ac f (ZH l):=by
 refine iU (ZoW f _ (Ae nd)) ((Zkw f _).trans (((VZ nd).cons f).trans (List.perm_append_singleton f l).symm)) ?_;rw[zT,yF];refine⟨nd,U,λa u b j e=>?_⟩;simp at j;obtain⟨g,y,z⟩:=yW.1 u;exact Lf.1 w g y (by rw[z,e,j])
theorem ZiA {l:List Fil}(nd:(l.map Fil.name).Nodup)(n:Zj):JI l n=l.filter λf=>decide (f.name≠n):=by
 induction l with
 |nil=>rfl
 |cons g l u =>
  rw[zW,yY]at nd;rw[JI];split
  ·rename_i h;rw[List.filter_cons_of_neg (by simp[h]),eq_comm,List.filter_eq_self];intro f j;simp only[ne_eq,decide_eq_true_eq];intro e;exact nd.1 (by rw[<-h,<-e];exact yC j)
  ·rename_i h;rw[List.filter_cons_of_pos (by simpa using λe=>h e.symm),u nd.2]
theorem Zx0 {l:List Fil}(nd:(l.map Fil.name).Nodup)(n:Zj):ZH (JI l n)=JI (ZH l) n:=by
 refine iU ((Ae nd).sublist (Zk3 _ _)) ?_ (nd.sublist ((Zk3 l n).map _));rw[ZiA nd,ZiA (Zg2 nd)];exact (VZ nd).filter _
theorem Zvh {l:List Fil}(nd:(l.map Fil.name).Nodup)(n:Zj)(u:Fil->Fil):Y9 l n u=l.map λf=>if f.name=n then u f else f:=by
 induction l with
 |nil=>rfl
 |cons g l w =>
  rw[zW,yY]at nd;rw[Y9,zW];by_cases h:n=g.name
  ·rw[if_pos h,if_pos h.symm];congr 1;rw[eq_comm];refine (List.map_congr_left λf j=>?_).trans (List.map_id _);exact if_neg λe=>nd.1 (by rw[<-h,<-e];exact yC j)
  ·rw[if_neg h,if_neg (λe=>h e.symm),w nd.2]
theorem iV {l:List Fil}(nd:(l.map Fil.name).Nodup)(n:Zj)(u:Fil->Fil)(j:∀ f,(u f).name=f.name):ZH (Y9 l n u)=Y9 (ZH l) n u:=by
 rw[ZtZ n u j,Zvh (Zg2 nd)]
def JF:List Fil->Zj->Option Nat
 |[],_=>V
 |f::l,n=>if f.name=n then K 0 else (JF l n).map (·+1)
theorem Zez (l:List Fil)(n:Zj):(JF l n=V/\Y2 l n=V)\/∃ i f,JF l n=K i/\Y2 l n=K f/\l[i]?=K f/\i<Z l/\JI l n=l.eraseIdx i/\∀ u,Y9 l n u=l.set i (u f):=by
 induction l with
 |nil=>exact .inl ⟨rfl,rfl⟩
 |cons g l D =>
  by_cases h:g.name=n
  ·refine .inr ⟨0,g,by rw[JF,if_pos h],by rw[Y2,if_pos h.symm],rfl,U,by rw[JI,if_pos h.symm];rfl,λu=>by rw[Y9,if_pos h.symm];rfl⟩
  ·have j:¬ n=g.name:=λe=>h e.symm;rcases D with ⟨w,y⟩|⟨i,f,w,y,z,E,B,C⟩
   ·exact .inl ⟨by rw[JF,if_neg h,w];rfl,by rw[Y2,if_neg j,y]⟩
   ·refine .inr ⟨i+1,f,by rw[JF,if_neg h,w];rfl,by rw[Y2,if_neg j,y],by simpa using z,by simp;omega,by rw[JI,if_neg j,B];rfl,λu=>by rw[Y9,if_neg j,C];rfl⟩
def Pa (k:Nat):Nat->List Fil->List Fil
 |_,[]=>[]
 |i,f::l=>YF k i f::Pa k (i+1) l
theorem ZxV (A:List Fil)(f:Fil)(B:List Fil)(u:Fil->Fil)(h:∀ g∈A,g.name≠f.name):Y9 (A++f::B) f.name u=A++u f::B:=by
 induction A with
 |nil=>simp[Y9]
 |cons x A w=>rw[yH,Y9,if_neg (λe=>h x U e.symm),w λg j=>h g (by simp[j])];rfl
theorem ZtY (k:Nat):∀ (B A:List Fil) (l:List Fil),(l.map Fil.name).Nodup->ZH l=A++B->ZH (Zbq k (Z A) (B.map Fil.name) l)=A++Pa k (Z A) B:=by
 intro B
 induction B with
 |nil=>intro A l _ h;exact h
 |cons f B C =>
  intro A l nd h;have z:=PA l f.name (YF k (Z A)) λ_=>rfl;have u:((Y9 l f.name (YF k (Z A))).map Fil.name).Nodup:=by rw[z];exact nd
  have w:ZH (Y9 l f.name (YF k (Z A)))=(A++[YF k (Z A) f])++B:=by
   rw[iV nd f.name (YF k (Z A)) λ_=>rfl,h];have j:=Zg2 nd;rw[h,zT,yF]at j;rw[ZxV _ _ _ _ λg y e=>j.2.2 g.name (yC y) f.name U e,zN];rfl
  have:=C (A++[YF k (Z A) f]) _ u w;rw[zB,zA]at this;rw[zW,Zbq,this,Pa,zN];rfl
theorem ZlD {s:Sto}(nd:(s.files.map Fil.name).Nodup)(k:Nat):ZH (s.restart k).files=Pa k 0 (ZH s.files):=by
 show ZH (Zbq k 0 (VJ (s.files.map Fil.name)) s.files)=_;rw[<-Zp0 nd];exact ZtY k (ZH s.files) [] s.files nd rfl
theorem Zsy (k o e x:Nat):Z6 k (.wp o e x)=K (.wp o e (x+k)):=dy
attribute [go_sem] Zsy
def Ys (f:Fil):du:=[.str f.name,.str f.text,Q J (f.syn:Int)]
def Xp (L:List Fil):du:=(L.map Ys).flatten
theorem kA (A B:List Fil):Xp (A++B)=Xp A++Xp B:=by simp[Xp]
theorem Ll (f:Fil)(B:List Fil):Xp (f::B)=Ys f++Xp B:=by simp[Xp]
theorem M0 (L:List Fil):(Xp L).length=Z L*3:=by
 induction L with
 |nil=>rfl
 |cons f L j=>rw[Ll,zB,j,yG];simp[Ys];omega
theorem Zu5 {L:List Fil}{i:Nat}{f:Fil}(h:L[i]?=K f):∃ A B,L=A++f::B/\Z A=i:=by
 obtain⟨u,j⟩:=yV.1 h;refine⟨L.take i,L.drop (i+1),?_,by rw[yB];omega⟩;rw[<-j,<-zV u,List.take_append_drop]
theorem ZpL (A:List Fil)(f g:Fil)(B:List Fil):(A++f::B).set (Z A) g=A++g::B:=by
 induction A with
 |nil=>rfl
 |cons x A j=>simp only[yH,yG,List.set_cons_succ,j]
def FsAt (H:Hp)(x:AV)(L:List Fil):Prop:=x=.nils/\L=[]\/∃ o e,x=.ws Y 3 o e (Z L)/\H[o]?=K (.row e (Xp L))
def XE:AV->dv
 |.ws _ _ o _ _=>[o]
 |_=>[]
theorem FsAt.frame {H H':Hp}{x:AV}{L:List Fil}(h:FsAt H x L)(w:∀ a∈XE x,H'[a]?=H[a]?):FsAt H' x L :=
 h.imp id λ⟨o,e,j,u⟩=>⟨o,e,j,(w o (by rw[j];simp[XE])).trans u⟩
theorem FsAt.lt {H:Hp}{x:AV}{L:List Fil}(h:FsAt H x L):∀ a∈XE x,a<Z H:=by
 intro a j;rcases h with ⟨rfl,_⟩|⟨o,e,rfl,u⟩
 ·cases j
 ·rw[zI.1 j];exact Zq u
theorem FsAt.len {H:Hp}{x:AV}{L:List Fil}(h:FsAt H x L)(t:Nat):Zf (.slice t) x=K (Q J (Z L:Int)):=by
 rcases h with ⟨rfl,rfl⟩|⟨o,e,rfl,_⟩ <;> rfl
theorem FsAt.idx {H:Hp}{x:AV}{L:List Fil}(h:FsAt H x L){i:Nat}{f:Fil}(hi:L[i]?=K f) :
 ∃ o e,x=.ws Y 3 o e (Z L)/\H[o]?=K (.row e (Xp L))/\Zr 3 x (Q J (i:Int))=K (.wp o e (i*3)) /\
  Z4 I 1 (.wp o e (i*3)) H=K (.str f.name)/\Z4 I 1 (.wp o e (i*3+1)) H=K (.str f.text)/\Z4 I 1 (.wp o e (i*3+2)) H=K (Q J (f.syn:Int)) /\
  Z4 Y 3 (.wp o e (i*3)) H=K (.agg (Ys f)):=by
 have F:=(yV.1 hi).1;rcases h with ⟨rfl,rfl⟩|⟨o,e,rfl,u⟩
 ·simp at hi
 ·obtain⟨A,B,rfl,rfl⟩:=Zu5 hi;have w:Xp (A++f::B)=Xp A++(Ys f++Xp B):=by rw[kA,Ll]
  have E:=M0 A;have C:(Xp (A++f::B)).drop (Z A*3)=Ys f++Xp B:=by rw[w,<-E,List.drop_left]
  have y:∀ j,(Xp (A++f::B))[Z A*3+j]?=(Ys f++Xp B)[j]?:=λj=>by rw[<-List.getElem?_drop,C]
  have z:(Xp (A++f::B))[Z A*3]?=K (.str f.name):=y 0;refine⟨o,e,rfl,u,?_,?_,?_,?_,?_⟩
  ·unfold Zr;dsimp only;rw[if_pos X,yE]
  ·unfold Z4;simp only[u,if_true];unfold Go.Am.apart;simp only[z];rfl
  ·unfold Z4;simp only[u,if_true];unfold Go.Am.apart;simp only[y];rfl
  ·unfold Z4;simp only[u,if_true];unfold Go.Am.apart;simp only[y];rfl
  ·unfold Z4;simp only[u,if_true];unfold Go.Am.apart;have D:((Xp (A++f::B)).drop (Z A*3)).take 3=Ys f:=by rw[C];rfl
   simp only[D,if_true];rw[if_pos (by rw[M0];simp;omega)]
theorem FsAt.app {H:Hp}{x:AV}{L:List Fil}(h:FsAt H x L)(f:Fil)(C:Z L<=1048576) :
 ∃ j H',V1 Y 3 40 x (.vs 3 .clip [.agg (Ys f)]) H=K (j,H')/\FsAt H' j (L++[f])/\Stp (XE x) H H'/\(∀ a∈XE j,a∈XE x\/a=Z H)/\j.cells=[j]/\j.known=Y:=by
 unfold V1;have B:Go.Am.elems 3 (.vs 3 .clip [.agg (Ys f)]) H=K [.agg (Ys f)]:=rfl;rw[B];dsimp only;have y:Xe 1 40=Y:=rfl;have u:Xe (Z L+1) 40=Y:=by simp[Xe];omega
 rcases h with ⟨rfl,rfl⟩|⟨o,e,rfl,z⟩
 ·refine⟨.ws Y 3 (Z H) 0 1,H++[.row 0 (Ys f)],?_,.inr ⟨Z H,0,rfl,by simp[Xp]⟩,Stp.push _ _,λa w=>.inr (zI.1 w),rfl,rfl⟩;unfold BF;simp only[zA,y,if_true,zW,xS,yR,xK,xG,zH];rw[if_neg U]
 ·refine⟨.ws Y 3 o (e+1) (Z L+1),H.set o (.row (e+1) (Xp (L++[f]))),?_,.inr ⟨o,e+1,U,Zu _ z⟩,Stp.set _ _ (by simp[XE]),λa w=>.inl (by simpa[XE]using w),rfl,rfl⟩;unfold BF;simp only[zA,u,and_self,if_true,z,M0,zE,ZcB,List.take_of_length_le (Nat.le_of_eq (M0 L)),zW,xS,yR,xK,xG,zH];rw[if_neg U,kA,Ll];simp[Xp]
theorem Zs9 (A:List Fil)(f:Fil)(B:List Fil)(j:Nat)(c:du)(y:j+Z c<=3):splice (Xp (A++f::B)) (Z A*3+j) c=Xp A++(splice (Ys f) j c++Xp B):=by
 have u:=M0 A;have w:(Ys f).length=3:=rfl;unfold splice;rw[kA,Ll,<-u];rw[List.take_length_add_append,List.take_append_of_le_length X,Nat.add_assoc,List.drop_length_add_append,yM X];simp[zN]
theorem FsAt.put {H:Hp}{L:List Fil}{o e i:Nat}{f g:Fil}(w:H[o]?=K (.row e (Xp L)))(hi:L[i]?=K f)(j:Nat){v:AV}(hk:v.known=Y)(sz:Nat)(y:Z v.cells=sz)(z:j+sz<=3)(u:splice (Ys f) j v.cells=Ys g) :
 Zg sz (.wp o e (i*3+j)) v H=K (.tuple [],H.set o (.row e (Xp (L.set i g)))):=by
 obtain⟨A,B,rfl,rfl⟩:=Zu5 hi;have C:(Xp (A++f::B)).length=Z A*3+(3+Z B*3):=by rw[M0];simp;omega
 unfold Zg YE;simp only[w];rw[if_pos ⟨trivial,hk,y,X⟩,Zs9 A f B j v.cells X,u,ZpL,<-Ll,<-kA]
def V3 (x:AV)(s:Sto):du:=[Q J (s.limit:Int),x,Q J (s.peak:Int),.bool s.crashed,Q J (s.count:Int)]
structure RfAt (H:Hp)(r:Nat)(x:AV)(s:Sto):Prop where
 cells:H[r]?=K (.cells (V3 x s))
 files:FsAt H x (ZH s.files)
 nr:r∉XE x
def RefAt (H:Hp)(r:Nat)(s:Sto)(A:dv):Prop:=∃ x,RfAt H r x s/\A=r::XE x
structure RefRes (H H':Hp)(r:Nat)(s':Sto)(A A':dv):Prop where
 at':RefAt H' r s' A'
 stp:Stp A H H'
 own:∀ a∈A',a∈A\/Z H<=a
structure ROk (s:Sto):Prop where
 sto:StoOk s
 cnt:s.crashed=Y->s.count=0
theorem ZxN {s:Sto}(h:StoOk s):StoOk s.tick:=by
 have:=h.count;unfold Sto.tick;split
 ·exact h
 ·split
  ·exact⟨h.limit,h.used,h.peak,h.name,h.nd,h.syn,h.len,U⟩
  ·exact⟨h.limit,h.used,h.peak,h.name,h.nd,h.syn,h.len,by show s.count-1<=9223372036854775807;omega⟩
theorem ROk.tick {s:Sto}(h:ROk s):ROk s.tick:=⟨ZxN h.sto,by
 unfold Sto.tick;split
 ·exact h.cnt
 ·split
  ·exact λ_=>rfl
  ·rename_i j _;exact λu=>absurd u j⟩
theorem ROk.nd {s:Sto}(h:ROk s):(s.files.map Fil.name).Nodup:=h.sto.nd
theorem ROk.len {s:Sto}(h:ROk s):(ZH s.files).length<=64:=zU (ZbY _) h.sto.len
theorem RfAt.lt {H:Hp}{r:Nat}{x:AV}{s:Sto}(h:RfAt H r x s):∀ a∈r::XE x,a<Z H:=by
 intro a j;rcases zK.1 j with e|j
 ·subst e;exact Zq h.cells
 ·exact h.files.lt a j
theorem RfAt.frame {H H':Hp}{r:Nat}{x:AV}{s:Sto}(h:RfAt H r x s)(j:∀ a∈r::XE x,H'[a]?=H[a]?):RfAt H' r x s :=
 ⟨(j _ U).trans h.cells,h.files.frame λa u=>j a (by simp[u]),h.nr⟩
theorem RefAt.lt {H:Hp}{r:Nat}{s:Sto}{A:dv}(h:RefAt H r s A):∀ a∈A,a<Z H:=by
 obtain⟨x,h,rfl⟩:=h;exact h.lt
theorem RefAt.frame {H H':Hp}{r:Nat}{s:Sto}{A:dv}(h:RefAt H r s A)(j:∀ a∈A,H'[a]?=H[a]?):RefAt H' r s A:=by
 obtain⟨x,h,rfl⟩:=h;exact⟨x,h.frame j,rfl⟩
theorem RefAt.stp {H H':Hp}{r:Nat}{s:Sto}{A B:dv}(h:RefAt H r s A)(hs:Stp B H H')(u:∀ a∈A,a∉B):RefAt H' r s A:=h.frame λa j=>hs.at' a (h.lt a j) (u a j)
theorem RefAt.self {H:Hp}{r:Nat}{s:Sto}{A:dv}(h:RefAt H r s A):RefRes H H r s A A:=⟨h,Stp.refl _ _,λa j=>.inl j⟩
theorem RfAt.cell {H H':Hp}{r:Nat}{x:AV}{s s':Sto}(h:RfAt H r x s)(u:Stp [r] H H')(w:H'[r]?=K (.cells (V3 x s')))(y:s'.files=s.files):RfAt H' r x s' :=
 ⟨w,by rw[y];exact h.files.frame λa j=>u.at' a (h.files.lt a j) (λz=>h.nr (by rw[zI.1 z]at j;exact j)),h.nr⟩
theorem RfAt.res {H H':Hp}{r:Nat}{x:AV}{s':Sto}(h:RfAt H' r x s')(u:Stp [r] H H'):RefRes H H' r s' (r::XE x) (r::XE x) :=
 ⟨⟨x,h,rfl⟩,u.mono λa j=>by rw[zI.1 j];simp,λa j=>.inl j⟩
theorem Zix {H:Hp}{r:Nat}{x:AV}{s:Sto}(h:RfAt H r x s)(hk:ROk s) :
 ∃ H',QT [.ptr r 0] H=K (.bool s.tick.crashed,H')/\RfAt H' r x s.tick/\Stp [r] H H':=by
 have y:=h.cells;have C:=hk.sto.count;have P:=ZZ y 4 (v:=Q J (s.count:Int)) rfl;rw[fJ];unfold Ed;by_cases E:s.count=1
 ·have M:s.crashed=I:=by cases w:s.crashed with
   |false=>rfl
   |true=>have:=hk.cnt w;omega
  have z:s.tick={ s with crashed:=Y,count:=0 }:=by unfold Sto.tick;rw[if_neg (by simp[M]),if_pos E]
  have D:((s.count:Int)==1)=Y:=by rw[E];rfl
  have R:=Wp y 3 (v:=.bool Y) rfl rfl (by simp[V3]);have B:=Zu (zJ (zL (V3 x s) 3 (.bool Y))) y;generalize F:H.set r (.cells (zL (V3 x s) 3 (.bool Y)))=H1 at R B;have S:=ZZ B 4 (v:=Q J (s.count:Int)) rfl;have hw:xV.wrap ((s.count:Int)-1)=0:=by rw[Zl X X];omega
  have hm:max (0:Int) 0=0:=rfl;have O:=Wp B 4 (v:=Q J 0) rfl rfl (by simp[V3]);have j:=Zu (zJ (zL (zL (V3 x s) 3 (.bool Y)) 4 (Q J 0))) B;have N:=ZZ j 3 (v:=.bool Y) rfl
  have u:Stp [r] H (H1.set r (.cells (zL (zL (V3 x s) 3 (.bool Y)) 4 (Q J 0)))):=by
   rw[<-F];exact (Stp.set H _ U).trans (Stp.set _ _ (zI.2 rfl)) (λa G=>G) (λa G=>.inl G)
  refine⟨_,by simp only[go_sem,zC,P,D,R,RL,S,hw,hm,O,N,z],?_,u⟩;rw[z];exact h.cell u j rfl
 ·have D:((s.count:Int)==1)=I:=by rw[beq_eq_false_iff_ne];omega
  have z:s.tick={ s with count:=s.count-1 }:=by
   unfold Sto.tick
   cases w:s.crashed with
   |true=>have:=hk.cnt w;rw[if_pos rfl];cases s;simp at this w;subst this;subst w;rfl
   |false=>rw[if_neg U,if_neg E]
  have hw:xV.wrap ((s.count:Int)-1)=(s.count:Int)-1:=Zl X X;have hm:max (0:Int) ((s.count:Int)-1)=((s.count-1:Nat):Int):=X
  have O:=Wp y 4 (v:=Q J ((s.count-1:Nat):Int)) rfl rfl (by simp[V3]);have j:=Zu (zJ (zL (V3 x s) 4 (Q J ((s.count-1:Nat):Int)))) y;have N:=ZZ j 3 (v:=.bool s.crashed) rfl;have u:Stp [r] H (H.set r (.cells (zL (V3 x s) 4 (Q J ((s.count-1:Nat):Int))))):=Stp.set _ _ U;refine⟨_,by simp only[go_sem,zC,P,D,RL,hw,hm,O,N,z],?_,u⟩;rw[z];exact h.cell u j rfl
def Bn (L:List Fil)(n:Zj):Int:=match JF L n with
 |some i=>(i:Int)
 |none=>-1
theorem ZiC {H:Hp}{r:Nat}{x:AV}{s:Sto}(h:RfAt H r x s)(hk:ROk s)(n:Zj):VL [.ptr r 0,.str n] H=K (Q J (Bn (ZH s.files) n),H):=by
 have D:=ZZ h.cells 1 (v:=x) rfl;have M:=hk.len;generalize N:ZH s.files=L at *;have y:FsAt H x L:=by rw[<-N];exact h.files
 have loop:∀ (q d:List Fil),L=d++q->Qe (.ptr r 0) (.str n) (Q J (Z d:Int)) H H=K (Q J (match JF q n with
  |some i=>((Z d+i:Nat):Int)
  |none=>-1),H):=by
  intro q
  induction q with
  |nil =>
   intro d u;rw[zH]at u;subst u;have j:decide ((Z L:Int)<(Z L:Int))=I:=U
   rw[RN];simp only[go_sem,zC,D,y.len,j,cU,JF]
  |cons f q O =>
   intro d u;have E:Z L=Z d+(Z q+1):=by rw[u];simp
   have j:decide ((Z d:Int)<(Z L:Int))=Y:=by simp;omega
   have C:xV.wrap ((Z d:Int)+1)=((Z d+1:Nat):Int):=by rw[Zl X X];omega
   have hi:L[Z d]?=K f:=by rw[u,zD (zE _)];simp
   obtain⟨o,e,rfl,_,G,F,_,_,_⟩:=y.idx hi;have w:Y1 .eql (.str f.name) (.str n)=K (.bool (f.name==n)):=rfl;rw[RN];by_cases z:f.name=n
   ·have B:(f.name==n)=Y:=by simpa using z
    simp only[go_sem,zC,D,y.len,j,RM,G,yN,F,w,B,JF,if_pos z]
   ·have B:(f.name==n)=I:=by simpa using z
    have k:=O (d++[f]) (by rw[u];simp);rw[zB,zA]at k;simp only[go_sem,zC,D,y.len,j,RM,G,yN,F,w,B,cV,C,k,JF,if_neg z];congr 3
    cases JF q n with
    |none=>rfl
    |some i=>simp only[Option.map_some];omega
 rw[fK];unfold Ee;have:=loop L [] rfl;simp only[yZ]at this;refine this.trans ?_;unfold Bn;congr 3
 cases JF L n with
 |none=>rfl
 |some i=>simp
theorem SZ {H:Hp}{r:Nat}{x:AV}{s:Sto}(h:RfAt H r x s)(hk:ROk s)(n:Zj) :
 ∃ (v e:Int) (H':Hp),WN [.ptr r 0,.str n] H=K (.tuple [Q J v,Q J e],H')/\RfAt H' r x s.tick/\Stp [r] H H' /\
  (s.tick.crashed=Y/\e=19\/s.tick.crashed=I/\Y2 s.files n=V/\e=5 \/
   s.tick.crashed=I/\e=0/\∃ (i:Nat) (f:Fil),v=(i:Int)/\i<(ZH s.files).length/\Y2 s.files n=K f/\(ZH s.files)[i]?=K f/\JI (ZH s.files) n=(ZH s.files).eraseIdx i/\∀ u,Y9 (ZH s.files) n u=(ZH s.files).set i (u f)):=by
 have j:∀ t,Y5 (.pointer t) .eql (.ptr r 0) .nilp=K (.bool I):=λ_=>rfl;obtain⟨H1,B,C,M⟩:=Zix h hk
 have w:VL [.ptr r 0,.str n] H1=K (Q J (Bn (ZH s.files) n),H1):=by
  have E:=hk.tick;have:=ZiC C E n
  rwa [Yh]at this
 rw[fI];unfold Ec
 cases y:s.tick.crashed with
 |true =>
  rw[y]at B;exact⟨0,19,H1,by simp only[j,go_sem,Jt,B],C,M,.inl ⟨rfl,rfl⟩⟩
 |false =>
  rw[y]at B;rcases Zez (ZH s.files) n with ⟨G,z⟩|⟨i,f,G,z,N,O,P,R⟩
  ·rw[O7 hk.nd]at z;have F:Bn (ZH s.files) n=-1:=by unfold Bn;rw[G]
   rw[F]at w;have D:decide ((-1:Int)<0)=Y:=rfl;exact⟨0,5,H1,by simp only[j,go_sem,Jt,B,RK,w,D],C,M,.inr (.inl ⟨rfl,z,rfl⟩)⟩
  ·rw[O7 hk.nd]at z;have F:Bn (ZH s.files) n=(i:Int):=by unfold Bn;rw[G]
   rw[F]at w;have D:decide ((i:Int)<0)=I:=U
   exact⟨(i:Int),0,H1,by simp only[j,go_sem,Jt,B,RK,w,D,cT],C,M,.inr (.inr ⟨rfl,rfl,i,f,rfl,O,z,N,P,R⟩)⟩
theorem jQ (f:Fil):(ZB 3 [(0,.agg (Ys f))] [(.agg [(.str []),(.str []),(Q J 0)])]).map (xR 3 .clip)=K (.vs 3 .clip [.agg (Ys f)]):=rfl
structure NewR (N:Nat)(H0 H:Hp)(x:AV)(L:List Fil):Prop where
 at':FsAt H x L
 keep:Keep N H0 H
 len:N<=Z H
 new:∀ a∈XE x,N<=a
 cell:x.cells=[x]/\x.known=Y
theorem NewR.app {N:Nat}{H0 H:Hp}{x:AV}{L:List Fil}(h:NewR N H0 H x L)(f:Fil)(y:Z L<=1048576):∃ j H',V1 Y 3 40 x (.vs 3 .clip [.agg (Ys f)]) H=K (j,H')/\NewR N H0 H' j (L++[f]):=by
 obtain⟨j,H',z,B,w,C,D,E⟩:=h.at'.app f y;have F:=h.len;refine⟨j,H',z,B,λa u=>?_,zU h.len w.len,λa u=>?_,D,E⟩
 ·rw[w.at' a X (λk=>by have:=h.new a k;omega)];exact h.keep a u
 ·rcases C a u with k|k
  ·exact h.new a k
  ·omega
theorem Keep.row {N:Nat}{H0 H:Hp}(h:Keep N H0 H){a:Nat}(j:a<N){y:AObj}(u:H0[a]?=K y):H[a]?=K y:=(h a j).trans u
section
variable {H0:Hp}{r b:Nat}{x:AV}{s:Sto}{L:List Fil}{f:Fil}
theorem ZuR (h:H0[r]?=K (.cells (V3 x s)))(S:FsAt H0 x L)(ah:Z L<=64)(hb:H0[b]?=K (.cells (Ys f)))(HB:Hp):∀ (q d O:List Fil) (y:AV) (B:Bool) (H:Hp),L=d++q->Z O<=Z d+B.toNat->NewR (Z H0) H0 H y O ->
 ∃ D H',K3 (.ptr r 0) (.ptr b 0) y (.bool B) (Q J (Z d:Int)) HB H=Ut (.ptr r 0) D HB H'/\NewR (Z H0) H0 H' D (O++if B then q else Ac f q):=by
 have hr:=Zq h;have N:=Zq hb;intro q
 induction q with
 |nil =>
  intro d O y B H R hO z;have aa:B.toNat<=1:=by cases B <;> simp
  rw[zH]at R;subst R;have T:=ZZ (z.keep.row hr h) 1 (v:=x) rfl;have u:FsAt H x L:=S.frame λa ha=>z.keep a (S.lt a ha);have w:decide ((Z L:Int)<(Z L:Int))=I:=U
  have lb:Z4 Y 3 (.ptr b 0) H=K (.agg (Ys f)):=by rw[Wg (z.keep.row N hb)];rfl
  rw[PY]
  cases B with
  |true =>
   refine⟨y,H,?_,by simpa using z⟩;simp only[go_sem,zC,T,u.len,w,PX,zF]
  |false =>
   obtain⟨D,H',q1,q2⟩:=z.app f X;refine⟨D,H',?_,q2⟩;simp only[go_sem,zC,T,u.len,w,PX,zG,lb,jQ,q1]
 |cons g q ih =>
  intro d O y B H R hO z;have aa:B.toNat<=1:=by cases B <;> simp
  have T:=ZZ (z.keep.row hr h) 1 (v:=x) rfl;have u:FsAt H x L:=S.frame λa ha=>z.keep a (S.lt a ha);have ag:Z L=Z d+(Z q+1):=by rw[R];simp
  have w:decide ((Z d:Int)<(Z L:Int))=Y:=by simp;omega
  have ae:xV.wrap ((Z d:Int)+1)=((Z d+1:Nat):Int):=by rw[Zl X X];omega
  have hi:L[Z d]?=K g:=by rw[R,zD (zE _)];simp
  have lb:Z4 Y 3 (.ptr b 0) H=K (.agg (Ys f)):=by rw[Wg (z.keep.row N hb)];rfl
  have ab:=ZZ (z.keep.row N hb) 0 (v:=.str f.name) rfl;have F:Y1 .gtr (.str g.name) (.str f.name)=K (.bool (gtB g.name f.name)):=rfl;have af:∀ {H':Hp} {D:AV} {M:List Fil},NewR (Z H0) H0 H' D M->Z4 I 1 (.ptr r 1) H'=K x:=λk=>ZZ (k.keep.row hr h) 1 (v:=x) rfl
  have go:∀ {H':Hp} {D:AV} {M:List Fil} (j:Bool),Z M<=Z d+j.toNat->NewR (Z H0) H0 H' D M ->
   ∃ E C,K2 (.ptr r 0) (.ptr b 0) D (.bool j) (Q J (Z d:Int)) HB H'=Ut (.ptr r 0) E HB C/\NewR (Z H0) H0 C E (M++g::if j then q else Ac f q):=by
   intro H' D M j ai P;have aa:j.toNat<=1:=by cases j <;> simp
   have ac:FsAt H' x L:=S.frame λa ha=>P.keep a (S.lt a ha);obtain⟨o,e,hx,_,ix,_,_,_,ia⟩:=ac.idx hi;obtain⟨y3,H3,p1,p2⟩:=P.app g X;obtain⟨E,C,G,k2⟩:=ih (d++[g]) (M++[g]) y3 j H3 (by rw[R];simp) (by simp;omega) p2;rw[zB,zA]at G;refine⟨E,C,?_,by simpa[zN]using k2⟩;rw[oK];simp only[go_sem,zC,af P,ix,ia,jQ,p1,oJ,ae];exact G
  obtain⟨o,e,hx,_,ix,i0,_,_,_⟩:=u.idx hi;rw[PY]
  cases B with
  |true =>
   obtain⟨E,C,G,k2⟩:=go Y hO z;refine⟨E,C,?_,k2⟩;simp only[go_sem,zC,T,u.len,w,Ga,zF];exact G
  |false =>
   cases hg:gtB g.name f.name with
   |true =>
    rw[hg]at F;obtain⟨y3,H3,p1,p2⟩:=z.app f X;obtain⟨E,C,G,k2⟩:=go Y (by simp at hO ⊢;omega) p2;refine⟨E,C,?_,by simpa[Ac,hg,zN]using k2⟩;simp only[go_sem,zC,yN,T,u.len,w,Ga,zG,ix,i0,ab,F,lb,jQ,p1];exact G
   |false =>
    rw[hg]at F;obtain⟨E,C,G,k2⟩:=go I hO z;refine⟨E,C,?_,by simpa[Ac,hg,zN]using k2⟩;simp only[go_sem,zC,yN,T,u.len,w,Ga,zG,ix,i0,ab,F];exact G
end
structure PutR (H H':Hp)(r:Nat)(y:AV)(s:Sto)(L:List Fil):Prop where
 cells:H'[r]?=K (.cells (V3 y s))
 files:FsAt H' y L
 nr:r∉XE y
 stp:Stp [r] H H'
 new:∀ a∈XE y,Z H<=a
theorem ZkZ {H0 H:Hp}{r:Nat}{x y:AV}{s:Sto}{L:List Fil}{N:Nat}(h:H0[r]?=K (.cells (V3 x s)))(B:r<N)(j:NewR N H0 H y L) :
 Zg 1 (.ptr r 1) y H=K (.tuple [],H.set r (.cells (V3 y s)))/\(H.set r (.cells (V3 y s)))[r]?=K (.cells (V3 y s))/\FsAt (H.set r (.cells (V3 y s))) y L/\r∉XE y:=by
 have w:=j.keep.row B h;have C:=Wp w 1 (v:=y) j.cell.1 j.cell.2 (by simp[V3]);have u:r∉XE y:=λk=>by have:=j.new r k;omega
 exact⟨C,Zu _ w,j.at'.frame λa z=>yL λe=>u (by rw[e];exact z),u⟩
theorem Zxw {H:Hp}{r:Nat}{x:AV}{s:Sto}(h:RfAt H r x s)(hk:ROk s)(f:Fil) :
 ∃ y H',Ta [.ptr r 0,.agg (Ys f)] H=K (.tuple [],H')/\PutR H H' r y s (Ac f (ZH s.files)):=by
 have z:ZY (.agg (Ys f)) H=K (.ptr (Z H) 0,H++[.cells (Ys f)]):=VE rfl;have N:=Zq h.cells;have u:=XC h.cells [zJ (Ys f)];have w:(H++[zJ (Ys f)])[Z H]?=K (.cells (Ys f)):=U
 have B:FsAt (H++[zJ (Ys f)]) x (ZH s.files):=h.files.frame λa j=>zX (h.files.lt a j);obtain⟨y,H1,D,k2⟩:=ZuR u B hk.len w H (ZH s.files) [] [] .nils I (H++[zJ (Ys f)]) rfl U ⟨.inl ⟨rfl,rfl⟩,Keep.refl _ _,zE _,λa j=>(by cases j),rfl,rfl⟩;obtain⟨E,F,G,M⟩:=ZkZ u (by simp;omega) k2;refine⟨y,H1.set r (.cells (V3 y s)),?_,F,by simpa using G,M,⟨?_,λa j C=>?_⟩,λa j=>?_⟩
 ·rw[Za4];unfold Io;simp only[z,go_sem];rw[show ((0:Int))=(([]:List Fil).length:Int) from rfl,D,oI];simp only[go_sem,zC,E]
 ·have:=k2.len;simp at this ⊢;omega
 ·rw[yL (λe=>C (by simp[e])),k2.keep a (by simp;omega),zX j]
 ·have:=k2.new a j;simp at this;omega
theorem ZrE {H0:Hp}{r:Nat}{x:AV}{s:Sto}{L:List Fil}(h:H0[r]?=K (.cells (V3 x s)))(F:FsAt H0 x L)(aa:Z L<=64)(k:Nat)(S:Hp):∀ (q d O:List Fil) (y:AV) (H:Hp),L=d++q->Z O<=Z d->NewR (Z H0) H0 H y O ->
 ∃ y' H',J3 (.ptr r 0) (Q J (k:Int)) y (Q J (Z d:Int)) S H=Dx (.ptr r 0) y' S H'/\NewR (Z H0) H0 H' y' (O++if k<Z d then q else q.eraseIdx (k-Z d)):=by
 have hr:=Zq h;intro q
 induction q with
 |nil =>
  intro d O y H B hO z;rw[zH]at B;subst B;have G:=ZZ (z.keep.row hr h) 1 (v:=x) rfl;have j:FsAt H x L:=F.frame λa N=>z.keep a (F.lt a N);have u:decide ((Z L:Int)<(Z L:Int))=I:=U
  rw[TP];refine⟨y,H,by simp only[go_sem,zC,G,j.len,u],by simpa using z⟩
 |cons g q ih =>
  intro d O y H B hO z;have G:=ZZ (z.keep.row hr h) 1 (v:=x) rfl;have j:FsAt H x L:=F.frame λa N=>z.keep a (F.lt a N);have T:Z L=Z d+(Z q+1):=by rw[B];simp
  have u:decide ((Z d:Int)<(Z L:Int))=Y:=by simp;omega
  have D:xV.wrap ((Z d:Int)+1)=((Z d+1:Nat):Int):=by rw[Zl X X];omega
  have hi:L[Z d]?=K g:=by rw[B,zD (zE _)];simp
  obtain⟨o,e,hx,_,ix,_,_,_,ia⟩:=j.idx hi;rw[TP];by_cases C:Z d=k
  ·have P:((Z d:Int) != (k:Int))=I:=by simp[C]
   obtain⟨R,M,E,k2⟩:=ih (d++[g]) O y H (by rw[B];simp) (by simp;omega) z;rw[zB,zA]at E k2;refine⟨R,M,?_,?_⟩
   ·simp only[go_sem,zC,G,j.len,u,TN,P,TO,D];exact E
   ·rw[if_pos X]at k2;rw[if_neg X,<-C,Nat.sub_self];exact k2
  ·have P:((Z d:Int) != (k:Int))=Y:=by simp;omega
   obtain⟨y3,H3,p1,p2⟩:=z.app g X;obtain⟨R,M,E,k2⟩:=ih (d++[g]) (O++[g]) y3 H3 (by rw[B];simp) (by simp;omega) p2;rw[zB,zA]at E k2;refine⟨R,M,?_,?_⟩
   ·simp only[go_sem,zC,G,j.len,u,TN,P,ix,ia,jQ,p1,TO,D];exact E
   ·by_cases w:k<Z d
    ·rw[if_pos X]at k2;rw[if_pos w];simpa[zN]using k2
    ·rw[if_neg X]at k2;rw[if_neg w];have:k-Z d=(k-(Z d+1))+1:=X
     rw[this,List.eraseIdx_cons_succ];simpa[zN]using k2
theorem ZuD {H:Hp}{r:Nat}{x:AV}{s:Sto}(h:RfAt H r x s)(hk:ROk s)(k:Nat) :
 ∃ y H',R8 [.ptr r 0,Q J (k:Int)] H=K (.tuple [],H')/\PutR H H' r y s ((ZH s.files).eraseIdx k):=by
 have w:=Zq h.cells;obtain⟨y,H1,z,k2⟩:=ZrE h.cells h.files hk.len k H (ZH s.files) [] [] .nils H rfl U ⟨.inl ⟨rfl,rfl⟩,Keep.refl _ _,zE _,λa j=>(by cases j),rfl,rfl⟩;obtain⟨B,C,D,E⟩:=ZkZ h.cells w k2;refine⟨y,H1.set r (.cells (V3 y s)),?_,C,by simpa using D,E,⟨?_,λa j u=>?_⟩,λa j=>k2.new a j⟩
 ·rw[nR];unfold CB;rw[show ((0:Int))=(([]:List Fil).length:Int) from rfl,z,gP];simp only[go_sem,zC,B]
 ·have:=k2.len;simpa using this
 ·rw[yL (λe=>u (by simp[e])),k2.keep a j]
theorem PutR.res {H H1 H':Hp}{r:Nat}{x y:AV}{s':Sto}(h:PutR H1 H' r y s' (ZH s'.files))(u:Stp [r] H H1):RefRes H H' r s' (r::XE x) (r::XE y):=by
 refine⟨⟨y,⟨h.cells,h.files,h.nr⟩,rfl⟩,(u.trans h.stp (λa j=>j) λa j=>.inl j).mono λa j=>by rw[zI.1 j];simp,λa j=>?_⟩;rcases zK.1 j with e|j
 ·exact .inl (by simp[e])
 ·have:=h.new a j;have:=u.len;exact .inr X
theorem ZeE (s:Zj)(hs:Z s<=1048576)(H:Hp):Ze Fz [.str s] H=K (.bool (X1 s),H):=by
 refine YG (a':=.str s) rfl (H1:=[]) ?_ rfl;have u:=jZ s X [];rw[ZeQ];unfold lE
 have w:X1 s=(WG s&&decide ((Z s:Int)<=16)):=by
  cases s with
  |nil=>rfl
  |cons b l =>
   unfold X1 WG;have e:decide ((((b::l).length:Nat):Int)<=16)=decide ((b::l).length<=16):=by rw[yA];simp;omega
   rw[e];by_cases h:(b::l).length<=16
   ·have j:decide ((b::l).length<=32)=Y:=by simp at h ⊢;omega
    simp only[j,decide_eq_true h,zP,yU]
   ·simp only[decide_eq_false h,zO,yD]
 rw[w];simp only[u,go_sem];cases WG s <;> simp only[go_sem,Zf,zP,zO]
theorem gix {α:Type}{x i v:AV}(h:Zp x i=K v)(t:AV)(w:Bool)(k:AV->Option α) :
 (Z0 (Z8 t w (.tuple []) (K x)) λa=>Z0 (Z8 t w (.tuple []) (K i)) λc=>Z0 (Z8 t w (.tuple []) (Zp a c)) k)=Z0 (Z8 t w (.tuple []) (K v)) k:=by
 cases t with
 |bool b=>cases b <;> cases w <;> simp[Z8,Z0,h]
 |_=>rfl
def Ziy (j:AV):Option AV :=
 Z0 (Z2 .or j (.int .u8 32)) λC =>
 Z0 (Z2 .lss C (.int .u8 97)) λB =>
 Z0 (Z8 B I bf (K C)) λT =>
 Z0 (Z8 B I bf (Z2 .gtr T (.int .u8 122))) λaa =>
 Z0 (Zm B (.bool Y) aa) λu =>
 Z0 (Z8 u Y bf (K j)) λD =>
 Z0 (Z8 u Y bf (Z2 .lss D (.int .u8 48))) λE =>
 Z0 (Z8 u Y bf (K E)) λw =>
 Z0 (Z8 w I bf (K j)) λF =>
 Z0 (Z8 w I bf (Z2 .gtr F (.int .u8 57))) λG =>
 Z0 (Z8 u Y bf (Zm w (.bool Y) G)) λM =>
 Z0 (Zm u M (.bool I)) λy =>
 Z0 (Z8 y Y bf (K j)) λN =>
 Z0 (Z8 y Y bf (Z2 .neq N (.int .u8 95))) λO =>
 Z0 (Zm y O (.bool I)) λz =>
 Z0 (Z8 z Y bf (K j)) λP =>
 Z0 (Z8 z Y bf (Z2 .neq P (.int .u8 46))) λR =>
 Z0 (Zm z R (.bool I)) λS =>
 K S
theorem Zxo {u w v:AV}(h:Zp u w=K v)(H0 H:Hp):TG u w H0 H =
 Z0 (Ziy v) λj=>Zh j (K ((.bool I),H)) (TH u w H0 H):=by
 rw[ZaT];simp only[h,Xz,gix h];simp only[Ziy,Bc,Xz]
theorem ZrI:((xE 256).all λn=>(F4 (Ziy (.int .u8 (n:Int)))==K (!(Kk (yJ n) || Uv (yJ n)))))=Y:=dz
theorem ZuM (b:UInt8):Ziy (.int .u8 b.toNat)=K (.bool (!(Kk b || Uv b))):=by
 have h:=W2 ZrI (Oy b);simp only[beq_iff_eq,xJ]at h;exact Ud h
theorem ZrK (s:Zj)(hs:Z s<=1048576)(H0 H:Hp):∀ (k i:Nat),Z s-i=k->i<=Z s ->
 Gu (.str s) (Q J i) H0 H=K (.bool ((s.drop i).all λc=>Kk c || Uv c),H):=by
 intro k
 induction k with
 |zero =>
  intro i hk hi;rw[MT];have j:decide ((i:Int)<(Z s:Int))=I:=by simp;omega
  have w:s.drop i=[]:=yK.2 X;simp only[go_sem,Zf,j,ZaS,w,xI]
 |succ k y =>
  intro i hk hi;rw[MT];have u:i<Z s:=X
  have j:decide ((i:Int)<(Z s:Int))=Y:=by simp;omega
  have hw:xV.wrap ((i:Int)+1)=((i+1:Nat):Int):=by rw[Zl X X];omega
  simp only[go_sem,Zf,j,Zxo (ZG (zZ u)),ZuM];rw[zV u,yT]
  cases z:(Kk s[i] || Uv s[i]) with
  |false=>simp only[go_sem,zG,zO]
  |true =>
   simp only[go_sem,zF,zP,ZaU,hw];exact y (i+1) X X
theorem ZrJ (s:Zj)(hs:Z s<=1048576)(H:Hp):Ze Nu [.str s] H=K (.bool (UN s),H):=by
 refine YG (a':=.str s) rfl (H1:=[]) ?_ rfl;rw[ZcR];unfold bO
 cases s with
 |nil =>
  have:(([]:Zj)==[])=Y:=rfl;simp only[go_sem,Y1,QC,this,UN];rfl
 |cons b l =>
  have M:(((b::l):Zj)==[])=I:=rfl;have j:Zp (.str (b::l)) (Q J 0)=K (.int .u8 b.toNat):=by simp[Zp]
  simp only[go_sem,Y1,QC,M,Zf];by_cases u:32<(b::l).length
  ·have B:decide ((32:Int)<((b::l).length:Int))=Y:=by simp at u ⊢;omega
   have:UN (b::l)=I:=by
    unfold UN;rw[show decide ((b::l).length<=32)=I by simp at u ⊢;omega,yD]
   simp only[go_sem,B,this]
  ·have B:decide ((32:Int)<((b::l).length:Int))=I:=by simp at u ⊢;omega
   have F:decide ((b::l).length<=32)=Y:=by simp at u ⊢;omega
   have E:=ZrK (b::l) hs [] [] (b::l).length 0 U X;rw[show ((0:Nat):Int)=0 from rfl,List.drop_zero,yT]at E
   have N:UN (b::l)=(!Uv b&&((Kk b || Uv b)&&l.all λc=>Kk c || Uv c)):=by
    unfold UN;rw[F,yU]
    have O:Kk b=(!Uv b&&(Kk b || Uv b)):=by
     have z:((xE 256).all λn=>Kk (yJ n)==(!Uv (yJ n)&&(Kk (yJ n) || Uv (yJ n))))=Y:=dz
     have h:=W2 z (Oy b);simpa only[beq_iff_eq,xJ]using h
    rw[<-Bool.and_assoc,<-O]
   have G:decide ((48:Int)<=(b.toNat:Int))=decide (48<=b):=by rw[yA];simp[yI];omega
   have D:decide ((b.toNat:Int)<=(57:Int))=decide (b<=57):=by rw[yA];simp[yI];omega
   have C:Uv b=(decide (48<=b)&&decide (b<=57)):=rfl;rw[N,C];simp only[go_sem,B,j,ZaR,E,G]
   cases w:decide (48<=b) with
   |false=>simp only[go_sem,zO,zG,zP,C,w]
   |true =>
    cases y:decide (b<=57) with
    |false=>simp only[go_sem,j,D,y,zP,zG,yD,C,w]
    |true=>simp only[go_sem,j,D,y,zP,zF,zO]
theorem ZuW (n:Zj)(u:Zj)(hs:Z n<=1048576)(E:Z u<Z n)(H0 H:Hp):∀ (k i:Nat),Z n-i=k->i<=Z n ->
 K6 (.str n) (.str u) (Q J i) H0 H=K (.bool ((n.drop i).all Uv&&!(n[Z u]==48)),H):=by
 intro k
 induction k with
 |zero =>
  intro i hk hi;rw[N4];have w:decide ((i:Int)<(Z n:Int))=I:=by simp;omega
  have D:n.drop i=[]:=yK.2 X;have j:=ZG (zZ E)
  have C:((n[Z u].toNat:Int) != 48)=!(n[Z u]==48):=by
   by_cases h:n[Z u]=48
   ·rw[h];rfl
   ·have z:n[Z u].toNat≠48:=λe=>h (xN.1 e);have B:(n[Z u]==48)=I:=by simpa using h
    rw[B];simp;omega
  simp only[go_sem,Zf,w,oO,D,xI,zP,j,C]
 |succ k F =>
  intro i hk hi;rw[N4];have y:i<Z n:=X
  have w:decide ((i:Int)<(Z n:Int))=Y:=by simp;omega
  have hw:xV.wrap ((i:Int)+1)=((i+1:Nat):Int):=by rw[Zl X X];omega
  have j:=ZG (zZ y);rw[zV y,yT,ZmL n[i]];simp only[go_sem,Zf,w,oP,j]
  cases G:decide ((n[i].toNat:Int)<48) with
  |true=>simp only[go_sem,zF,zO]
  |false =>
   cases z:decide ((57:Int)<(n[i].toNat:Int)) with
   |true=>simp only[go_sem,j,z,zF,zG,zO,yD]
   |false =>
    simp only[go_sem,j,z,zG,yU,zP,oQ,hw];exact F (i+1) X X
theorem ZuV (n j:Zj)(F:Z n<=1048576)(N:Z j<=1048000)(H:Hp):Ze Tb [.str n,.str j] H=K (.bool (DP j n),H):=by
 refine Xn (a':=.str n) rfl (b':=.str j) rfl (H1:=[]) ?_ rfl;have B:Y1 .add (.str [46,116,109,112,46]) (.str j)=K (.str ([46,116,109,112,46]++j)):=Vc (by simp;omega);have C:Y1 .add (.str ([46,116,109,112,46]++j)) (.str [46])=K (.str (Yu j)):=by rw[Vc (by simp;omega)];rfl
 have G:(Yu j).length=Z j+6:=by simp[Yu]
 rw[Za5];unfold Ip
 have w:decide ((Z n:Int)<=((Yu j).length:Int))=!decide ((Yu j).length<Z n):=by
  rw[yA];simp
 unfold DP;simp only[B,C,go_sem,Zf,w];by_cases u:(Yu j).length<Z n
 ·have z:ZR (.str n) V (K (Q J ((Yu j).length:Int))) V=K (.str (n.take (Yu j).length)):=by
   rw[BG .i64 X X,yE]
  have y:Y1 .neq (.str (n.take (Yu j).length)) (.str (Yu j))=K (.bool (!(n.take (Yu j).length==Yu j))):=rfl;simp only[decide_eq_true u,zF,go_sem,z,y,zP]
  cases M:(n.take (Yu j).length==Yu j) with
  |false=>simp only[go_sem,zG,zO]
  |true =>
   have D:=ZuW n (Yu j) F u [] [] _ (Yu j).length rfl X;simp only[go_sem,zF,zP,oN,Zf,D]
   have E:Zno (n.drop (Yu j).length)=((n.drop (Yu j).length).all Uv&&!(n[(Yu j).length]==48)):=by
    unfold Zno;rw[zV u];rfl
   rw[E]
 ·simp only[decide_eq_false u,zG,go_sem,zO]
theorem RefRes.trans {H H1 j:Hp}{r:Nat}{y u:Sto}{A B C:dv}(h:RefRes H H1 r y A B)(k:RefRes H1 j r u B C):RefRes H j r u A C:=by
 have:=h.stp.len;refine⟨k.at',h.stp.trans k.stp (λ_ h=>h) h.own,λa w=>?_⟩;rcases k.own a w with k|k
 ·exact h.own a k
 ·exact .inr X
theorem Zpb {H:Hp}{r:Nat}{s:Sto}{A:dv}(h:RefAt H r s A)(hk:ROk s)(n:Zj)(hn:Z n<=1048576) :
 ∃ H' A',GM [.ptr r 0,.str n] H=K (Q J (s.create n).1,H')/\RefRes H H' r (s.create n).2 A A':=by
 obtain⟨x,h,rfl⟩:=h;have j:∀ t,Y5 (.pointer t) .eql (.ptr r 0) .nilp=K (.bool I):=λ_=>rfl;obtain⟨H1,D,B,M⟩:=Zix h hk;have u:=ZrJ n hn H1;have w:=ZiC B hk.tick n;have T:=ZZ B.cells 1 (v:=x) rfl;have z:=λt=>B.files.len t;simp only[Yh,Znk hk.nd]at w z;rw[bQ];unfold MF Sto.create
 cases G:s.tick.crashed with
 |true =>
  rw[G]at D;rw[if_pos rfl];exact⟨H1,_,by simp only[j,go_sem,W4,D],B.res M⟩
 |false =>
  rw[G]at D;rw[if_neg U]
  cases S:UN n with
  |false =>
   rw[S]at u;rw[if_pos rfl];exact⟨H1,_,by simp only[j,go_sem,W4,D,Vh,u,zG],B.res M⟩
  |true =>
   rw[S]at u;rw[if_neg U];rcases Zez (ZH s.files) n with ⟨R,E⟩|⟨i,f,R,E,_⟩
   ·rw[O7 hk.nd]at E;have P:Bn (ZH s.files) n=-1:=by unfold Bn;rw[R]
    rw[P]at w;rw[E];dsimp only;have N:decide ((0:Int)<=-1)=I:=rfl;by_cases F:64<=Z s.files
    ·have O:decide ((64:Int)<=(Z s.files:Int))=Y:=by simp;omega
     rw[if_pos F];exact⟨H1,_,by simp only[j,go_sem,W4,D,Vh,u,zF,QH,w,N,F0,zC,T,z,O],B.res M⟩
    ·have O:decide ((64:Int)<=(Z s.files:Int))=I:=by simp;omega
     rw[if_neg F];obtain⟨y,H2,k1,k2⟩:=Zxw B hk.tick ⟨n,[],0⟩;rw[Yh,<-ZtX hk.nd ⟨n,[],0⟩ E]at k2;have C:(Yb [(0,1,.str n)] [(.str []),(.str []),(Q J 0)]).map xL=K (.agg (Ys ⟨n,[],0⟩)):=rfl;refine⟨H2,_,by simp only[j,go_sem,W4,D,Vh,u,zF,QH,w,N,F0,zC,T,z,O,OZ,C,k1],PutR.res (s':={ s.tick with files:=s.files++[⟨n,[],0⟩] }) ⟨k2.cells,k2.files,k2.nr,k2.stp,k2.new⟩ M⟩
   ·rw[O7 hk.nd]at E;have P:Bn (ZH s.files) n=(i:Int):=by unfold Bn;rw[R]
    rw[P]at w;rw[E];have N:decide ((0:Int)<=(i:Int))=Y:=U
    exact⟨H1,_,by simp only[j,go_sem,W4,D,Vh,u,zF,QH,w,N],B.res M⟩
theorem ZeA {H:Hp}{r:Nat}{s:Sto}{A:dv}(h:RefAt H r s A)(hk:ROk s)(n:Zj) :
 ∃ H' C,Q8 [.ptr r 0,.str n] H=K (Q J (s.remove n).1,H')/\RefRes H H' r (s.remove n).2 A C:=by
 obtain⟨x,h,rfl⟩:=h;obtain⟨v,e,H1,w,z,B,N⟩:=SZ h hk n;rw[bR];unfold MG Sto.remove;rcases N with ⟨j,rfl⟩|⟨j,E,rfl⟩|⟨j,rfl,i,f,rfl,O,F,P,G,R⟩
 ·have u:((19:Int) != 0)=Y:=rfl;rw[if_pos j];exact⟨H1,_,by simp only[w,go_sem,zQ,zR,u],z.res B⟩
 ·have u:((5:Int) != 0)=Y:=rfl;rw[if_neg (by simp[j]),E];exact⟨H1,_,by simp only[w,go_sem,zQ,zR,u],z.res B⟩
 ·have u:((0:Int) != 0)=I:=rfl;rw[if_neg (by simp[j]),F];obtain⟨y,D,M,k2⟩:=ZuD z hk.tick i;rw[Yh,<-G,<-Zx0 hk.nd]at k2;exact⟨D,_,by simp only[w,go_sem,zQ,zR,u,aB,M],PutR.res (s':={ s.tick with files:=JI s.files n }) ⟨k2.cells,k2.files,k2.nr,k2.stp,k2.new⟩ B⟩
theorem ZrR {H0:Hp}{r:Nat}{x:AV}{s:Sto}{L:List Fil}(h:H0[r]?=K (.cells (V3 x s)))(D:FsAt H0 x L)(aa:Z L<=64)(T:Hp):∀ (q d:List Fil) (y:AV) (H:Hp),L=d++q ->
 RowN (Z H0) H 3 y (d.map ZL)->Keep (Z H0) H0 H->Z H0<=Z H ->
 ∃ E H',QZ (.ptr r 0) y (Q J (Z d:Int)) T H=K (E,H')/\RowN (Z H0) H' 3 E (L.map ZL)/\Keep (Z H0) H0 H'/\Z H0<=Z H':=by
 have R:=Zq h;intro q
 induction q with
 |nil =>
  intro d y H B N u G;rw[zH]at B;subst B;have O:=ZZ (u.row R h) 1 (v:=x) rfl;have j:FsAt H x L:=D.frame λa F=>u a (D.lt a F);have z:decide ((Z L:Int)<(Z L:Int))=I:=U
  rw[TI];exact⟨y,H,by simp only[go_sem,zC,O,j.len,z,gH],N,u,G⟩
 |cons g q ih =>
  intro d y H B N u G;have O:=ZZ (u.row R h) 1 (v:=x) rfl;have j:FsAt H x L:=D.frame λa F=>u a (D.lt a F);have P:Z L=Z d+(Z q+1):=by rw[B];simp
  have z:decide ((Z d:Int)<(Z L:Int))=Y:=by simp;omega
  have M:xV.wrap ((Z d:Int)+1)=((Z d+1:Nat):Int):=by rw[Zl X X];omega
  have hi:L[Z d]?=K g:=by rw[B,zD (zE _)];simp
  obtain⟨o,e,hx,_,ix,i0,i1,i2,_⟩:=j.idx hi;have w:(Yb [(0,1,.str g.name),(1,1,Q J (Z g.text:Int)),(2,1,Q J (g.syn:Int))] [(.str []),(Q J 0),(Q J 0)]).map xL=K (ZL g):=rfl;have C:(ZB 3 [(0,ZL g)] [(.agg [(.str []),(Q J 0),(Q J 0)])]).map (xR 3 .clip)=K (.vs 3 .clip [ZL g]):=rfl;obtain⟨x',H1,q1,q2,q3,q4,_⟩:=N.app G 32 (.vs 3 .clip [ZL g]) [ZL g] rfl (by simp;omega);obtain⟨E,H',S,p2,p3,p4⟩:=ih (d++[g]) x' H1 (by rw[B];simp) (by rw[zT];exact q2) (u.trans q4) q3;rw[zB,zA]at S;refine⟨E,H',?_,p2,p3,p4⟩;have al:Zf .string (.str g.text)=K (Q J (Z g.text:Int)):=rfl;rw[TI];simp only[go_sem,zC,yN,O,j.len,z,gI,ix,i0,i1,i2,al,w,C,q1,gJ,M];exact S
theorem Ar {H:Hp}{r:Nat}{s:Sto}{A:dv}(h:RefAt H r s A)(hk:ROk s):∃ x,Ve Xv [.ptr r 0] H=K (x,H)/\Sl 3 x ((ZH s.files).map ZL):=by
 obtain⟨x,h,rfl⟩:=h;have u:∀ t,Y5 (.pointer t) .eql (.ptr r 0) .nilp=K (.bool I):=λ_=>rfl;obtain⟨y,H1,D,E,w,z⟩:=ZrR h.cells h.files hk.len H (ZH s.files) [] .nils H rfl (.inl ⟨rfl,rfl⟩) (Keep.refl _ _) (zE _)
 have j:Xv [.ptr r 0] H=K (y,H1):=by
  rw[nN];unfold Cx;simp only[u,go_sem,gG];exact D
 rcases E with ⟨rfl,B⟩|⟨t,e,rfl,F,C⟩
 ·exact⟨.nils,Qx j w z rfl,.inl ⟨rfl,B⟩⟩
 ·refine⟨.vs 3 (if t<Z H then .own t e else .no) ((ZH s.files).map ZL),Qx j w z (by rw[BI,Zg4]),.inr ⟨_,rfl⟩⟩
theorem Zxe (n:Int)(H:Hp):∃ H',pY [Q J n] H=K (.ptr (Z H) 0,H')/\RefAt H' (Z H) ⟨(min (max n 0) 262144).toNat,0,[],I,0⟩ [Z H]/\H'=H++[.cells [Q J (min (max n 0) 262144),.nils,Q J 0,.bool I,Q J 0]]:=by
 have u:(Yb [(0,1,Q J (min (max n 0) 262144))] [(Q J 0),.nils,(Q J 0),(.bool I),(Q J 0)]).map xL=K (.agg [Q J (min (max n 0) 262144),.nils,Q J 0,.bool I,Q J 0]):=rfl;have j:ZY (.agg [Q J (min (max n 0) 262144),.nils,Q J 0,.bool I,Q J 0]) H=K (.ptr (Z H) 0,H++[.cells [Q J (min (max n 0) 262144),.nils,Q J 0,.bool I,Q J 0]]):=VE rfl;have w:((min (max n 0) 262144).toNat:Int)=min (max n 0) 262144:=X
 refine⟨_,?_,⟨.nils,⟨by simp[V3,w],.inl ⟨rfl,rfl⟩,by simp[XE]⟩,rfl⟩,rfl⟩;rw[Zm8];unfold Zk9;simp only[go_sem,u,j]
theorem ZrQ {H0:Hp}{u:Zj}(ho:Z u<=1048000){x:AV}{fs:List Fil}(hx:Sl 3 x (fs.map ZL))(hl:Z fs<=64)(hn:∀ f∈fs,Z f.name<=1048576)(HB:Hp):∀ (r d:List Fil) (T:AV) (H:Hp),fs=d++r ->
 RowN (Z H0) H 1 T ((Ws u d).map xF)->Keep (Z H0) H0 H->Z H0<=Z H ->
 ∃ y H',Mg (.str u) T x (Q J (Z d:Int)) HB H=K (y,H')/\RowN (Z H0) H' 1 y ((Ws u fs).map xF)/\Keep (Z H0) H0 H'/\Z H0<=Z H':=by
 intro r
 induction r with
 |nil =>
  intro d T H F h5 hK j;rw[zH]at F;subst F;have z:decide ((Z fs:Int)<(Z fs:Int))=I:=U
  have C:∀ t,Zf (.slice t) x=K (Q J (Z fs:Int)):=λt=>by have:=Sl.len hx t;rwa [zM]at this
  rw[cZ];simp only[go_sem,C,z,Zjq];exact⟨_,_,rfl,h5,hK,j⟩
 |cons f r ih =>
  intro d T H F h5 hK j;have ab:Z fs=Z d+(Z r+1):=by rw[F];simp
  have z:decide ((Z d:Int)<(Z fs:Int))=Y:=by simp;omega
  have C:∀ t,Zf (.slice t) x=K (Q J (Z fs:Int)):=λt=>by have:=Sl.len hx t;rwa [zM]at this
  have R:xV.wrap ((Z d:Int)+1)=((Z d+1:Nat):Int):=by rw[Zl X X];omega
  have N:fs[Z d]?=K f:=by rw[F,zD (zE _)];simp
  have aa:=hn f (xD N);have D:Zr 3 x (Q J (Z d:Int))=K (.vp (ZL f).cells):=Sl.idx hx (c:=ZL f) (by simp[N]);have M:Z6 0 (.vp (ZL f).cells)=K (.vp (ZL f).cells):=rfl;have O:∀ H:Hp,Z4 I 1 (.vp (ZL f).cells) H=K (.str f.name):=λ_=>rfl;have P:(ZB 1 [(0,.str f.name)] [(.str [])]).map (xR 1 .clip)=K (.vs 1 .clip [.str f.name]):=VH _;have ac:(Ws u d).length<=Z d:=ZbW _ _;have B:=ZuV f.name u aa ho H
  have w:Ws u (d++[f])=Ws u d++(if DP u f.name then [f.name] else []):=by
   rw[ZkD];congr 1;unfold Ws;cases G:DP u f.name <;> simp[G]
  rw[cZ]
  cases G:DP u f.name with
  |false =>
   rw[G]at B;rw[G,if_neg U,zH]at w;obtain⟨y1,E,S,p2,p3,p4⟩:=ih (d++[f]) T H (by rw[F];simp) (by rw[w];exact h5) hK j;rw[zB,zA]at S;refine⟨y1,E,?_,p2,p3,p4⟩;simp only[go_sem,C,z,cX,D,M,O,B,cY,R];exact S
  |true =>
   rw[G]at B;rw[G,if_pos rfl]at w;obtain⟨x',H1,q1,q2,q3,q4,_⟩:=h5.app j 16 (.vs 1 .clip [.str f.name]) [.str f.name] rfl (by simp;omega);obtain⟨y1,E,S,p2,p3,p4⟩:=ih (d++[f]) x' H1 (by rw[F];simp) (by rw[w,zT];exact q2) (hK.trans q4) q3;rw[zB,zA]at S;refine⟨y1,E,?_,p2,p3,p4⟩;simp only[go_sem,C,z,cX,D,M,O,B,P,q1,cY,R];exact S
theorem Zxd {H:Hp}{r:Nat}{s:Sto}{A:dv}(h:RefAt H r s A)(hk:ROk s)(u:Zj)(O:Z u<=1048000):∃ x,Ve Sv [.ptr r 0,.str u] H=K (x,H)/\SS x (Xo u s):=by
 have B:=ZeE u X H;have w:∀ t,Y5 (.pointer t) .eql (.ptr r 0) .nilp=K (.bool I):=λ_=>rfl
 cases j:X1 u with
 |false =>
  rw[j]at B;refine⟨.nils,Qx (H1:=H) (v:=.nils) ?_ (Keep.refl _ _) (zE _) rfl,.inl ⟨rfl,by unfold Xo;rw[j];rfl⟩⟩;rw[lD];unfold fL;simp only[w,go_sem,B,zG]
 |true =>
  rw[j]at B;obtain⟨x,T,q2⟩:=Ar h hk;obtain⟨y,H1,R,S,D,E⟩:=ZrQ O q2 hk.len (λf G=>zU (Zg6 (hk.sto.name f (ZbZ G))) X) H (ZH s.files) [] .nils H rfl (.inl ⟨rfl,rfl⟩) (Keep.refl _ _) (zE _)
  have z:Sv [.ptr r 0,.str u] H=K (y,H1):=by
   rw[lD];unfold fL;simp only[w,go_sem,B,zF,Zjp,T];exact R
  have C:Xo u s=Ws u (ZH s.files):=by unfold Xo;rw[j];rfl
  rw[C];rcases S with ⟨rfl,M⟩|⟨F,e,rfl,ht,N⟩
  ·exact⟨.nils,Qx z D E rfl,.inl ⟨rfl,M⟩⟩
  ·refine⟨.vs 1 (if F<Z H then .own F e else .no) ((Ws u (ZH s.files)).map xF),Qx z D E (by rw[BI,Cd (λx P=>by obtain⟨n,_,rfl⟩:=yW.1 P;rfl)]),.inr ⟨_,rfl⟩⟩
theorem jX {s:Sto}(h:ROk s)(n:Zj):ROk (s.remove n).2:=by
 have j:=h.tick;unfold Sto.remove;split
 · exact j
 · split
   · exact j
   · have:=ZAE j.sto n
     rw[Yh]at this;exact⟨this,j.cnt⟩
theorem ZqF {s:Sto}(h:ROk s)(n:Zj):ROk (s.create n).2:=by
  have w:=h.tick;unfold Sto.create;split
  · exact w
  · split
    · exact w
    · rename_i y
      split
      · exact w
      · rename_i E
        split
        · exact w
        · rename_i C
          have hk:=h.sto;have u:=w.sto;refine⟨⟨u.limit,?_,u.peak,λf j=>?_,?_,λf j=>?_,?_,u.count⟩,w.cnt⟩
          · have B:=u.used
            rw[Yh]at B;show Zs (s.files++[(⟨n,[],0⟩:Fil)])<=s.tick.limit;rw[Ug];simpa[Zs]using B
          · rcases zS.1 j with j|j
            · exact hk.name f j
            · rw[zI.1 j];simpa using y
          · show ((s.files++[(⟨n,[],0⟩:Fil)]).map Fil.name).Nodup
            rw[zT,yF];refine⟨hk.nd,U,λa D b y e=>?_⟩;simp at y;obtain⟨g,z,F⟩:=yW.1 D;exact Lf.1 E g z (by rw[F,e,y])
          · rcases zS.1 j with j|j
            · exact hk.syn f j
            · rw[zI.1 j];exact zE _
          · show (s.files++[(⟨n,[],0⟩:Fil)]).length<=64
            simp;omega
def Yv:List Zj->Sto->Int×Sto
  |[],s=>(0,s)
  |n::r,s=>if (s.remove n).1≠0 then s.remove n else Yv r (s.remove n).2
theorem ZkE (j:Zj){s:Sto}(h:StoOk s):(Xo j s).length<=64:=by
 unfold Xo;split
 · exact zU (ZbW _ _) (zU (ZbY _) h.len)
 · simp
theorem Zsd {t:Nat}{x:AV}{ns:List Zj}(hx:SS x ns)(hl:Z ns<=64)(ow lim:AV)(HB:Hp):∀ (r d:List Zj) (H:Hp) (S:dv) (s:Sto),ns=d++r->StoreAt H t s S->ROk s ->
 ∃ H' S',KH (.ptr t 0) ow lim x (Q J (Z ns:Int)) (Q J (Z d:Int)) HB H=(if (Yv r s).1≠0 then K (.tuple [.nilp,Q J (Yv r s).1],H') else KF (.ptr t 0) ow lim HB H')/\StoRes H H' t (Yv r s).2 S S':=by
 intro r
 induction r with
 |nil =>
  intro d H S s hd h hk;rw[zH]at hd;subst hd;have hlt:decide ((Z ns:Int)<(Z ns:Int))=I:=U
  refine⟨H,S,?_,⟨h,Stp.refl _ _,λa ha=>.inl ha⟩⟩;rw[Gk,Yv,if_neg U];simp only[go_sem,hlt]
 |cons n r ih =>
  intro d H S s hd h hk;have hlen:Z ns=Z d+(Z r+1):=by rw[hd];simp
  have hlt:decide ((Z d:Int)<(Z ns:Int))=Y:=by simp;omega
  have hw1:xV.wrap ((Z d:Int)+1)=((Z d+1:Nat):Int):=by rw[Zl X X];omega
  have hin:ns[Z d]?=K n:=by rw[hd,zD (zE _)];simp
  have hidx:=SS.idx hx hin;obtain⟨H1,S1,q1,q2⟩:=Zhq h hk.sto n;rw[Gk];by_cases he:(s.remove n).1=0
  · have e0:((s.remove n).1 != 0)=I:=by rw[he];rfl
    have hor:Yv (n::r) s=Yv r (s.remove n).2:=by rw[Yv,if_neg (by simp[he])]
    obtain⟨H2,S2,r1,r2⟩:=ih (d++[n]) H1 S1 _ (by rw[hd];simp) q2.at' (jX hk n);rw[zB,zA]at r1;rw[hor];refine⟨H2,S2,?_,q2.trans r2⟩;simp only[go_sem,hlt,Nt,hidx,ZE,q1,e0,pX,hw1];exact r1
  · have e0:((s.remove n).1 != 0)=Y:=by simpa using he
    have hor:Yv (n::r) s=s.remove n:=by rw[Yv,if_pos he]
    rw[hor];refine⟨H1,S1,?_,q2⟩;rw[if_pos he];simp only[go_sem,hlt,Nt,hidx,ZE,q1,e0]
theorem ZxO {H:Hp}{t:Nat}{s:Sto}{S:dv}(h:StoreAt H t s S)(ow:Zj)(lim:Int)(HB:Hp) :
 ∃ H',KF (.ptr t 0) (.str ow) (Q J lim) HB H=K (.tuple [.ptr (Z H+1) 0,Q J 0],H')/\SysAt H' (Z H+1) t ⟨ow,[],[],(max 0 lim).toNat,0,I⟩ s ([Z H+1,Z H]++S)/\Stp [] H H':=by
 have hf1:(Yb [(0,1,.ptr t 0),(1,1,.str ow),(3,1,.map (Z H))] [.nilp,(.str []),.nils,.nilm]).map xL=K (.agg [.ptr t 0,.str ow,.nils,.map (Z H)]):=rfl;have hf2:(Yb [(0,4,.agg [.ptr t 0,.str ow,.nils,.map (Z H)]),(4,1,Q J (max 0 lim))] [.nilp,(.str []),.nils,.nilm,(Q J 0),(Q J 0),(.bool I)]).map xL=K (.agg [.ptr t 0,.str ow,.nils,.map (Z H),Q J (max 0 lim),Q J 0,.bool I]):=rfl;have hb:∀ l:du,ZY (.agg l) (H++[.map [] 0])=K (.ptr (Z H+1) 0,H++[.map [] 0]++[.cells l]):=λl=>by rw[VE rfl];simp[xG]
 have hl:((max 0 lim).toNat:Int)=max 0 lim:=X
 refine⟨H++[.map [] 0]++[.cells [.ptr t 0,.str ow,.nils,.map (Z H),Q J (max 0 lim),Q J 0,.bool I]],?_,⟨[Z H+1,Z H],S,⟨Z H,0,.nils,[],⟨?_,.inl ⟨rfl,rfl⟩,?_,rfl,by simp[ZA]⟩,rfl⟩,h.frame λa ha=>?_,λa ha hs=>?_,rfl⟩,?_⟩
 · rw[Ns]
   simp only[go_sem,hf1,hf2,hb]
 · simp[hl]
 · simp
 · rw[zN,zX (h.lt a ha)]
 · have:=h.lt a hs
   simp at ha;omega
 · rw[zN];exact Stp.push _ _
theorem Zsp {H:Hp}{t:Nat}{s:Sto}{S:dv}(h:StoreAt H t s S)(hk:ROk s)(ow:Zj)(ho:Z ow<=1048576)(lim:Int) :
 ∃ p e H',VB [.ptr t 0,.str ow,Q J lim] H=K (.tuple [p,Q J e],H') /\
  (X1 ow=I/\p=.nilp/\e=4/\H'=H \/
   X1 ow=Y/\(Yv (Xo ow s) s).1≠0/\p=.nilp/\e=(Yv (Xo ow s) s).1/\(∃ S',StoRes H H' t (Yv (Xo ow s) s).2 S S') \/
   X1 ow=Y/\(Yv (Xo ow s) s).1=0/\e=0/\∃ o A',p=.ptr o 0/\Z H<=o/\SysAt H' o t ⟨ow,[],[],(max 0 lim).toNat,0,I⟩ (Yv (Xo ow s) s).2 A'/\Stp S H H'/\∀ a∈A',a∈S\/Z H<=a):=by
 have hnil:∀ u,Y5 (.pointer u) .eql (.ptr t 0) .nilp=K (.bool I):=λ_=>rfl;have hv:=Oh ow ho H;rw[MR];unfold To
 cases hvs:X1 ow with
 |false =>
  rw[hvs]at hv;exact⟨.nilp,4,H,by simp only[hnil,go_sem,UT,hv,zG],.inl ⟨rfl,rfl,rfl,rfl⟩⟩
 |true =>
  rw[hvs]at hv;obtain⟨x,l1,l2⟩:=Zye h hk.sto ow ho;have hx:∀ u,Zf (.slice u) x=K (Q J ((Xo ow s).length:Int)):=λu=>l2.len u;obtain⟨H1,S1,q1,q2⟩:=Zsd l2 (ZkE ow hk.sto) (.str ow) (Q J lim) H (Xo ow s) [] H S s rfl h hk;simp only[yZ]at q1;by_cases he:(Yv (Xo ow s) s).1=0
  · rw[if_neg (by simp[he])]at q1
    obtain⟨H2,k1,k2,k3⟩:=ZxO q2.at' ow lim H;refine⟨.ptr (Z H1+1) 0,0,H2,?_,.inr (.inr ⟨rfl,he,rfl,Z H1+1,_,rfl,?_,k2,q2.stp.trans k3 (λ_ h=>h) (λa ha=>by cases ha),λa ha=>?_⟩)⟩
    · simp only[hnil,go_sem,UT,hv,zF,Gj,l1,hx]
      exact q1.trans k1
    · have:=q2.stp.len;omega
    · have:=q2.stp.len
      rcases zS.1 ha with ha|ha
      · simp at ha
        exact .inr X
      · exact q2.own a ha
  · rw[if_pos he]at q1
    refine⟨.nilp,_,H1,?_,.inr (.inl ⟨rfl,he,rfl,rfl,S1,q2⟩)⟩;simp only[hnil,go_sem,UT,hv,zF,Gj,l1,hx];exact q1
theorem ZrY {t:Nat}{x:AV}{ns:List Zj}(hx:SS x ns)(hl:Z ns<=64)(ow lim:AV)(HB:Hp):∀ (r d:List Zj) (H:Hp) (S:dv) (s:Sto),ns=d++r->RefAt H t s S->ROk s ->
 ∃ H' S',Mj (.ptr t 0) ow lim x (Q J (Z d:Int)) HB H=(if (Yv r s).1≠0 then K (.tuple [.nilp,Q J (Yv r s).1],H') else Mh (.ptr t 0) ow lim HB H')/\RefRes H H' t (Yv r s).2 S S':=by
 intro r
 induction r with
 |nil =>
  intro d H S s hd h hk;rw[zH]at hd;subst hd;have hlt:decide ((Z ns:Int)<(Z ns:Int))=I:=U
  refine⟨H,S,?_,h.self⟩;rw[dD,Yv,if_neg U];have hx:∀ u,Zf (.slice u) x=K (Q J (Z ns:Int)):=λu=>hx.len u;simp only[go_sem,hx,hlt]
 |cons n r ih =>
  intro d H S s hd h hk;have hlen:Z ns=Z d+(Z r+1):=by rw[hd];simp
  have hlt:decide ((Z d:Int)<(Z ns:Int))=Y:=by simp;omega
  have hw1:xV.wrap ((Z d:Int)+1)=((Z d+1:Nat):Int):=by rw[Zl X X];omega
  have hin:ns[Z d]?=K n:=by rw[hd,zD (zE _)];simp
  have hidx:=SS.idx hx hin;have hxl:∀ u,Zf (.slice u) x=K (Q J (Z ns:Int)):=λu=>hx.len u;obtain⟨H1,S1,q1,q2⟩:=ZeA h hk n;rw[dD];by_cases he:(s.remove n).1=0
  · have e0:((s.remove n).1 != 0)=I:=by rw[he];rfl
    have hor:Yv (n::r) s=Yv r (s.remove n).2:=by rw[Yv,if_neg (by simp[he])]
    obtain⟨H2,S2,r1,r2⟩:=ih (d++[n]) H1 S1 _ (by rw[hd];simp) q2.at' (jX hk n);rw[zB,zA]at r1;rw[hor];refine⟨H2,S2,?_,q2.trans r2⟩;simp only[go_sem,hxl,hlt,dC,hidx,ZE,q1,e0,Zjs,hw1];exact r1
  · have e0:((s.remove n).1 != 0)=Y:=by simpa using he
    have hor:Yv (n::r) s=s.remove n:=by rw[Yv,if_pos he]
    rw[hor];refine⟨H1,S1,?_,q2⟩;rw[if_pos he];simp only[go_sem,hxl,hlt,dC,hidx,ZE,q1,e0]
theorem Zxt {H:Hp}{t:Nat}(ow:Zj)(lim:Int)(HB:Hp) :
 Mh (.ptr t 0) (.str ow) (Q J lim) HB H=K (.tuple [.ptr (Z H) 0,Q J 0],H++[.cells [.ptr t 0,.str ow,Q J ((max 0 lim).toNat:Int),Q J 0,.nils,.nils,.bool I]]):=by
 have hf:∀ l:Int,(Yb [(0,1,.ptr t 0),(1,1,.str ow),(2,1,Q J l)] [.nilp,(.str []),(Q J 0),(Q J 0),.nils,.nils,(.bool I)]).map xL=K (.agg [.ptr t 0,.str ow,Q J l,Q J 0,.nils,.nils,.bool I]):=λ_=>rfl;have hb:∀ l:du,ZY (.agg l) H=K (.ptr (Z H) 0,H++[.cells l]):=λl=>by rw[VE rfl];simp[xG]
 rw[Zjr];by_cases hn:lim<0
 · have e:((max 0 lim).toNat:Int)=0:=X
   simp only[go_sem,decide_eq_true hn,dB,hf,hb,e]
 · have e:((max 0 lim).toNat:Int)=lim:=X
   simp only[go_sem,decide_eq_false hn,dB,hf,hb,e]
theorem Zo9 {H:Hp}{t:Nat}{s:Sto}{S:dv}(h:RefAt H t s S)(hk:ROk s)(ow:Zj)(ho:Z ow<=1048000)(lim:Int) :
 ∃ p e H',Sw [.ptr t 0,.str ow,Q J lim] H=K (.tuple [p,Q J e],H') /\
  (X1 ow=I/\p=.nilp/\e=4/\H'=H \/
   X1 ow=Y/\(Yv (Xo ow s) s).1≠0/\p=.nilp/\e=(Yv (Xo ow s) s).1/\(∃ S',RefRes H H' t (Yv (Xo ow s) s).2 S S') \/
   X1 ow=Y/\(Yv (Xo ow s) s).1=0/\e=0/\∃ o S',p=.ptr o 0/\Z H<=o/\o∉S'/\H'[o]?=K (.cells [.ptr t 0,.str ow,Q J ((max 0 lim).toNat:Int),Q J 0,.nils,.nils,.bool I])/\RefRes H H' t (Yv (Xo ow s) s).2 S S'):=by
 have hnil:∀ u,Y5 (.pointer u) .eql (.ptr t 0) .nilp=K (.bool I):=λ_=>rfl;have hv:=ZeE ow X H;rw[Zlb];unfold Zgs
 cases hvs:X1 ow with
 |false =>
  rw[hvs]at hv;exact⟨.nilp,4,H,by simp only[hnil,go_sem,NG,hv,zG],.inl ⟨rfl,rfl,rfl,rfl⟩⟩
 |true =>
  rw[hvs]at hv;obtain⟨x,l1,l2⟩:=Zxd h hk ow ho;obtain⟨H1,S1,q1,q2⟩:=ZrY l2 (ZkE ow hk.sto) (.str ow) (Q J lim) H (Xo ow s) [] H S s rfl h hk;simp only[yZ]at q1;by_cases he:(Yv (Xo ow s) s).1=0
  · rw[if_neg (by simp[he]),Zxt]at q1
    refine⟨.ptr (Z H1) 0,0,H1++[.cells [.ptr t 0,.str ow,Q J ((max 0 lim).toNat:Int),Q J 0,.nils,.nils,.bool I]],?_,.inr (.inr ⟨rfl,he,rfl,Z H1,S1,rfl,q2.stp.len,λha=>?_,?_,?_⟩)⟩
    · simp only[hnil,go_sem,NG,hv,zF,dA,l1]
      exact q1
    · have:=q2.at'.lt _ ha;omega
    · simp
    · exact⟨q2.at'.frame λa ha=>zX (q2.at'.lt a ha),q2.stp.trans (Stp.push (A:=[]) _ _) (λ_ h=>h) (λa ha=>by cases ha),q2.own⟩
  · rw[if_pos he]at q1
    refine⟨.nilp,_,H1,?_,.inr (.inl ⟨rfl,he,rfl,rfl,S1,q2⟩)⟩;simp only[hnil,go_sem,NG,hv,zF,dA,l1];exact q1
theorem Zr4 {H H1:Hp}{o t y w:Nat}{M:AV}{sl:List (Zj×Nat)}{tm:Tmp}{s':Sto}{S F:dv}(O:TmAt H o t y w M sl tm)(R:∀ a∈o::y::ZA M,a∉S)(hm:TmpOk tm)(E:StoRes H H1 t s' S F)(n:Zj)(aa:tm.names≠[]) :
 ∃ N A' u,forgetE.run [.ptr o 0,.str n] H1=K (.tuple [],N)/\SysRes H N o t { tm with names:=Yl n tm.names,sld:=u } s' ((o::y::ZA M)++S) A'/\∀ m,m≠n->(m∈u↔m∈tm.sld):=by
 have ab:=SysAt.store (o:=o) (tm:=tm) ⟨y,w,M,sl,O,rfl⟩ R E;have P:TmAt H1 o t y w M sl tm:=O.frame λa j=>E.stp.at' a (O.lt a j) (R a j);obtain⟨N,D,u,q1,q2,q3,q4,q5⟩:=ZoT P hm n aa;have z:=E.at'.lt
 have B:∀ a∈o::y::ZA M,a∉F:=λa j hs=>by
  rcases E.own a hs with G|G
  ·exact R a j G
  ·have:=O.lt a j;omega
 have C:StoreAt N t s' F:=E.at'.stp q3 λa j hx=>B a hx j
 have T:∀ a∈o::y::ZA D,a∉F:=λa j hs=>by
  rcases zK.1 j with e|j
  ·exact B a (by simp[e]) hs
  rcases zK.1 j with e|j
  ·exact B a (by simp[e]) hs
  ·have:=q4 a j;have:=z a hs;omega
 have ac:Z H<=Z H1:=E.stp.len;refine⟨N,(o::y::ZA D)++F,u.map (·.1),q1,⟨⟨_,F,⟨y,w,D,u,q2,rfl⟩,C,T,rfl⟩,ab.stp.trans q3 (λ_ h=>h) λa j=>.inl (List.mem_append_left _ j),λa j=>?_⟩,q5⟩;rcases zS.1 j with k|k
 ·rcases zK.1 k with e|k
  ·exact .inl (by simp[e])
  rcases zK.1 k with e|k
  ·exact .inl (by simp[e])
  ·have:=q4 a k;exact .inr X
 ·rcases E.own a k with G|G
  ·exact .inl (xC _ G)
  ·exact .inr G
def Kr (tm:Tmp)(s:Sto)(n:Zj):Int:=if ZI tm n≠0 then ZI tm n else (s.remove n).1
def BW (tm:Tmp)(s:Sto)(n:Zj):Sto:=if ZI tm n≠0 then s else (s.remove n).2
theorem Zod {H:Hp}{o t:Nat}{tm:Tmp}{s:Sto}{A:dv}(h:SysAt H o t tm s A)(hm:TmpOk tm)(hk:StoOk s)(n:Zj) :
 ∃ H' C tm',YM [.ptr o 0,.str n] H=K (Q J (Kr tm s n),H')/\SysRes H H' o t tm' (BW tm s n) A C /\
  (Kr tm s n≠0/\tm'=tm\/Kr tm s n=0/\n∈tm.names/\∃ sl,tm'={ tm with names:=Yl n tm.names,sld:=sl }/\∀ m,m≠n->(m∈sl↔m∈tm.sld)):=by
 unfold Kr BW;by_cases j:ZI tm n=0
 ·have N:=h;obtain⟨B,S,⟨ms,D,nx,sl,z,rfl⟩,T,M,rfl⟩:=h;have w:=Rl z hm n;have e0:(ZI tm n != 0)=I:=by rw[j];rfl
  have O:=ZZ z.cells 0 (v:=.ptr t 0) rfl;obtain⟨H1,S1,F,P⟩:=Zhq T hk n;rw[if_neg (by simp[j]),if_neg (by simp[j])]
  have E:n∈tm.names:=by
   unfold ZI at j;split at j
   ·cases j
   ·split at j
    ·assumption
    ·cases j
  by_cases u:(s.remove n).1=0
  ·obtain⟨R,C,G,k1,k2,k3⟩:=Zr4 z M hm P n (λe=>by rw[e]at E;cases E);have y:((s.remove n).1 != 0)=I:=by rw[u];rfl
   refine⟨R,C,_,?_,k2,.inr ⟨u,E,G,rfl,k3⟩⟩;rw[u]at F y ⊢;rw[W9];unfold XP;simp only[w,go_sem,e0,JP,zC,O,F,y,Lu,k1]
  ·have y:((s.remove n).1 != 0)=Y:=by simpa using u
   refine⟨H1,_,tm,?_,SysAt.store (o:=o) (tm:=tm) ⟨ms,D,nx,sl,z,rfl⟩ M P,.inl ⟨u,rfl⟩⟩;rw[W9];unfold XP;simp only[w,go_sem,e0,JP,zC,O,F,y]
 ·rw[if_pos j,if_pos j];exact⟨H,A,tm,Zoc h hm j,h.self,.inl ⟨j,rfl⟩⟩
def Num (tm:Tmp)(n:Zj):Prop:=∃ i,i<=tm.last/\n=Yr tm.owner i
structure TInv (tm:Tmp)(k:Nat):Prop where
 ok:TmpOk tm
 last:tm.last<=k
 nd:tm.names.Nodup
 num:∀ n∈tm.names,Num tm n
 snum:∀ n∈tm.sld,Num tm n
theorem ZwS:((xE 50).all λi=>(xE 50).all λj=>i==j || !(Go.Lib.itoa (i:Int)==Go.Lib.itoa (j:Int)))=Y:=dz
theorem bL {o:Zj}{i j:Nat}(hi:i<50)(z:j<50)(h:Yr o i=Yr o j):i=j:=by
 have w:=W2 ZwS hi;have u:=W2 w z
 have y:Go.Lib.itoa (i:Int)=Go.Lib.itoa (j:Int):=by
  unfold Yr at h;exact List.append_cancel_left h
 rw[y]at u;simpa using u
def ZAY (H:Hp)(o t:Nat)(tm:Tmp)(s:Sto)(A:dv):Prop:=∃ sl,SysAt H o t { tm with sld:=sl } s A/\(∀ n∈tm.names,(n∈sl↔n∈tm.sld))/\∀ n∈sl,Num tm n
def MAt (H:Hp)(t:Nat)(p:AV)(m:Option Tmp)(s:Sto)(A:dv):Prop:=match m with
 |none=>p=.nilp/\StoreAt H t s A
 |some tm=>∃ o,p=.ptr o 0/\ZAY H o t tm s A
structure MRes (H H':Hp)(t:Nat)(p:AV)(m':Option Tmp)(s':Sto)(A A':dv):Prop where
 at':MAt H' t p m' s' A'
 stp:Stp A H H'
 own:∀ a∈A',a∈A\/Z H<=a
theorem MAt.store {H:Hp}{t:Nat}{p:AV}{m:Option Tmp}{s:Sto}{A:dv}(h:MAt H t p m s A):∃ S,StoreAt H t s S/\∀ a∈S,a∈A:=by
 cases m with
 |none=>exact⟨A,h.2,λa j=>j⟩
 |some tm =>
  obtain⟨o,_,sl,⟨B,S,_,u,_,rfl⟩,_⟩:=h;exact⟨S,u,λa j=>xC _ j⟩
theorem MAt.lt {H:Hp}{t:Nat}{p:AV}{m:Option Tmp}{s:Sto}{A:dv}(h:MAt H t p m s A):∀ a∈A,a<Z H:=by
 cases m with
 |none=>exact h.2.lt
 |some tm =>
  obtain⟨o,_,sl,h,_⟩:=h;exact h.lt
theorem SysAt.frm {H H':Hp}{o t:Nat}{tm:Tmp}{s:Sto}{A:dv}(h:SysAt H o t tm s A)(w:∀ a∈A,H'[a]?=H[a]?):SysAt H' o t tm s A:=by
 obtain⟨B,S,⟨D,j,E,sl,y,rfl⟩,z,C,rfl⟩:=h;exact⟨_,S,⟨D,j,E,sl,y.frame λa u=>w a (by simp only[zS];exact .inl u),rfl⟩,z.frame λa u=>w a (by simp[u]),C,rfl⟩
theorem MAt.frame {H H':Hp}{t:Nat}{p:AV}{m:Option Tmp}{s:Sto}{A:dv}(h:MAt H t p m s A)(j:∀ a∈A,H'[a]?=H[a]?):MAt H' t p m s A:=by
 cases m with
 |none=>exact⟨h.1,h.2.frame j⟩
 |some tm =>
  obtain⟨o,u,sl,w,y,z⟩:=h;exact⟨o,u,sl,w.frm j,y,z⟩
def ZU (tm:Tmp)(s:Sto)(n:Zj):Int×(Tmp×Sto):=(Kr tm s n,(if Kr tm s n=0 then { tm with names:=Yl n tm.names } else tm,BW tm s n))
def FY (j:Zj)(lim:Int)(s:Sto):Int×(Option Tmp×Sto) :=
 if X1 j then ((Yv (Xo j s) s).1,(if (Yv (Xo j s) s).1=0 then K ⟨j,[],[],(max 0 lim).toNat,0,I⟩ else V,(Yv (Xo j s) s).2)) else (4,(V,s))
def Sto.fail (s:Sto)(n:Int):Sto:=if s.crashed then s else { s with count:=(max n 0).toNat }
abbrev Out:=(Option Tmp×Sto)×(Zj×Int×Int)
def YL (m:Option Tmp)(s:Sto)(f:Tmp->Out):Out:=match m with
 |none=>((V,s),([],0,5))
 |some tm=>f tm
def Zjk (m:Option Tmp)(k:Nat):Prop:=∀ tm,m=K tm->TInv tm k
theorem Num.up {tm tm':Tmp}{n:Zj}(h:Num tm n)(u:tm'.owner=tm.owner)(y:tm.last<=tm'.last):Num tm' n:=by
 obtain⟨i,w,j⟩:=h;exact⟨i,X,by rw[u];exact j⟩
theorem Zgh {tm:Tmp}{k:Nat}(h:TInv tm k)(hk:k<48)(s:Sto):TInv (Zi tm s).2.1 (k+1):=by
 have u:TInv tm (k+1):=⟨h.ok,zY h.last,h.nd,h.num,h.snum⟩;have G:=h.last;have w:=h.ok.len;unfold Zi;split
 ·exact u
 ·cases F:s.create (Yr tm.owner (tm.last+1)) with
  |mk e s' =>
  dsimp only;split
  ·have j:Yr tm.owner (tm.last+1)∉tm.names:=λD=>by
    obtain⟨i,E,B⟩:=h.num _ D;have:=bL X X B;omega
   refine⟨⟨h.ok.owner,h.ok.limit,by show (tm.names++[_]).length<=tm.last+1;simp;omega,by show tm.last+1<=1000000;omega⟩,by show tm.last+1<=k+1;omega,?_,λn w=>?_,λn w=>(h.snum n w).up rfl (xM _)⟩
   ·show (tm.names++[_]).Nodup;rw[yF];refine⟨h.nd,U,λa C b z e=>?_⟩;simp at z;exact j (by rw[<-z,<-e];exact C)
   ·rcases zS.1 w with y|y
    ·exact (h.num n y).up rfl (xM _)
    ·exact⟨tm.last+1,zE _,zI.1 y⟩
  ·exact u
theorem Ai {l:List Zj}{n m:Zj}:m∈NI l n↔m∈l\/m=n:=by
 unfold NI;split
 ·rename_i h;exact⟨.inl,λk=>k.elim id λe=>by rw[e];exact h⟩
 ·simp
theorem HZ {tm:Tmp}{n:Zj}(h:ZI tm n=0):n∈tm.names/\tm.closed=I:=by
 unfold ZI at h;split at h
 ·cases h
 ·rename_i j;split at h
  ·rename_i u;exact⟨u,by simpa using j⟩
  ·cases h
theorem Zvf {tm:Tmp}{k:Nat}(h:TInv tm k)(s:Sto)(n:Zj):TInv (ZM tm s n).2.1 (k+1):=by
 have j:TInv tm (k+1):=⟨h.ok,zY h.last,h.nd,h.num,h.snum⟩;unfold ZM;split
 ·exact j
 ·rename_i u;split
  ·exact j
  ·refine⟨⟨h.ok.owner,h.ok.limit,h.ok.len,h.ok.last⟩,zY h.last,h.nd,h.num,λm hm=>?_⟩;rcases Ai.1 hm with k|k
   ·exact h.snum m k
   ·rw[k];exact h.num n (HZ (by simpa using u)).1
theorem Zpo {tm:Tmp}{k:Nat}(h:TInv tm k)(s:Sto)(n:Zj):TInv (ZU tm s n).2.1 (k+1):=by
 have j:TInv tm (k+1):=⟨h.ok,zY h.last,h.nd,h.num,h.snum⟩;unfold ZU;dsimp only;split
 ·have u:(Yl n tm.names).length<=Z tm.names:=xB _ _;have:=h.ok.len;exact⟨⟨h.ok.owner,h.ok.limit,by show (Yl n tm.names).length<=tm.last;omega,h.ok.last⟩,zY h.last,h.nd.sublist List.filter_sublist,λm hm=>h.num m (xO.1 hm).1,h.snum⟩
 ·exact j
theorem Zvm {j:Zj}(h:X1 j=Y):Z j<=16:=by
 cases j with
 |nil=>simp
 |cons b l =>
  unfold X1 at h;simp only[Bool.and_eq_true,decide_eq_true_eq]at h;exact h.1.1
theorem ZtJ (u:Zj)(lim:Int)(w:lim<=9223372036854775807)(s:Sto)(k:Nat):Zjk (FY u lim s).2.1 k:=by
 intro tm h;unfold FY at h;split at h
 ·rename_i j;dsimp only at h;split at h
  ·injection h with h;subst h;exact⟨⟨Zvm j,by show (max 0 lim).toNat<=9223372036854775807;omega,U,U⟩,xA _,U,U,U⟩
  ·cases h
 ·cases h
theorem ZhA {s:Sto}(h:ROk s)(n t:Zj):ROk (s.append n t).2:=by
 have u:=h.tick;unfold Sto.append;split
 ·exact u
 ·split
  ·exact u
  ·split
   ·exact u
   ·rename_i z;have w:=u.sto.peak;have j:=C8 s;refine⟨?_,u.cnt⟩;have:=Zvj u.sto n (λf=>{ f with text:=f.text++t }) (Z t) (max s.peak (Zs s.files+Z t)) (λ_=>rfl) (λf=>U) (λf y=>by simp;omega) (by rw[Yh,j];omega) (by rw[Ow,j]at w;rw[j];omega);rw[Yh]at this;exact this
theorem ZnZ {s:Sto}(h:ROk s)(n:Zj):ROk (s.sync n).2:=by
 have j:=h.tick;unfold Sto.sync;split
 ·exact j
 ·split
  ·exact j
  ·refine⟨?_,j.cnt⟩;have w:=j.sto.used;have:=Zvj j.sto n (λf=>{ f with syn:=Z f.text }) 0 s.tick.peak (λ_=>rfl) (λf=>U) (λf u=>U) X j.sto.peak;rw[Yh]at this;exact this
theorem ZmZ {s:Sto}(h:ROk s)(n:Int)(u:n<=9223372036854775807):ROk (s.fail n):=by
 unfold Sto.fail;split
 ·exact h
 ·rename_i j;exact⟨⟨h.sto.limit,h.sto.used,h.sto.peak,h.sto.name,h.sto.nd,h.sto.syn,h.sto.len,by show (max n 0).toNat<=9223372036854775807;omega⟩,λk=>absurd k j⟩
theorem ZyB (k:Nat):∀ (j:List Zj) (i:Nat) (s:Sto),StoOk s->StoOk { s with files:=Zbq k i j s.files }:=by
 intro j
 induction j with
 |nil=>intro i s h;exact h
 |cons n j u =>
  intro i s h;exact u (i+1) { s with files:=Y9 s.files n (YF k i) } (Zt4 h k i n)
theorem Zpf {s:Sto}(h:ROk s)(k:Nat):ROk (s.restart k):=by
 refine⟨?_,λ_=>rfl⟩;have j:StoOk { s with crashed:=I,count:=0 }:=⟨h.sto.limit,h.sto.used,h.sto.peak,h.sto.name,h.sto.nd,h.sto.syn,h.sto.len,U⟩;exact ZyB k _ 0 _ j
theorem Zgi {tm:Tmp}{s:Sto}(h:ROk s):ROk (Zi tm s).2.2:=by
 unfold Zi;split
 ·exact h
 ·have:=ZqF h (Yr tm.owner (tm.last+1))
  cases j:s.create (Yr tm.owner (tm.last+1)) with
  |mk e s' =>
  rw[j]at this;dsimp only;split <;> exact this
theorem kV {tm:Tmp}{s:Sto}(h:ROk s)(n:Zj)(l:List Zj):ROk (ZO tm s n l).2:=by
 unfold ZO;split
 ·exact h
 split
 ·exact h
 split
 ·exact h
 split
 ·exact h
 ·exact ZhA h n _
theorem Zvg {tm:Tmp}{s:Sto}(h:ROk s)(n:Zj):ROk (ZM tm s n).2.2:=by
 unfold ZM;split
 ·exact h
 split
 ·exact ZnZ h n
 ·exact ZnZ h n
theorem ZAb {tm:Tmp}{s:Sto}(h:ROk s)(n:Zj):ROk (BW tm s n):=by
 unfold BW;split
 ·exact h
 ·exact jX h n
theorem TInv.up {tm:Tmp}{k:Nat}(h:TInv tm k):TInv tm (k+1):=⟨h.ok,zY h.last,h.nd,h.num,h.snum⟩
theorem Fj {tm:Tmp}(h:TmpOk tm)(sl:List Zj):TmpOk { tm with sld:=sl }:=⟨h.owner,h.limit,h.len,h.last⟩
theorem ZpF (tm:Tmp)(sl:List Zj)(s:Sto):Zi { tm with sld:=sl } s=((Zi tm s).1,({ (Zi tm s).2.1 with sld:=sl },(Zi tm s).2.2)):=by
 unfold Zi;dsimp only;split
 ·rfl
 ·split <;> rfl
theorem ZkN (tm:Tmp)(s:Sto):(Zi tm s).2.1.sld=tm.sld/\(Zi tm s).2.1.owner=tm.owner/\tm.last<=(Zi tm s).2.1.last/\∀ n∈(Zi tm s).2.1.names,n∈tm.names\/n=Yr tm.owner (tm.last+1):=by
 unfold Zi;split
 ·exact⟨rfl,rfl,zE _,λn h=>.inl h⟩
 ·cases s.create (Yr tm.owner (tm.last+1)) with
  |mk e s' =>
  dsimp only;split
  ·refine⟨rfl,rfl,xM _,λn h=>?_⟩;rcases zS.1 h with h|h
   ·exact .inl h
   ·exact .inr (zI.1 h)
  ·exact⟨rfl,rfl,zE _,λn h=>.inl h⟩
theorem Zl9 (tm:Tmp)(sl:List Zj)(hs:∀ n∈tm.names,(n∈sl↔n∈tm.sld))(s:Sto)(n:Zj)(l:List Zj):ZO { tm with sld:=sl } s n l=ZO tm s n l:=by
 unfold ZO;have w:ZI { tm with sld:=sl } n=ZI tm n:=rfl;have y:V4 { tm with sld:=sl } s=V4 tm s:=rfl;simp only[w,y];split
 ·rfl
 ·rename_i h;have u:=(HZ (by simpa using h)).1;by_cases j:n∈tm.sld
  ·rw[if_pos ((hs n u).2 j),if_pos j]
  ·rw[if_neg (λk=>j ((hs n u).1 k)),if_neg j]
theorem ZnS (tm:Tmp)(sl:List Zj)(s:Sto)(n:Zj):(ZM { tm with sld:=sl } s n).1=(ZM tm s n).1/\(ZM { tm with sld:=sl } s n).2.2=(ZM tm s n).2.2:=by
 unfold ZM;have j:ZI { tm with sld:=sl } n=ZI tm n:=rfl;simp only[j];split
 ·exact⟨rfl,rfl⟩
 ·split
  ·exact⟨rfl,rfl⟩
  ·exact⟨rfl,rfl⟩
theorem Zzg (tm:Tmp)(sl:List Zj)(hs:∀ n∈tm.names,(n∈sl↔n∈tm.sld))(y:∀ n∈sl,Num tm n)(hm:∀ n∈tm.names,Num tm n)(s:Sto)(n:Zj) :
 ∃ u,(ZM { tm with sld:=sl } s n).2.1={ (ZM tm s n).2.1 with sld:=u }/\(∀ m∈(ZM tm s n).2.1.names,(m∈u↔m∈(ZM tm s n).2.1.sld))/\∀ m∈u,Num (ZM tm s n).2.1 m:=by
 unfold ZM;have z:ZI { tm with sld:=sl } n=ZI tm n:=rfl;simp only[z];split
 ·exact⟨sl,rfl,hs,y⟩
 ·rename_i w;split
  ·exact⟨sl,rfl,hs,y⟩
  ·refine⟨NI sl n,rfl,λm j=>?_,λm j=>?_⟩
   ·show m∈NI sl n↔m∈NI tm.sld n;rw[Ai,Ai,hs m j]
   ·rcases Ai.1 j with k|k
    ·exact y m k
    ·rw[k];exact hm n (HZ (by simpa using w)).1
theorem Zmb {H:Hp}{o:Nat}{s:Sto}{A:dv}(h:StoreAt H o s A)(n:Int) :
 ∃ H',WT [.ptr o 0,Q J n] H=K (.tuple [],H')/\StoRes H H' o (s.fail n) A A:=by
 obtain⟨m,C,F,h,rfl⟩:=h;have j:∀ u,Y5 (.pointer u) .neq (.ptr o 0) .nilp=K (.bool Y):=λ_=>rfl;have w:H[o]?=K (.cells (YI m s)):=h.cells;have z:=ZZ w 4 (v:=.bool s.crashed) rfl;rw[Lx];unfold D5 Sto.fail;by_cases y:s.crashed=Y
 ·rw[y]at z;rw[if_pos y];refine⟨H,?_,h.res (Stp.refl _ _)⟩;simp only[j,go_sem,zC,z,zF]
 ·rw[Bool.not_eq_true]at y;rw[y]at z;rw[if_neg (by simp[y])];have D:(((max n 0).toNat:Nat):Int)=max n 0:=X
  have E:=Wp w 5 (v:=Q J (max n 0)) rfl rfl (by simp[YI]);have g:=Zu (zJ (zL (YI m s) 5 (Q J (max n 0)))) w;have B:Stp [o] H (H.set o (.cells (zL (YI m s) 5 (Q J (max n 0))))):=Stp.set _ _ U;refine⟨_,?_,(h.cell (s':={ s with count:=(max n 0).toNat }) B (by rw[g];simp only[YI,D];rfl) rfl).res B⟩;simp only[j,go_sem,zC,z,zG,E]
theorem SysRes.mres {H H':Hp}{o t:Nat}{tm tm':Tmp}{s':Sto}{A j:dv}(sl:List Zj)(h:SysRes H H' o t { tm' with sld:=sl } s' A j)(u:∀ n∈tm'.names,(n∈sl↔n∈tm'.sld))(w:∀ n∈sl,Num tm' n):MRes H H' t (.ptr o 0) (K tm') s' A j :=
 ⟨⟨o,rfl,sl,h.at',u,w⟩,h.stp,h.own⟩
theorem MAt.store' {H:Hp}{t:Nat}{p:AV}{m:Option Tmp}{s:Sto}{A:dv}(h:MAt H t p m s A):∃ S,StoreAt H t s S/\∀ {H':Hp} {s':Sto} {j:dv},StoRes H H' t s' S j->∃ u,MRes H H' t p m s' A u:=by
 cases m with
 |none=>exact⟨A,h.2,λ{H' s' j} hr=>⟨j,⟨h.1,hr.at'⟩,hr.stp,hr.own⟩⟩
 |some tm =>
  obtain⟨o,e,sl,⟨B,S,w,y,z,rfl⟩,C,D⟩:=h;refine⟨S,y,λ{H' s' j} hr=>?_⟩;have:=SysAt.store w z hr;exact⟨_,⟨o,e,sl,this.at',C,D⟩,this.stp,this.own⟩
section
variable {H:Hp}{t k:Nat}{p:AV}{m:Option Tmp}{s:Sto}{A:dv}(h:MAt H t p m s A)(hm:Zjk m k)(hs:ROk s)(hk:k<48)
include h hm hs hk
theorem ZB6:∃ H' u,XJ [p] H=K (.tuple [.str (YL m s λtm=>((K (Zi tm s).2.1,(Zi tm s).2.2),((Zi tm s).1.1,0,(Zi tm s).1.2))).2.1,Q J (YL m s λtm=>((K (Zi tm s).2.1,(Zi tm s).2.2),((Zi tm s).1.1,0,(Zi tm s).1.2))).2.2.2],H') /\
 MRes H H' t p (YL m s λtm=>((K (Zi tm s).2.1,(Zi tm s).2.2),((Zi tm s).1.1,0,(Zi tm s).1.2))).1.1 (YL m s λtm=>((K (Zi tm s).2.1,(Zi tm s).2.2),((Zi tm s).1.1,0,(Zi tm s).1.2))).1.2 A u:=by
 cases m with
 |none =>
  obtain⟨rfl,w⟩:=h;exact⟨H,A,ZyY H,⟨rfl,w⟩,Stp.refl _ _,λa G=>.inl G⟩
 |some tm =>
  have hi:=hm tm rfl;obtain⟨o,rfl,sl,F,w,C⟩:=h;have T:=hi.last;obtain⟨H',u,D,E⟩:=Zmk F (Fj hi.ok sl) hs.sto (by show tm.last<1000000;omega);rw[ZpF]at D E;obtain⟨O,P,R,S⟩:=ZkN tm s;refine⟨H',u,D,SysRes.mres (tm:=tm) sl E (λn z=>?_) λn z=>(C n z).up P R⟩;rw[O];rcases S n z with B|B
  ·exact w n B
  ·have no:∀ l:List Zj,(∀ x∈l,Num tm x)->n∉l:=λl y M=>by
    obtain⟨i,i1,N⟩:=y n M;have:=bL (o:=tm.owner) (i:=tm.last+1) (j:=i) X X (by rw[<-B,<-N]);omega
   exact⟨λx=>absurd x (no _ C),λx=>absurd x (no _ hi.snum)⟩
theorem ZA3 (n:Zj){x:AV}{l:List Zj}(F:SS x l)(C:∀ s∈l,Z s<=1048576)(E:Yo l<=1048576):∃ H' u,Xh [p,.str n,x] H=K (Q J (YL m s λtm=>((K tm,(ZO tm s n l).2),([],0,(ZO tm s n l).1))).2.2.2,H') /\
 MRes H H' t p (YL m s λtm=>((K tm,(ZO tm s n l).2),([],0,(ZO tm s n l).1))).1.1 (YL m s λtm=>((K tm,(ZO tm s n l).2),([],0,(ZO tm s n l).1))).1.2 A u:=by
 cases m with
 |none =>
  obtain⟨rfl,j⟩:=h;exact⟨H,A,Zvn _ _ H,⟨rfl,j⟩,Stp.refl _ _,λa D=>.inl D⟩
 |some tm =>
  have hi:=hm tm rfl;obtain⟨o,rfl,sl,z,j,B⟩:=h;obtain⟨H',u,w,y⟩:=Zkd z (Fj hi.ok sl) hs.sto n F C E;rw[Zl9 tm sl j]at w y;exact⟨H',u,w,SysRes.mres (tm:=tm) sl y j B⟩
theorem ZAC (n:Zj):∃ H' j,Xq [p,.str n] H=K (Q J (YL m s λtm=>((K (ZM tm s n).2.1,(ZM tm s n).2.2),([],0,(ZM tm s n).1))).2.2.2,H') /\
 MRes H H' t p (YL m s λtm=>((K (ZM tm s n).2.1,(ZM tm s n).2.2),([],0,(ZM tm s n).1))).1.1 (YL m s λtm=>((K (ZM tm s n).2.1,(ZM tm s n).2.2),([],0,(ZM tm s n).1))).1.2 A j:=by
 cases m with
 |none =>
  obtain⟨rfl,u⟩:=h;exact⟨H,A,ZxC _ H,⟨rfl,u⟩,Stp.refl _ _,λa N=>.inl N⟩
 |some tm =>
  have hi:=hm tm rfl;obtain⟨o,rfl,sl,G,u,M⟩:=h;obtain⟨H',j,y,z⟩:=Zmj G (Fj hi.ok sl) hs.sto n;obtain⟨B,C⟩:=ZnS tm sl s n;obtain⟨w,D,E,F⟩:=Zzg tm sl u M hi.num s n;rw[B]at y;rw[C,D]at z;exact⟨H',j,y,SysRes.mres (tm:=tm) w z E F⟩
theorem ZAB (n:Zj)(i:Int)(hi:-9223372036854775808<=i/\i<=9223372036854775807):∃ H' y,YH [p,.str n,Q J i] H=K (.tuple [.str (YL m s λtm=>((K tm,if ZI tm n=0 then s.tick else s),Yi tm s n i)).2.1,Q J (YL m s λtm=>((K tm,if ZI tm n=0 then s.tick else s),Yi tm s n i)).2.2.1,Q J (YL m s λtm=>((K tm,if ZI tm n=0 then s.tick else s),Yi tm s n i)).2.2.2],H') /\
 MRes H H' t p (YL m s λtm=>((K tm,if ZI tm n=0 then s.tick else s),Yi tm s n i)).1.1 (YL m s λtm=>((K tm,if ZI tm n=0 then s.tick else s),Yi tm s n i)).1.2 A y:=by
 cases m with
 |none =>
  obtain⟨rfl,j⟩:=h;exact⟨H,A,Zvd _ _ H,⟨rfl,j⟩,Stp.refl _ _,λa u=>.inl u⟩
 |some tm =>
  have w:=hm tm rfl;obtain⟨o,rfl,sl,z,j,B⟩:=h;obtain⟨H',C,D,E⟩:=Zsq z (Fj w.ok sl) hs.sto n i hi;exact⟨H',A,C,⟨o,rfl,sl,D,j,B⟩,E,λa u=>.inl u⟩
theorem ZyX (n:Zj):∃ H' u,YM [p,.str n] H=K (Q J (YL m s λtm=>((K (ZU tm s n).2.1,(ZU tm s n).2.2),([],0,(ZU tm s n).1))).2.2.2,H') /\
 MRes H H' t p (YL m s λtm=>((K (ZU tm s n).2.1,(ZU tm s n).2.2),([],0,(ZU tm s n).1))).1.1 (YL m s λtm=>((K (ZU tm s n).2.1,(ZU tm s n).2.2),([],0,(ZU tm s n).1))).1.2 A u:=by
 cases m with
 |none =>
  obtain⟨rfl,w⟩:=h;exact⟨H,A,Zpp _ H,⟨rfl,w⟩,Stp.refl _ _,λa R=>.inl R⟩
 |some tm =>
  have hi:=hm tm rfl;obtain⟨o,rfl,sl,P,w,E⟩:=h;obtain⟨H',u,tm',G,C,M⟩:=Zod P (Fj hi.ok sl) hs.sto n;have N:Kr { tm with sld:=sl } s n=Kr tm s n:=rfl;have O:BW { tm with sld:=sl } s n=BW tm s n:=rfl;rw[N]at G M;rw[O]at C;refine⟨H',u,G,?_⟩;show MRes H H' t (.ptr o 0) (K (ZU tm s n).2.1) (ZU tm s n).2.2 A u;rcases M with ⟨B,rfl⟩|⟨B,k2,D,rfl,F⟩
  ·have:(ZU tm s n).2.1=tm:=by unfold ZU;rw[if_neg B]
   rw[this];exact SysRes.mres (tm:=tm) sl C w E
  ·have:(ZU tm s n).2.1={ tm with names:=Yl n tm.names }:=by unfold ZU;rw[if_pos B]
   rw[this];refine SysRes.mres (tm:=tm) D C (λx z=>?_) λx z=>?_
   ·obtain⟨S,T⟩:=xO.1 z;have y:x≠n:=λe=>by simp[e]at T
    rw[F x y];exact w x S
   ·show Num tm x;by_cases j:x=n
    ·rw[j];exact hi.num n k2
    ·exact E x ((F x j).1 z)
end
theorem ZAA {H:Hp}{t:Nat}{p:AV}{m:Option Tmp}{s:Sto}{A:dv}(h:MAt H t p m s A)(hs:ROk s)(j:Zj)(G:Z j<=1048576)(lim:Int) :
 ∃ H' B C,VB [.ptr t 0,.str j,Q J lim] H=K (.tuple [C,Q J (FY j lim s).1],H')/\MRes H H' t C (FY j lim s).2.1 (FY j lim s).2.2 A B:=by
 obtain⟨S,E,u⟩:=h.store;obtain⟨C,e,H',D,M⟩:=Zsp E hs j G lim;unfold FY;rcases M with ⟨y,rfl,rfl,rfl⟩|⟨y,z,rfl,rfl,F,v3⟩|⟨y,z,rfl,o,B,rfl,v3,v4,v5,N⟩
 ·rw[if_neg (by simp[y])];exact⟨H',S,.nilp,D,⟨rfl,E⟩,Stp.refl _ _,λa w=>.inl (u a w)⟩
 ·rw[if_pos y];dsimp only;rw[if_neg z];refine⟨H',F,.nilp,D,⟨rfl,v3.at'⟩,v3.stp.mono u,λa w=>(v3.own a w).imp (u a) id⟩
 ·rw[if_pos y];dsimp only;rw[if_pos z,z];exact⟨H',B,_,D,⟨o,rfl,[],v4,U,U⟩,v5.mono u,λa w=>(N a w).imp (u a) id⟩
end Go.Am
