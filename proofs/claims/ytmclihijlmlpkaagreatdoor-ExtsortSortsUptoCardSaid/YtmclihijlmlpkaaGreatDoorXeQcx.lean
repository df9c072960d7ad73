/- Dividing lines into Ug -/
import Derived.Test.YtmclihijlmlpkaaGreatDoorXeSmx
import Derived.Test.YtmclihijlmlpkaaGreatDoorXeQbx
import Derived.Test.YtmclihijlmlpkaaGreatDoorXeGPx
open Option renaming some->K,none->V
open Bool renaming true->U,false->X
open List renaming length->Z
open Go.db renaming cm->Y,cn->I
open Go.Am.AV renaming int->J
open Go.IntKind renaming i64->O
open Go.IntKind renaming i64->wD
open List renaming mem_append->zB,mem_cons->zC,mem_singleton->zD,getElem?_append_right->zF,getElem?_cons_zero->zG,getElem?_cons_succ->zH,length_append->zK,mem_map_of_mem->zL,map_cons->zM,length_map->zN,append_nil->zO,length_cons->zP,flatten_cons->zQ,cons_append->zR,set->zS,length_singleton->zT,append_assoc->zU,filter_append->zV,getElem?_append_left->zW,map_append->zY,nodup_cons->zZ,mem_map->yA,mem_of_getElem?->yC,filter_cons->yD,mem_flatten->yE,pairwise_cons->yF,mem_append_right->yG,getElem?_map->yH,getElem?_eq_some_iff->yI,nil_append->yK,mem_append_left->yN,getElem?_of_mem->yO,getD_eq_getElem?_getD->yP,flatten_append->yQ,singleton_append->yT,length_nil->yU,length_pos_iff->yV,filter_eq_self->yW,nodup_append->yY,getElem?_eq_getElem->xB,all_eq_true->xD,length_eq_zero_iff->xE,headD_cons->xG,filter_eq_nil_iff->xH,mapM_cons->xI,getElem?_set_ne->xJ,mem_of_getLast?->xK,all_cons->xL,isEmpty_cons->xN,isEmpty_nil->xO,range->xS,tail_cons->xT,drop_one->xV,map_map->xW
open Nat renaming le_refl->zE,zero_add->zI,add_zero->yS,lt_of_lt_of_le->yX,reduceAdd->xA,le_trans->xF,zero_le->wA
open Bool renaming not_false->zX,not_true->yB,false_eq_true->yJ,false_and->yL,true_and->yZ,and_eq_true->xC,and_false->xU,or_true->xX
open Option renaming isSome->xM,getD->xP
open Int renaming le_refl->xZ
open Go.Am.AObj renaming cells->zA,row->yM,tok->xR
open Go.Am.AV renaming str->zJ,ptr->yR,vs->xQ,agg->xY,nils->wB
open List.Sublist renaming refl->wC
namespace Go.Am
set_option linter.unusedSectionVars false
set_option maxRecDepth 100000
def cS (s:Zi):Int:=(Z s:Int)+16
theorem Me:∀ (k:List Zi),YE k->0<=Yj cS k/\Yj cS k<=(Z k:Int)*1048592:=by
 have:∀ (k:List Zi) (n:Int),YE k->n<=k.foldl (λn x=>n+cS x) n/\k.foldl (λn x=>n+cS x) n<=n+(Z k:Int)*1048592:=by
  intro k
  induction k with
  |nil=>intro n _;simp
  |cons s k y =>
   intro n j;have hs:=j s I;obtain⟨z,C⟩:=y (n+cS s) λt u=>j t (by simp[u]);rw[List.foldl_cons];simp only[zP];have:cS s=(Z s:Int)+16:=rfl;constructor <;> omega
 intro k hk;have:=this k 0 hk;unfold Yj;simpa using this
section
variable {mem:Int}{l:List Zi}
theorem Zfm {d:List Zi}(hd:CkOk cS mem d (ZV cS mem d)):(ZV cS mem d).cur.length<=Z d/\d.drop (Z d-(ZV cS mem d).cur.length)=(ZV cS mem d).cur:=by
 have h:=hd.flat;generalize (ZV cS mem d)=s at h;subst h;constructor
 ·simp
 ·rw[zK,Nat.add_sub_cancel,List.drop_append_of_le_length (zE _),List.drop_length];rfl
theorem Zn8 {d:List Zi}(hd:CkOk cS mem d (ZV cS mem d)):(ZV cS mem d).done.length<=Z d:=by
 have h:=hd.flat;have j:=hd.ne;generalize (ZV cS mem d)=s at h j;subst h
 have:∀ (A:List (List Zi)),(∀ k∈A,k≠[])->Z A<=Z A.flatten:=by
  intro A
  induction A with
  |nil=>intro _;simp
  |cons k A u =>
   intro h;have y:=u λk hk=>h k (by simp[hk]);have z:0<Z k:=yV.2 (h k I);simp only[zP,zQ,zK];omega
 have:=this s.done j;simp only[zK];omega
theorem Zmq {d r:List Zi}{i:Nat}(hi:i<=Z d):((d++r).take (Z d)).drop i=d.drop i:=I
theorem EO {s:Ck Zi}{x:Zi}(h:s.cur=[]\/s.cost+cS x<=mem):Gf cS mem s x=⟨s.done,s.cur++[x],s.cost+cS x⟩:=by
 unfold Gf;rw[if_neg]
 rintro⟨h1,h2⟩
 rcases h with h|h
 ·exact h1 h
 ·omega
theorem ZhH {s:Ck Zi}{x:Zi}(j:s.cur≠[])(u:mem<s.cost+cS x):Gf cS mem s x=⟨s.done++[s.cur],[x],cS x⟩:=by
 unfold Gf;rw[if_pos ⟨j,u⟩]
theorem ZnP {d:List Zi}(j:YE d)(hd:CkOk cS mem d (ZV cS mem d)):YE (ZV cS mem d).cur:=λs hs=>j s (by
 have h:=hd.flat;rw[<-h];simp[hs])
theorem ZsQ {x:AV}(hx:SS x l)(hL:YE l)(hl:Z l<=1048576)(H0:Hp):∀ (r d:List Zi) (F:AV) (H:Hp),l=d++r->(∃ o,Rst o H F (ZV cS mem d).done) ->
 ∃ y H',FN (J O mem) x F (J O ((Z d-(ZV cS mem d).cur.length:Nat):Int)) (J O (ZV cS mem d).cost) x (J O (Z l:Int)) (J O (Z d:Int)) H0 H=K (y,H')/\LL H' y (Ty (ZV cS mem l)):=by
 have hn:=SS.len hx 9;intro r
 induction r with
 |nil =>
  intro d F H hd ⟨o,hr⟩;rw[zO]at hd;subst hd;have hok:=ZhI cS mem l;obtain⟨af,Q⟩:=Zfm hok;have M:decide ((Z l:Int)<(Z l:Int))=X:=I
  rw[Hr];simp only[go_sem,M,ZfS,hn,ZfT];by_cases h0:l=[]
  ·subst h0;have h1:decide ((0:Int)<((([]:List Zi).length:Nat):Int))=X:=rfl;simp only[h1,go_sem];exact⟨_,_,rfl,hr.ll⟩
  ·have h1:decide ((0:Int)<(Z l:Int))=U:=by have:=yV.2 h0;simp;exact this
   obtain⟨a,q1,E⟩:=hx.cut (i:=Z l-(ZV cS mem l).cur.length) (j:=Z l) Y (zE _);rw[List.take_length,Q]at E
   have z:(Zt 1 [(0,a)] [wB]).map (xQ 1 .clip)=K (.vs 1 .clip [a]):=by
    simp only[Zt,E.cell.1,E.cell.2];rfl
   obtain⟨o',x',H',p1,p2,p3,p4⟩:=hr.app E (by have:=Zn8 hok;omega);simp only[h1,go_sem,q1,z,p1];refine⟨_,_,rfl,?_⟩;unfold Ty;rw[if_neg (Zn7 cS mem h0)];exact p2.ll
 |cons s r ih =>
  intro d F H hd ⟨o,hr⟩;have hok:=ZhI cS mem d;obtain⟨af,Q⟩:=Zfm hok;have ac:YE d:=λt ht=>hL t (by rw[hd];simp[ht]);have ad:=Me _ (ZnP ac hok);rw[<-hok.cost]at ad;have hs:Z s<=1048576:=hL s (by rw[hd];simp);have hlen:Z l=Z d+(Z r+1):=by rw[hd];simp
  have M:decide ((Z d:Int)<(Z l:Int))=U:=by simp;omega
  have T:wD.wrap ((Z d:Int)+1)=((Z d+1:Nat):Int):=by rw[Zo Y Y];omega
  have ag:wD.wrap ((Z s:Int)+16)=cS s:=by rw[Zo Y Y];rfl
  have ai:cS s=(Z s:Int)+16:=rfl;have aa:wD.wrap ((ZV cS mem d).cost+cS s)=(ZV cS mem d).cost+cS s:=Zo Y Y;have ah:wD.wrap (0+cS s)=cS s:=by rw[Zo Y Y];omega
  have ae:l[Z d]?=K s:=by rw[hd,zF (zE _)];simp
  have ab:=SS.idx hx ae;have u:=λF H h=>ih (d++[s]) F H (by rw[hd];simp) h;simp only[eZ,zK,zT]at u;rw[Hr];simp only[go_sem,M,ZfU,ab,Zu,ag];by_cases hc:(ZV cS mem d).cur=[]
  ·have D:decide (((Z d-(ZV cS mem d).cur.length:Nat):Int)<(Z d:Int))=X:=by rw[hc];simp
   have C:=EO (mem:=mem) (s:=ZV cS mem d) (x:=s) (.inl hc);rw[C]at u;obtain⟨y,H',m1,m2⟩:=u F H ⟨o,hr⟩;refine⟨y,H',?_,m2⟩;simp only[D,go_sem,FX,aa,FW,T];rw[show Z d-(ZV cS mem d).cur.length=Z d+1-((ZV cS mem d).cur++[s]).length by rw[hc];simp];exact m1
  ·have D:decide (((Z d-(ZV cS mem d).cur.length:Nat):Int)<(Z d:Int))=U:=by have:=yV.2 hc;simp;omega
   by_cases hm:mem<(ZV cS mem d).cost+cS s
   ·have C:=ZhH (mem:=mem) hc hm;rw[C]at u;obtain⟨a,q1,E⟩:=hx.cut (i:=Z d-(ZV cS mem d).cur.length) (j:=Z d) Y Y;rw[hd,Zmq Y,Q]at E
    have z:(Zt 1 [(0,a)] [wB]).map (xQ 1 .clip)=K (.vs 1 .clip [a]):=by
     simp only[Zt,E.cell.1,E.cell.2];rfl
    obtain⟨o',x',H1,p1,p2,p3,p4⟩:=hr.app E (by have:=Zn8 hok;omega);obtain⟨y,H',m1,m2⟩:=u x' H1 ⟨o',p2⟩;refine⟨y,H',?_,m2⟩;simp only[D,go_sem,aa,decide_eq_true hm,q1,z,p1,FX,ah,FW,T];exact m1
   ·have C:=EO (mem:=mem) (s:=ZV cS mem d) (x:=s) (.inr Y);rw[C]at u;obtain⟨y,H',m1,m2⟩:=u F H ⟨o,hr⟩;refine⟨y,H',?_,m2⟩;simp only[D,go_sem,aa,decide_eq_false hm,FX,FW,T];rw[show Z d-(ZV cS mem d).cur.length=Z d+1-((ZV cS mem d).cur++[s]).length by simp];exact m1
theorem ZsP {x:AV}(hx:SS x l)(F:YE l)(hl:Z l<=1048576)(H:Hp):∃ y,Ze SH [x,J O mem] H=K (y,H)/\LsV y (Ty (ZV cS mem l)):=by
 obtain⟨T,D,E⟩:=SS.closed hx [] 0 7;obtain⟨x2,C,j⟩:=EP E hl [];obtain⟨y,H',M,Q⟩:=ZsQ (mem:=mem) j F hl [] l [] .nils [] rfl ⟨0,.inl ⟨rfl,.inl rfl⟩⟩;obtain⟨y',u,z⟩:=Q.close0;refine⟨y',?_,z⟩;refine JD (args':=[T,J O mem]) (H1:=H') (v:=y) (by rw[xI,D];rfl) ?_ u;rw[Zgu];unfold nX;simp only[C,go_sem,SS.len j 9];exact M
def ApS (H:Hp)(a:AV)(l:List Zi):Prop:=(∃ t e,a=.vs 1 (.own t e) (l.map zJ)/\H[t]?=K (.tok e))\/a=.vs 1 .clip (l.map zJ)
theorem ApS.ss {H:Hp}{a:AV}{l:List Zi}(h:ApS H a l):SS a l:=by
 rcases h with ⟨t,e,rfl,_⟩|rfl
 ·exact .inr ⟨_,rfl⟩
 ·exact .inr ⟨_,rfl⟩
theorem ApS.app {H:Hp}{a:AV}{l:List Zi}(h:ApS H a l)(s:Zi)(hl:Z l<=1048576) :
 ∃ (a':AV) (H':Hp),ZR 1 16 a (.vs 1 .clip [.str s]) H=K (a',H')/\ApS H' a' (l++[s])/\∀ (o e:Nat) (y:c6),H[o]?=K (yM e y)->H'[o]?=K (yM e y):=by
 unfold ZR;have z:Go.Am.elems 1 (.vs 1 .clip [.str s]) H=K [.str s]:=rfl;rw[z];have j:YB ((l.map zJ).length+[zJ s].length) 16=U:=by simp[YB];omega
 rcases h with ⟨t,e,rfl,C⟩|rfl
 ·refine⟨.vs 1 (.own t (e+1)) (l.map zJ++[.str s]),H.set t (.tok (e+1)),?_,.inl ⟨t,e+1,I,Zs _ C⟩,λo D y u=>?_⟩
  ·simp only[Ys,j,and_self,if_true,C];rw[if_neg I];rfl
  ·refine Y2 _ (λz=>?_) u;subst z;rw[C]at u;cases u
 ·refine⟨.vs 1 (.own (Z H) ((l.map zJ).length+1)) (l.map zJ++[.str s]),H++[.tok ((l.map zJ).length+1)],?_,.inl ⟨Z H,(l.map zJ).length+1,I,I⟩,λo D y u=>Y8 u _⟩;simp only[Ys,j,and_self,if_true];rw[if_neg I];rfl
def RowL (H:Hp)(x:AV)(A:List (List Zi))(k:List Zi):Prop:=∃ o e j a,x=.ws X 1 o e (Z A+1)/\H[o]?=K (.row e (j++[a]))/\EE j A/\ApS H a k
theorem RowL.rst {H:Hp}{x:AV}{A:List (List Zi)}{k:List Zi}(h:RowL H x A k):∃ o,Rst o H x (A++[k]):=by
 obtain⟨o,e,j,a,rfl,u,y,z⟩:=h;exact⟨o,.inr ⟨e,j++[a],I,u,y.app z.ss⟩⟩
theorem ZpQ {x:AV}(hx:SS x l)(hL:YE l)(hl:Z l<=1048576)(H0:Hp):∀ (r d:List Zi) (x5:AV) (H:Hp),l=d++r->(d=[]/\x5=.nils\/d≠[]/\RowL H x5 (ZV cS mem d).done (ZV cS mem d).cur) ->
 ∃ y H',Tl x (J O mem) x5 (J O (ZV cS mem d).cost) (J O (Z d:Int)) H0 H=K (y,H')/\LL H' y (Ty (ZV cS mem l)):=by
 have hn:=SS.len hx 9;intro r
 induction r with
 |nil =>
  intro d x5 H hd Q;rw[zO]at hd;subst hd;have M:decide ((Z l:Int)<(Z l:Int))=X:=I
  rw[AK];simp only[go_sem,hn,M,Zhf];refine⟨_,_,rfl,?_⟩;rcases Q with ⟨rfl,rfl⟩|⟨h0,Q⟩
  ·exact .inl ⟨rfl,.inl rfl⟩
  ·obtain⟨o,ho⟩:=Q.rst;unfold Ty;rw[if_neg (Zn7 cS mem h0)];exact ho.ll
 |cons s r ih =>
  intro d x5 H hd Q;have hok:=ZhI cS mem d;obtain⟨aw,ax⟩:=Zfm hok;have ag:YE d:=λt ht=>hL t (by rw[hd];simp[ht]);have ai:=Me _ (ZnP ag hok);rw[<-hok.cost]at ai;have hs:Z s<=1048576:=hL s (by rw[hd];simp);have hlen:Z l=Z d+(Z r+1):=by rw[hd];simp
  have M:decide ((Z d:Int)<(Z l:Int))=U:=by simp;omega
  have T:wD.wrap ((Z d:Int)+1)=((Z d+1:Nat):Int):=by rw[Zo Y Y];omega
  have ao:wD.wrap ((Z s:Int)+16)=cS s:=by rw[Zo Y Y];rfl
  have ar:cS s=(Z s:Int)+16:=rfl;have af:wD.wrap ((ZV cS mem d).cost+cS s)=(ZV cS mem d).cost+cS s:=Zo Y Y;have aj:l[Z d]?=K s:=by rw[hd,zF (zE _)];simp
  have ad:=SS.idx hx aj;have j:=λx5 H h=>ih (d++[s]) x5 H (by rw[hd];simp) (.inr ⟨I,h⟩);simp only[eZ,zK,zT]at j;have C:(Zt 1 [(0,zJ s)] [zJ []]).map (xQ 1 .clip)=K (.vs 1 .clip [.str s]):=rfl;have E:(Zt 1 [(0,xQ 1 .clip [.str s])] [wB]).map (xQ 1 .clip)=K (.vs 1 .clip [.vs 1 .clip [.str s]]):=rfl;rw[AK];simp only[go_sem,hn,M,Zhg,ad,Zu,ao];rcases Q with ⟨rfl,rfl⟩|⟨h0,Q⟩
  ·have z:=EO (mem:=mem) (s:=ZV cS mem []) (x:=s) (.inl rfl);rw[z]at j;have al:decide ((0:Int)<0)=X:=rfl;have hR:Rst 0 H .nils []:=.inl ⟨rfl,.inl rfl⟩;have aq:(Zt 1 [(0,zJ s)] [zJ []]).map (xQ 1 .clip)=K (.vs 1 .clip [.str s]):=rfl
   have u:Xu X 1 24 .nils (.vs 1 .clip [.vs 1 .clip [.str s]]) H=K (.ws X 1 (Z H) 0 1,H++[.row 0 [.vs 1 .clip [.str s]]]):=by
    unfold Xu;have he:Go.Am.elems 1 (.vs 1 .clip [.vs 1 .clip [.str s]]) H=K [.vs 1 .clip [.str s]]:=rfl;rw[he];dsimp only;unfold QH;dsimp only;rw[if_neg I,if_pos (show YB _ 24=U from rfl)];rfl
   obtain⟨y,H',m1,m2⟩:=j (.ws X 1 (Z H) 0 1) (H++[.row 0 [.vs 1 .clip [.str s]]]) ⟨Z H,0,[],.vs 1 .clip [.str s],rfl,I,EE.nil,.inr rfl⟩;refine⟨y,H',?_,m2⟩;simp only[al,go_sem,C,E,u,Tj,T];have:(ZV cS mem []).cost+cS s=cS s:=by show 0+cS s=cS s;omega
   rw[this]at m1;exact m1
  ·obtain⟨o,e,D,a,rfl,k2,k3,k4⟩:=Q;have an:=Zn7 cS mem h0;have au:=Zn8 hok;have ac:decide ((0:Int)<(((ZV cS mem d).done.length+1:Nat):Int))=U:=by rw[decide_eq_true_eq];omega
   have ab:Zk (.slice 29) (.ws X 1 o e ((ZV cS mem d).done.length+1))=K (J O (((ZV cS mem d).done.length+1:Nat):Int)):=rfl;have ap:wD.wrap ((((ZV cS mem d).done.length+1:Nat):Int)-1)=((ZV cS mem d).done.length:Int):=by rw[Zo Y Y];omega
   have ak:Zj 1 (.ws X 1 o e ((ZV cS mem d).done.length+1)) (J O ((ZV cS mem d).done.length:Int))=K (.wp o e ((ZV cS mem d).done.length*1)):=Zgb Y;by_cases hm:mem<(ZV cS mem d).cost+cS s
   ·have z:=ZhH (mem:=mem) an hm;rw[z]at j;have F:decide ((ZV cS mem d).cost+cS s<=mem)=X:=by simp;omega
    have u:Xu X 1 24 (.ws X 1 o e ((ZV cS mem d).done.length+1)) (.vs 1 .clip [.vs 1 .clip [.str s]]) H=K (.ws X 1 o (e+1) ((ZV cS mem d).done.length+1+1),H.set o (.row (e+1) (D++[a]++[.vs 1 .clip [.str s]]))):=by
     unfold Xu;have he:Go.Am.elems 1 (.vs 1 .clip [.vs 1 .clip [.str s]]) H=K [.vs 1 .clip [.str s]]:=rfl;rw[he];dsimp only;unfold QH;dsimp only;rw[if_pos ⟨rfl,rfl,by simp[YB];omega⟩,if_neg I,k2];dsimp only;rw[if_pos ⟨rfl,by simp[k3.len]⟩,Nat.mul_one,cJ,List.take_of_length_le (by simp[k3.len])];rfl
    obtain⟨y,H',m1,m2⟩:=j (.ws X 1 o (e+1) ((ZV cS mem d).done.length+1+1)) (H.set o (.row (e+1) (D++[a]++[.vs 1 .clip [.str s]]))) ⟨o,e+1,D++[a],.vs 1 .clip [.str s],I,Zs _ k2,k3.app k4.ss,.inr rfl⟩;refine⟨y,H',?_,m2⟩;simp only[ab,ac,go_sem,af,F,C,E,u,Tj,T];simpa using m1
   ·have z:=EO (mem:=mem) (s:=ZV cS mem d) (x:=s) (.inr Y);rw[z]at j;have F:decide ((ZV cS mem d).cost+cS s<=mem)=U:=by simp;omega
    have am:Z2 X 1 (.wp o e ((ZV cS mem d).done.length*1)) H=K a:=ZkR k2 (by rw[<-k3.len,zF (zE _)];simp);obtain⟨a',H1,p1,p2,p3⟩:=k4.app s Y;have aa:=p3 o e _ k2;have hsto:=ZoJ (a:=a') aa p2.ss.cell (i:=(ZV cS mem d).done.length) (by simp[k3.len]);have ae:(D++[a]).set (ZV cS mem d).done.length a'=D++[a']:=by rw[<-k3.len];simp
    rw[ae]at hsto
    have ah:ApS (H1.set o (.row e (D++[a']))) a' ((ZV cS mem d).cur++[s]):=by
     rcases p2 with ⟨t,e',q1,q2⟩|q
     ·refine .inl ⟨t,e',q1,Y2 _ (λhe=>?_) q2⟩;subst he;rw[aa]at q2;cases q2
     ·exact .inr q
    obtain⟨y,H',m1,m2⟩:=j (.ws X 1 o e ((ZV cS mem d).done.length+1)) (H1.set o (.row e (D++[a']))) ⟨o,e,D,a',rfl,Zs _ aa,k3,ah⟩;refine⟨y,H',?_,m2⟩;simp only[ab,ac,go_sem,af,F,ap,ak,am,C,p1,hsto,Tj,T];exact m1
theorem ZpP {x:AV}(hx:SS x l)(D:YE l)(hl:Z l<=1048576)(H:Hp):∃ y,Ze IZ [x,J O mem] H=K (y,H)/\LsV y (Ty (ZV cS mem l)):=by
 obtain⟨M,z,C⟩:=SS.closed hx [] 0 7;obtain⟨y,H',E,F⟩:=ZpQ (mem:=mem) C D hl [] l [] .nils [] rfl (.inl ⟨rfl,rfl⟩);obtain⟨Q,j,u⟩:=F.close0;refine⟨Q,?_,u⟩;refine JD (args':=[M,J O mem]) (H1:=H') (v:=y) (by rw[xI,z];rfl) ?_ j;rw[Zjo];unfold Zdk;exact E
end
theorem ZfC {l:List Fil}{n:Zx}(h:Y5 l n=V)(f:Fil)(j:f.name=n):Y5 (l++[f]) n=K f:=by
 induction l with
 |nil=>simp[Y5,j]
 |cons g l u =>
  unfold Y5 at h;split at h
  ·cases h
  ·rename_i hn;rw[zR,Y5,if_neg hn];exact u h
theorem Zg8 {l:List Fil}{n:Zx}(h:Y5 l n=V)(f:Fil)(j:f.name=n)(u:Fil->Fil):Ra (l++[f]) n u=l++[u f]:=by
 induction l with
 |nil=>simp[Ra,j]
 |cons g l y =>
  unfold Y5 at h;split at h
  ·cases h
  ·rename_i hn;rw[zR,Ra,if_neg hn,y h];rfl
section
variable {tm:Tmp}{s:Sto}{n:Zx}
theorem Zzu (hc:s.crashed=X)(h0:s.count=0)(hcl:tm.closed=X)(hn:n=Ua tm.owner (tm.last+1))(hb:FK n=U)(hg:Y5 s.files n=V)(j:Z s.files<64) :
 Pc tm s=((n,0),({ tm with last:=tm.last+1,names:=tm.names++[n] },{ s with files:=s.files++[⟨n,[],0⟩] })):=by
 subst hn;unfold Pc;rw[if_neg (by simp[hcl])]
 have:s.create (Ua tm.owner (tm.last+1))=(0,{ s with files:=s.files++[⟨Ua tm.owner (tm.last+1),[],0⟩] }):=by
  unfold Sto.create;rw[JX hc h0,if_neg (by simp[hc]),if_neg (by simp[hb]),hg];dsimp only;rw[if_neg Y]
 rw[this];rfl
theorem Zvp {fs:List Fil}(hc:s.crashed=X)(h0:s.count=0)(hcl:tm.closed=X)(hn:n∈tm.names)(hs:n∉tm.sld)(j:s.files=fs++[⟨n,[],0⟩])(hg:Y5 fs n=V){l:List Zx}(u:X5 l=U)(hl:ZB fs+ZJ l<=s.limit)(D:ZB fs+ZJ l<=tm.limit) :
 B8 tm s n l=(0,{ s with files:=fs++[⟨n,Y1 l,0⟩],peak:=max s.peak (ZB fs+ZJ l) }):=by
 have z:ZB s.files=ZB fs:=by rw[j,Wn];simp[ZB]
 have y:Yp tm n=0:=by unfold Yp;rw[if_neg (by simp[hcl]),if_pos hn]
 have C:=iY tm.names s.files;unfold B8;rw[if_neg (by simp[y]),if_neg hs,if_neg (by simp[u]),if_neg (by unfold Ur;omega)];unfold Sto.append;rw[JX hc h0,if_neg (by simp[hc]),j,ZfC hg _ rfl];dsimp only;rw[<-j,z,Wc,if_neg Y,j,Zg8 hg _ rfl];rfl
theorem Zop {fs:List Fil}{x:Zx}{k:Nat}(hc:s.crashed=X)(h0:s.count=0)(hcl:tm.closed=X)(hn:n∈tm.names)(j:s.files=fs++[⟨n,x,k⟩])(hg:Y5 fs n=V) :
 Pd tm s n=(0,({ tm with sld:=eS tm.sld n },{ s with files:=fs++[⟨n,x,Z x⟩] })):=by
 have y:Yp tm n=0:=by unfold Yp;rw[if_neg (by simp[hcl]),if_pos hn]
 have u:s.sync n=(0,{ s with files:=fs++[⟨n,x,Z x⟩] }):=by
  unfold Sto.sync;rw[JX hc h0,if_neg (by simp[hc]),j,ZfC hg _ rfl];dsimp only;rw[Zg8 hg _ rfl]
 unfold Pd;rw[if_neg (by simp[y]),u];rfl
end
theorem SysAt.frame {H H':Hp}{o t:Nat}{tm:Tmp}{s:Sto}{A:da}(h:SysAt H o t tm s A)(u:∀ a∈A,H'[a]?=H[a]?):SysAt H' o t tm s A:=by
 obtain⟨B,S,⟨D,j,E,sl,y,rfl⟩,z,C,rfl⟩:=h;exact⟨_,S,⟨D,j,E,sl,y.frame λa ha=>u a (by simp only[zB];exact .inl ha),rfl⟩,z.frame λa ha=>u a (by simp[ha]),C,rfl⟩
theorem ZbF (L:Loc)(p:Spec)(l:List Zi):∀ s∈ZX L p l,s∈l:=by
 intro s hs;unfold ZX at hs;split at hs
 ·exact hs
 ·split at hs
  ·rcases Zlr _ _ s hs with h|h
   ·cases h
   ·exact (Iu L p l).2 s h
  ·exact (Iu L p l).2 s hs
theorem ZtK (t:Tok)(l:c6)(H:Hp):CD [.vs 1 t l] H=(match Pa l with
 |some _=>if l=[] then K (.vs 1 .no [],H) else if Z l<=1099511627776 then K (.ws X 1 (Z H) 0 (Z l),H++[.row 0 l]) else V
 |none=>V):=rfl
theorem ZwH (o e n q:Nat)(H:Hp):fN [.ws X 1 o e n,.fn (.func 54) [] [.ptr q 0]] H=(match H[o]? with
 |some (.row e' l)=>match Pa l with
  |some ls=>match H[q]? with
   |some (.cells [.str nm])=>if e'=e/\n=Z l/\o≠q/\Z l<=1099511627776 then K (.vs 1 (.own o (e+2)) ((WA nm ls).map zJ),H.set o (.tok (e+2))) else V
   |_=>V
  |none=>V
 |_=>V):=rfl
theorem Zi9 {H:Hp}{o t j z:Nat}{nx:AV}{sl:List (Zx×Nat)}{tm:Tmp}(h:TmAt H o t j z nx sl tm)(hm:TmpOk tm)(n:Zx)(ae:tm.names≠[]) :
 ∃ (H':Hp) (aj:AV) (y:List (Zx×Nat)),forgetE.run [.ptr o 0,.str n] H=K (.tuple [],H')/\TmAt H' o t j z aj y { tm with names:=WA n tm.names,sld:=y.map (·.1) }/\Stp (o::j::ZN nx) H H'/\(∀ a∈ZN aj,Z H<=a)/\(∀ x∈y.map (·.1),x∈sl.map (·.1)):=by
 have ad:=h.lt;have ay:o<Z H:=ad o I;have aq:j<Z H:=ad j I;have F:o≠j:=λe=>by have:=h.nd;simp[e]at this
 have hkl:=hm.len;have ax:=hm.last
 obtain⟨u,e,rfl,hu⟩:∃ u e,nx=.vs 1 (.own u e) (tm.names.map zJ)/\H[u]?=K (.tok e):=by
  rcases h.names with ⟨_,e⟩|h
  ·exact absurd e ae
  ·exact h
 have af:tm.names.map zJ≠[]:=λe=>ae (List.map_eq_nil_iff.1 e);have am:(H++[zA [.str n]])[o]?=K (.cells [.ptr t 0,.str tm.owner,.vs 1 (.own u e) (tm.names.map zJ),.map j,J O (tm.limit:Int),J O (tm.last:Int),.bool tm.closed]):=Y8 h.cells _;have l2:=ZU am 2 (v:=.vs 1 (.own u e) (tm.names.map zJ)) rfl;have ao:(H++[zA [.str n]]).length=Z H+1:=I
 have hcl:cloneE.run [.vs 1 (.own u e) (tm.names.map zJ)] (H++[zA [.str n]])=K (.ws X 1 (Z H+1) 0 (Z tm.names),H++[zA [.str n]]++[yM 0 (tm.names.map zJ)]):=by
  rw[show cloneE.run=CD from rfl];rw[ZtK,ZiU];dsimp only;rw[if_neg af,zN,if_pos Y,ao]
 have hr:(H++[zA [.str n]]++[yM 0 (tm.names.map zJ)])[Z H+1]?=K (.row 0 (tm.names.map zJ)):=by
  rw[zF I];simp
 have hq:(H++[zA [.str n]]++[yM 0 (tm.names.map zJ)])[Z H]?=K (.cells [.str n]):=by
  rw[zW I];simp
 have ac:delE.run [.ws X 1 (Z H+1) 0 (Z tm.names),.fn (.func 54) [] [.ptr (Z H) 0]] (H++[zA [.str n]]++[yM 0 (tm.names.map zJ)]) =
  K (.vs 1 (.own (Z H+1) 2) ((WA n tm.names).map zJ),(H++[zA [.str n]]++[yM 0 (tm.names.map zJ)]).set (Z H+1) (xR 2)):=by
  rw[show delE.run=fN from rfl];rw[ZwH,hr];dsimp only;rw[ZiU,hq];dsimp only;rw[if_pos ⟨rfl,by rw[zN],Y,by rw[zN];omega⟩]
 have C:Stp [] H ((H++[zA [.str n]]++[yM 0 (tm.names.map zJ)]).set (Z H+1) (xR 2)):=⟨I,λi hi _=>by
  rw[xJ Y,zW (by simp;omega),zW hi]⟩
 have ag:((H++[zA [.str n]]++[yM 0 (tm.names.map zJ)]).set (Z H+1) (xR 2))[Z H]?=K (.cells [.str n]):=Y2 _ Y hq;have ai:((H++[zA [.str n]]++[yM 0 (tm.names.map zJ)]).set (Z H+1) (xR 2))[Z H+1]?=K (.tok 2):=Zs _ hr;generalize au:(H++[zA [.str n]]++[yM 0 (tm.names.map zJ)]).set (Z H+1) (.tok 2)=T at ac C ag ai;have ab:=C.get h.cells I;have ap:T[j]?=K (.map (sl.map VS) z):=(C.at' j aq I).trans h.map;have s2:=Vb ab 2 (v:=.vs 1 (.own (Z H+1) 2) ((WA n tm.names).map zJ)) rfl rfl I;have E:=Zs (zA (zS [.ptr t 0,.str tm.owner,.vs 1 (.own u e) (tm.names.map zJ),.map j,J O (tm.limit:Int),J O (tm.last:Int),.bool tm.closed] 2 (.vs 1 (.own (Z H+1) 2) ((WA n tm.names).map zJ)))) ab;have D:=Y2 (zA (zS [.ptr t 0,.str tm.owner,.vs 1 (.own u e) (tm.names.map zJ),.map j,J O (tm.limit:Int),J O (tm.last:Int),.bool tm.closed] 2 (.vs 1 (.own (Z H+1) 2) ((WA n tm.names).map zJ)))) F ap;have ah:=Y2 (zA (zS [.ptr t 0,.str tm.owner,.vs 1 (.own u e) (tm.names.map zJ),.map j,J O (tm.limit:Int),J O (tm.last:Int),.bool tm.closed] 2 (.vs 1 (.own (Z H+1) 2) ((WA n tm.names).map zJ)))) (show o≠Z H by omega) ag;have M:=Y2 (zA (zS [.ptr t 0,.str tm.owner,.vs 1 (.own u e) (tm.names.map zJ),.map j,J O (tm.limit:Int),J O (tm.last:Int),.bool tm.closed] 2 (.vs 1 (.own (Z H+1) 2) ((WA n tm.names).map zJ)))) (show o≠Z H+1 by omega) ai;have aa:Stp [o] T (T.set o (.cells (zS [.ptr t 0,.str tm.owner,.vs 1 (.own u e) (tm.names.map zJ),.map j,J O (tm.limit:Int),J O (tm.last:Int),.bool tm.closed] 2 (.vs 1 (.own (Z H+1) 2) ((WA n tm.names).map zJ))))):=Stp.set _ _ I;generalize aw:T.set o (.cells (zS [.ptr t 0,.str tm.owner,.vs 1 (.own u e) (tm.names.map zJ),.map j,J O (tm.limit:Int),J O (tm.last:Int),.bool tm.closed] 2 (.vs 1 (.own (Z H+1) 2) ((WA n tm.names).map zJ))))=H4 at s2 E D ah M aa;have l3:=ZU E 3 (v:=.map j) rfl;have lq:=ZU ah 0 (v:=.str n) rfl
 obtain⟨Q,y,d1,d2,d3,d4⟩:∃ (Q:Hp) (y:List (Zx×Nat)),J7 .string (.map j) (.str n) H4=K (.tuple [],Q)/\Q[j]?=K (.map (y.map VS) z)/\Stp [j] H4 Q/\(∀ x∈y.map (·.1),x∈sl.map (·.1)):=by
  have an:Wo .string (.str n)=U:=rfl;unfold J7;dsimp only;rw[D];dsimp only;rw[if_pos an];rcases Zfv sl n 0 with ⟨_,hf⟩|⟨a,p,b,rfl,_,_,hf⟩
  ·rw[hf];exact⟨_,sl,rfl,Zs _ D,Stp.set _ _ I,λ_ h=>h⟩
  ·rw[hf];dsimp only;refine⟨_,a++b,rfl,?_,Stp.set _ _ I,λx hx=>by simp only[zY,zM,zB,zC]at hx ⊢;rcases hx with h|h;exact .inl h;exact .inr (.inr h)⟩;rw[Zs _ D,zI,zY,zM,show Z a=(a.map VS).length by simp,ZaA,zY]
 have ak:Stp (o::j::ZN (.vs 1 (.own u e) (tm.names.map zJ))) H Q:=by
  have x1:Stp (o::j::ZN (.vs 1 (.own u e) (tm.names.map zJ))) H T:=C.mono λa ha=>by cases ha
  have x2:=x1.trans aa (λ_ h=>h) λa ha=>.inl (by rw[zD.1 ha];simp);exact x2.trans d3 (λ_ h=>h) λa ha=>.inl (by rw[zD.1 ha];simp)
 refine⟨Q,.vs 1 (.own (Z H+1) 2) ((WA n tm.names).map zJ),y,?_,⟨d3.get E (by simpa using F),.inr ⟨_,_,rfl,(d3.at' _ (Zn M) (by simp;omega)).trans M⟩,d2,rfl,?_⟩,ak,λa ha=>?_,d4⟩
 ·rw[ZrK];unfold Fg.F_tempfile_owned_forget;have al:ZF (.str n) H=K (.ptr (Z H) 0,H++[.cells [.str n]]):=GG rfl;have ar:Z2 X 1 (.ptr o 2) (H++[zA [zJ n]])=K (.vs 1 (.own u e) (tm.names.map zJ)):=l2;simp only[al,go_sem,zI,ar,hcl,ac,s2,l3,lq,d1]
 ·have:Z H+1≠o/\Z H+1≠j:=Y
  simp[ZN,F,Ne.symm this.1,Ne.symm this.2]
 ·simp[ZN]at ha;omega
theorem ZAi {l:List Fil}{n m:Zx}(h:m≠n):Y5 (Vt l n) m=Y5 l m:=by
 induction l with
 |nil=>rfl
 |cons f l u =>
  rw[Vt];split
  ·rename_i j;rw[Y5,if_neg (by rw[<-j];exact h)]
  ·rw[Y5,Y5,u]
theorem Zzr (l:List Fil)(n:Zx):List.Sublist (Vt l n) l:=by
 induction l with
 |nil=>exact wC _
 |cons f l j =>
  rw[Vt];split
  ·exact List.sublist_cons_self _ _
  ·exact j.cons_cons _
theorem ZxQ (l:List Fil)(n:Zx):ZB (Vt l n)<=ZB l:=by
 induction l with
 |nil=>exact zE _
 |cons f l j =>
  rw[Vt];split
  ·simp only[ZB];omega
  ·simp only[ZB];omega
theorem ZAD {s:Sto}(hk:StoOk s)(n:Zx):StoOk { s with files:=Vt s.files n }:=by
 have hs:=Zzr s.files n;have z:=ZxQ s.files n;have u:=hk.used;have y:=hk.len;exact⟨hk.limit,by show ZB (Vt s.files n)<=s.limit;omega,hk.peak,λf j=>hk.name f (hs.subset j),hk.nd.sublist (hs.map _),λf j=>hk.syn f (hs.subset j),by have:=hs.length_le;show (Vt s.files n).length<=64;omega,hk.count⟩
theorem ZrU {n:Zx}{ns:List Zx}(h:(n::ns).Nodup):WA n (n::ns)=ns:=by
 unfold WA;rw[List.filter_cons_of_neg I];rw[yW];intro m hm;have:m≠n:=λe=>(zZ.1 h).1 (e ▸ hm);simp[this]
theorem Zre {o t:Nat}(H0:Hp):∀ (k:Nat) (tm:Tmp) (s:Sto) (A:da) (H:Hp),Z tm.names=k->SysAt H o t tm s A->TmpOk tm->StoOk s->s.crashed=X->s.count=0->tm.names.Nodup->(∀ n∈tm.names,Y5 s.files n≠V)->tm.closed=X ->
 ∃ H' A' ag s',WZ (.ptr o 0) H0 H=K (J O 0,H')/\SysRes H H' o t ag s' A A'/\TmpOk ag/\StoOk s'/\ag.closed=U/\s'.crashed=X/\s'.count=0/\s'={ s with files:=tm.names.foldl Vt s.files }:=by
 intro k
 induction k with
 |zero =>
  intro tm s A H hn h hm hk hc h0 hnd hf hcl;have ak:tm.names=[]:=xE.1 hn;have h':=h;obtain⟨B,S,⟨j,D,z,sl,u,rfl⟩,h2,h3,rfl⟩:=h;have l2:=ZU u.cells 2 (v:=z) rfl;have ac:=SS.len u.names.ss 9;have ad:decide ((0:Int)<(Z tm.names:Int))=X:=by rw[ak];rfl
  have s6:=Vb u.cells 6 (v:=.bool U) rfl rfl I;have g6:=Zs (zA (zS [.ptr t 0,.str tm.owner,z,.map j,J O (tm.limit:Int),J O (tm.last:Int),.bool tm.closed] 6 (.bool U))) u.cells;have hS:Stp [o] H (H.set o (.cells (zS [.ptr t 0,.str tm.owner,z,.map j,J O (tm.limit:Int),J O (tm.last:Int),.bool tm.closed] 6 (.bool U)))):=Stp.set _ _ I;generalize bd:H.set o (.cells (zS [.ptr t 0,.str tm.owner,z,.map j,J O (tm.limit:Int),J O (tm.last:Int),.bool tm.closed] 6 (.bool U)))=H1 at s6 g6 hS;have al:=u.nd
  have an:∀ a∈j::ZN z,a∉[o]:=λa ha hx=>by
   rw[zD.1 hx]at ha;exact (zZ.1 al).1 ha
  have Q:=u.lt;have az:o∉S:=h3 o I;refine⟨H1,(o::j::ZN z)++S,{ tm with closed:=U },s,?_,⟨⟨o::j::ZN z,S,⟨j,D,z,sl,⟨g6,u.names.frame λa ha=>hS.at' a (Q a (by simp[ha])) (an a (by simp[ha])),(hS.at' j (Q j I) (an j I)).trans u.map,u.sld,u.nd⟩,rfl⟩,h2.stp hS (λa ha hx=>az (by rw[zD.1 hx]at ha;exact ha)),h3,rfl⟩,hS.mono λa ha=>by rw[zD.1 ha];simp,λa ha=>.inl ha⟩,⟨hm.owner,hm.limit,hm.len,hm.last⟩,hk,rfl,hc,h0,by rw[ak];rfl⟩;rw[Kd];simp only[go_sem,zI,l2,ac,ad,LK,s6]
 |succ k ih =>
  intro tm s A H hn h hm hk hc h0 hnd hf hcl
  obtain⟨n,ns,y⟩:∃ n ns,tm.names=n::ns:=by
   cases hx:tm.names with
   |nil=>rw[hx]at hn;cases hn
   |cons n ns=>exact⟨n,ns,rfl⟩
  have bc:=h;obtain⟨B,S,⟨j,D,z,sl,u,rfl⟩,h2,h3,rfl⟩:=h;have l2:=ZU u.cells 2 (v:=z) rfl;have l0:=ZU u.cells 0 (v:=.ptr t 0) rfl;have ac:=SS.len u.names.ss 9;have au:=SS.idx u.names.ss (i:=0) (s:=n) (by rw[y];rfl);have ad:decide ((0:Int)<(Z tm.names:Int))=U:=by rw[hn];simp
  have hgn:Y5 s.files n≠V:=hf n (by rw[y];simp);obtain⟨f,ar⟩:=Option.ne_none_iff_exists'.1 hgn
  have ao:s.remove n=(0,{ s with files:=Vt s.files n }):=by
   unfold Sto.remove;rw[JX hc h0,if_neg (by simp[hc]),ar]
  obtain⟨H1,S1,r1,T⟩:=Zhq h2 hk n;rw[ao]at r1 T;have ba:=SysAt.store (o:=o) (tm:=tm) ⟨j,D,z,sl,u,rfl⟩ h3 T;have ap:TmAt H1 o t j D z sl tm:=u.frame λa ha=>T.stp.at' a (u.lt a ha) (h3 a ha);obtain⟨H2,F,M,q1,q2,q3,q4,_⟩:=Zi9 ap hm n (by rw[y];simp);have aw:WA n tm.names=ns:=by rw[y]at hnd ⊢;exact ZrU hnd
  rw[aw]at q2;have aa:=T.at'.lt
  have ab:∀ a∈o::j::ZN z,a∉S1:=λa ha hs=>by
   rcases T.own a hs with C|C
   ·exact h3 a ha C
   ·have:=u.lt a ha;omega
  have ae:StoreAt H2 t { s with files:=Vt s.files n } S1:=T.at'.stp q3 λa ha hx=>ab a hx ha;have bf:=q3.len
  have aq:∀ a∈o::j::ZN F,a∉S1:=λa ha hs=>by
   rcases zC.1 ha with e|ha
   ·exact ab a (by simp[e]) hs
   rcases zC.1 ha with e|ha
   ·exact ab a (by simp[e]) hs
   ·have:=q4 a ha;have:=aa a hs;omega
  have af:SysAt H2 o t { tm with names:=ns,sld:=M.map (·.1) } { s with files:=Vt s.files n } ((o::j::ZN F)++S1):=⟨_,S1,⟨j,D,F,M,q2,rfl⟩,ae,aq,rfl⟩;have hlen:=hm.len;have hnl:Z ns=k:=by rw[y]at hn;simpa using hn
  have ax:TmpOk { tm with names:=ns,sld:=M.map (·.1) }:=⟨hm.owner,hm.limit,by show Z ns<=tm.last;omega,hm.last⟩;have am:ns.Nodup:=by rw[y]at hnd;exact (zZ.1 hnd).2
  obtain⟨H3,A3,bb,s3,m1,m2,m3,m4,m5,m6,m7,m8⟩:=ih { tm with names:=ns,sld:=M.map (·.1) } { s with files:=Vt s.files n } _ H2 hnl af ax (ZAD hk n) hc h0 am (λm aj=>by
   have ay:m≠n:=λe=>by rw[y]at hnd;exact (zZ.1 hnd).1 (e ▸ aj)
   show Y5 (Vt s.files n) m≠V;rw[ZAi ay];exact hf m (by rw[y];simp[aj])) hcl
  have be:=T.stp.len
  have E:∀ a∈(o::j::ZN F)++S1,a∈(o::j::ZN z)++S\/Z H<=a:=λa ha=>by
   rcases zB.1 ha with C|C
   ·rcases zC.1 C with e|C
    ·exact .inl (by simp[e])
    rcases zC.1 C with e|C
    ·exact .inl (by simp[e])
    ·have:=q4 a C;exact .inr Y
   ·rcases T.own a C with k2|k2
    ·exact .inl (by simp[k2])
    ·exact .inr k2
  have ah:Stp ((o::j::ZN z)++S) H H2:=ba.stp.trans q3 (λ_ h=>h) λa ha=>.inl (yN _ ha);have e0:((0:Int) != 0)=X:=rfl;refine⟨H3,A3,bb,s3,?_,⟨m2.at',ah.trans m2.stp (λ_ h=>h) E,λa ha=>?_⟩,m3,m4,m5,m6,m7,by rw[m8,y];rfl⟩
  ·have ai:Zj 1 z (J O 0)=K (.vp [.str n]):=au;rw[Kd];simp only[go_sem,zI,l2,ac,ad,LM,ai,Zu,l0,r1,e0,LN,q1];exact m1
  ·rcases m2.own a ha with C|C
   ·exact E a C
   ·have:=ah.len;exact .inr Y
theorem Zt7 {o t:Nat}{tm:Tmp}{s:Sto}{A:da}{H:Hp}(h:SysAt H o t tm s A)(hm:TmpOk tm)(hk:StoOk s)(hc:s.crashed=X)(h0:s.count=0)(hnd:tm.names.Nodup)(C:∀ n∈tm.names,Y5 s.files n≠V)(hcl:tm.closed=X) :
 ∃ H' A' j s',Vd [.ptr o 0] H=K (J O 0,H')/\SysRes H H' o t j s' A A'/\TmpOk j/\StoOk s'/\j.closed=U/\s'.crashed=X/\s'.count=0/\s'={ s with files:=tm.names.foldl Vt s.files }:=by
 obtain⟨H',A',j,s',m⟩:=Zre (o:=o) (t:=t) H (Z tm.names) tm s A H rfl h hm hk hc h0 hnd C hcl;refine⟨H',A',j,s',?_,m.2⟩;obtain⟨B,S,⟨M,y,Q,sl,z,rfl⟩,E,F,rfl⟩:=h;have u:YJ (.pointer 85) .eql (.ptr o 0) .nilp=K (.bool X):=rfl;have D:=ZU z.cells 6 (v:=.bool X) (by rw[hcl];rfl);rw[EC];unfold Du;simp only[u,go_sem,LI,zI,D,LJ];exact m.1
theorem ZqF {H:Hp}{o t:Nat}{tm:Tmp}{s:Sto}{A:da}(h:SysAt H o t tm s A)(hm:TmpOk tm)(hk:StoOk s)(hc:s.crashed=X)(h0:s.count=0){n:Zx}(hf:Yp tm n=0)(af:tm.names≠[]){f:Fil}(hg:Y5 s.files n=K f) :
 ∃ H' A' sl,UL [.ptr o 0,.str n] H=K (J O 0,H')/\SysRes H H' o t { tm with names:=WA n tm.names,sld:=sl } { s with files:=Vt s.files n } A A'/\(∀ x∈sl,x∈tm.sld):=by
 obtain⟨B,S,⟨M,u,nx,sl,y,rfl⟩,h2,h3,rfl⟩:=h;have ad:=CY y hm n;have e0:(Yp tm n != 0)=X:=by rw[hf];rfl
 have ez:((0:Int) != 0)=X:=rfl;have l0:=ZU y.cells 0 (v:=.ptr t 0) rfl
 have T:s.remove n=(0,{ s with files:=Vt s.files n }):=by
  unfold Sto.remove;rw[JX hc h0,if_neg (by simp[hc]),hg]
 obtain⟨H1,Q,r1,j⟩:=Zhq h2 hk n;rw[T]at r1 j;have ag:=SysAt.store (o:=o) (tm:=tm) ⟨M,u,nx,sl,y,rfl⟩ h3 j;have ab:TmAt H1 o t M u nx sl tm:=y.frame λa ha=>j.stp.at' a (y.lt a ha) (h3 a ha);obtain⟨H2,E,aa,q1,q2,q3,q4,q5⟩:=Zi9 ab hm n af;have z:=j.at'.lt
 have C:∀ a∈o::M::ZN nx,a∉Q:=λa ha hs=>by
  rcases j.own a hs with F|F
  ·exact h3 a ha F
  ·have:=y.lt a ha;omega
 have D:StoreAt H2 t { s with files:=Vt s.files n } Q:=j.at'.stp q3 λa ha hx=>C a hx ha
 have ac:∀ a∈o::M::ZN E,a∉Q:=λa ha hs=>by
  rcases zC.1 ha with e|ha
  ·exact C a (by simp[e]) hs
  rcases zC.1 ha with e|ha
  ·exact C a (by simp[e]) hs
  ·have:=q4 a ha;have:=z a hs;omega
 have ae:=j.stp.len;have ah:Z H<=Z H1:=ae;refine⟨H2,(o::M::ZN E)++Q,aa.map (·.1),?_,⟨⟨_,Q,⟨M,u,E,aa,q2,rfl⟩,D,ac,rfl⟩,ag.stp.trans q3 (λ_ h=>h) λa ha=>.inl (yN _ ha),λa ha=>?_⟩,λx hx=>by rw[<-y.sld];exact q5 x hx⟩
 ·rw[L0];unfold Bc;simp only[ad,go_sem,e0,MU,zI,l0,r1,ez,MV,q1]
 ·rcases zB.1 ha with k|k
  ·rcases zC.1 k with e|k
   ·exact .inl (by simp[e])
   rcases zC.1 k with e|k
   ·exact .inl (by simp[e])
   ·have:=q4 a k;exact .inr Y
  ·rcases j.own a k with F|F
   ·exact .inl (yG _ F)
   ·exact .inr F
def ZfO:Zx:=[115,111,114,116]
def Yd (i:Nat):Zx:=Ua ZfO i
theorem ZAc:((xS 128).all λi=>FK (Yd (i+1)))=U:=df
theorem ZAb:((xS 128).all λi=>(xS 128).all λj=>i==j || !(Yd (i+1)==Yd (j+1)))=U:=df
theorem ZkD {i j:Nat}(hi:1<=i/\i<=128)(u:1<=j/\j<=128)(h:Yd i=Yd j):i=j:=by
 have:=Wi (Wi ZAb (i:=i-1) Y) (i:=j-1) Y;rw[show i-1+1=i by omega,show j-1+1=j by omega,h]at this;simp only[beq_self_eq_true,yB,Bool.or_false,beq_iff_eq]at this;omega
theorem Zlp {i:Nat}(hi:1<=i/\i<=128):FK (Yd i)=U:=by
 have:=Wi ZAc (i:=i-1) Y
 rwa [show i-1+1=i by omega]at this
def Ka (L:Loc)(lx c e:AV)(p:Spec)(xp:AV)(ok:Bool)(rx:AV)(last:Zx)(has:Bool):c6:=L.cells lx c e++p.cells xp++[.bool ok,rx,.str last,.bool has]
def UD (L:Loc)(p:Spec)(a b:Zi):Bool:=(ZP p==0)&&decide (ZI L p a b<0)
section
variable {H:Hp}{g b:Nat}{L:Loc}{lx c e:AV}{p:Spec}{xp:AV}{rx:AV}{last:Zx}{has ok:Bool}
theorem ZnV (hg:H[g]?=K (.cells (Ka L lx c e p xp ok rx last has))):Z2 U 6 (.ptr g 0) H=K (.agg (L.cells lx c e)):=by
 rw[Yk hg];simp[Go.Am.apart,Ka,Loc.cells]
theorem ZkB (hg:H[g]?=K (.cells (Ka L lx c e p xp ok rx last has))):Z2 U 5 (.ptr g 6) H=K (.agg (p.cells xp)):=by
 rw[Yk hg];simp[Go.Am.apart,Ka,Loc.cells,Spec.cells]
variable (hg:H[g]?=K (.cells (Ka L lx c e p xp (ZP p==0) rx last has)))(hb:H[b]?=K (.cells [.ptr g 0]))
 (hl:LocAV (.agg (L.cells lx c e)) L) (hok:LocOk L) (hs:SpecAV (.agg (p.cells xp)) p) (hks:∀ k∈p.keys,KeOk k)
include hg hb hl hok hs hks
theorem Zxq (x y:Zi)(hx:Z x<=1048576)(D:Z y<=1048576):QY [.str x,.str y,.ptr b 0] H=K (.bool (UD L p x y),H):=by
 have z:=ZU hb 0 (v:=.ptr g 0) rfl;have j:=ZU hg 11 (v:=.bool (ZP p==0)) rfl;have C:=ZnZ hl hok hs hks x y hx D H;rw[SV];unfold Rf UD
 cases u:ZP p==0 with
 |false=>rw[u]at j;simp only[z,go_sem,zI,j];rfl
 |true=>rw[u]at j;simp only[z,go_sem,zI,j,ZnV hg,ZkB hg,C];rfl
end
theorem Ztk (p:AV)(a c:AV)(H:Hp):Yu cfg (Zb cfg) (.fn (.func 83) [] [p]) [a,c] H=QY [a,c,p] H:=df
def Ge (lt:Zi->Zi->Bool)(i:Nat)(x:List Zi)(b:Option (Nat×Zi)):Option (Nat×Zi):=match x with
 |[]=>b
 |a::_=>match b with
  |none=>K (i,a)
  |some (j,c)=>if lt a c then K (i,a) else K (j,c)
def Tv (lt:Zi->Zi->Bool):List (List Zi)->Nat->Option (Nat×Zi)->Option (Nat×Zi)
 |[],_,b=>b
 |x::r,i,b=>Tv lt r (i+1) (Ge lt i x b)
def KD:Option (Nat×Zi)->c6
 |none=>[.str [],J O 0,.bool X]
 |some (k,a)=>[.str a,J O (k:Int),.bool U]
theorem ZuW {H:Hp}{w:Nat}{lt:Zi->Zi->Bool}{o:Option (Nat×Zi)}{fv:AV}(hw:H[w]?=K (.cells (KD o)))(a:Zi)(i:Nat)(r:List Zi)
 (z:∀ k c,o=K (k,c)->Yu cfg (Zb cfg) fv [.str a,.str c] H=K (.bool (lt a c),H)) :
 ∃ H',V5 [.ptr w 0,J O (i:Int),.str a,fv] H=K (.tuple [],H')/\Stp [w] H H'/\H'[w]?=K (.cells (KD (Ge lt i (a::r) o))):=by
 have j:(Yq [(0,1,.str a),(1,1,J O (i:Int)),(2,1,.bool U)] [(.str []),(J O 0),(.bool X)]).map xY=K (.agg [.str a,J O (i:Int),.bool U]):=rfl
 have C:∀ u:Option (Nat×Zi),H[w]?=K (.cells (KD u))->Zc 3 (.ptr w 0) (.agg [.str a,J O (i:Int),.bool U]) H=K (.tuple [],H.set w (.cells [.str a,J O (i:Int),.bool U])):=λu h=>by
  have hlen:(KD u).length=3:=by rcases u with _|⟨k,c⟩ <;> rfl
  refine (YL (v:=.agg [.str a,J O (i:Int),.bool U]) h rfl rfl (by rw[hlen];show 0+3<=3;omega)).trans ?_
  have:splice (KD u) 0 [zJ a,J O (i:Int),.bool U]=[zJ a,J O (i:Int),.bool U]:=by
   rcases u with _|⟨k,c⟩ <;> rfl
  rw[show (xY [.str a,J O (i:Int),.bool U]).cells=[zJ a,J O (i:Int),.bool U] from rfl,this]
 have hs:=C o hw;have g:=Zs (zA [zJ a,J O (i:Int),.bool U]) hw;rw[RC];unfold J0
 cases o with
 |none =>
  have y:=ZU hw 2 (v:=.bool X) rfl;exact⟨_,by simp only[go_sem,zI,y,zX,j,hs],Stp.set _ _ I,g⟩
 |some q =>
  obtain⟨k,c⟩:=q;have y:=ZU hw 2 (v:=.bool U) rfl;have D:=ZU hw 0 (v:=.str c) rfl;have hc:=z k c rfl
  cases hb:lt a c with
  |true =>
   rw[hb]at hc;refine⟨_,by simp only[go_sem,zI,y,D,yB,hc,j,hs];rfl,Stp.set _ _ I,?_⟩;rw[g];simp only[Ge,hb,if_true,KD]
  |false =>
   rw[hb]at hc;refine⟨H,by simp only[go_sem,zI,y,D,yB,hc],Stp.refl _ _,?_⟩;rw[hw];simp only[Ge,hb,yJ,if_false]
structure Rd where
 r:Nat
 n:Zx
 text:Zx
 rest:List Zx
structure RdAt (H:Hp)(o:Nat)(tm:Tmp)(s:Sto)(A:da)(d:Rd):Prop where
 rdr:Rdr H d.r o d.n d.text d.rest
 out:d.r∉A
 fit:X5 d.rest=U
 len:Z d.text<=262144
 file:(Yp tm d.n=0/\∃ f,Y5 s.files d.n=K f/\f.text=d.text)\/(Yp tm d.n=5/\d.rest=[])
theorem RdAt.frame {H H':Hp}{o:Nat}{tm:Tmp}{s:Sto}{A:da}{d:Rd}(h:RdAt H o tm s A d)(j:H'[d.r]?=H[d.r]?):RdAt H' o tm s A d:=⟨h.rdr.frame j,h.out,h.fit,h.len,h.file⟩
theorem RdAt.lt {H:Hp}{o:Nat}{tm:Tmp}{s:Sto}{A:da}{d:Rd}(h:RdAt H o tm s A d):d.r<Z H:=by
 obtain⟨c,hc⟩:=h.rdr.cells;exact Zn hc
section
variable {H:Hp}{o t:Nat}{tm:Tmp}{s:Sto}{A:da}(h:SysAt H o t tm s A)(hm:TmpOk tm)(hk:StoOk s)(hc:s.crashed=X)(h0:s.count=0){d:Rd}(hd:RdAt H o tm s A d)
include h hm hk hc h0 hd
theorem ZkU:∃ H',Vn [.ptr d.r 0] H=K (.tuple [.str (d.rest.headD []),.bool (!d.rest.isEmpty),J O 0],H')/\SysAt H' o t tm s A/\Stp (d.r::A) H H'/\RdAt H' o tm s A d /\
 (d.rest=[]/\(∃ p,H'[d.r]?=K (.cells (U4 o d.n p X U [])))\/∃ l q p,H'[d.r]?=K (.cells (U4 o d.n (p++X0 l).length U X l))/\d.rest=l::q/\d.text=p++X0 l++Y1 q):=by
 have u:=hd.file;rcases hd.file with ⟨E,f,y,F⟩|⟨E,y⟩
 ·have j:=hd.rdr;rw[<-F]at j;obtain⟨H1,M,q2,q3,q4⟩:=ZvR h hm hk j hd.out E hc h0 y hd.fit (by rw[F];exact hd.len);refine⟨H1,M,q2,q3,⟨?_,hd.out,hd.fit,hd.len,u⟩,?_⟩
  ·rcases q4 with ⟨e,p,g⟩|⟨l,q,p,g,e,D⟩
   ·exact .inr (.inl ⟨e,p,g⟩)
   ·exact .inl ⟨l,q,p,g,e,by rw[<-F];exact D⟩
  ·rw[<-F];exact q4
 ·have z:YJ (.pointer 119) .eql (.ptr d.r 0) .nilp=K (.bool X):=rfl;rw[Rg];unfold G7;have aa:=hd.rdr;rcases hd.rdr with ⟨l,q,p,j,e,D⟩|⟨_,p,j⟩|⟨p,j,D⟩
  ·rw[y]at e;cases e
  ·have l3:=ZU j 3 (v:=.bool X) rfl;have l4:=ZU j 4 (v:=.bool U) rfl;refine⟨H,?_,h,Stp.refl _ _,hd,.inl ⟨y,p,j⟩⟩;rw[y];simp only[go_sem,zI,z,Xd,l3,l4,yB,zX,Xe];rfl
  ·have l3:=ZU j 3 (v:=.bool X) rfl;have l4:=ZU j 4 (v:=.bool X) rfl;have l0:=ZU j 0 (v:=.ptr o 0) rfl;have l1:=ZU j 1 (v:=.str d.n) rfl;have l2:=ZU j 2 (v:=J O (Z p:Int)) rfl;have M:=Zte h hm hk d.n (by rw[E];decide) (Z p:Int);rw[E]at M;have e5:((5:Int)==0)=X:=rfl;have Q:((5:Int)==5)=U:=rfl;have s4:=Vb j 4 (v:=.bool U) rfl rfl I;have T:=Zs (zA (zS (U4 o d.n (Z p) X X []) 4 (.bool U))) j;have k3:=ZU T 3 (v:=.bool X) rfl;refine⟨H.set d.r (.cells (zS (U4 o d.n (Z p) X X []) 4 (.bool U))),?_,h.stp (C:=[d.r]) (Stp.set _ _ I) (λa ha=>by simp;exact λe=>hd.out (e ▸ ha)),Stp.set _ _ I,⟨.inr (.inl ⟨y,Z p,T⟩),hd.out,hd.fit,hd.len,u⟩,.inl ⟨y,Z p,T⟩⟩;rw[y];simp only[go_sem,zI,z,Xd,l3,l4,l0,l1,l2,M,zG,zH,e5,Q,s4,Xe,k3,zX];rfl
theorem Zt8:∃ H',G2 [.ptr d.r 0] H=K (.tuple [.str (d.rest.headD []),.bool (!d.rest.isEmpty),J O 0],H')/\SysAt H' o t tm s A/\Stp (d.r::A) H H'/\RdAt H' o tm s A { d with rest:=d.rest.tail }:=by
 obtain⟨H1,z,q2,q3,q5,q4⟩:=ZkU h hm hk hc h0 hd
 have j:X5 d.rest.tail=U:=by
  have:=hd.fit
  cases hr:d.rest with
  |nil=>rfl
  |cons a b =>
   rw[hr]at this;simp only[X5,xL,xC]at this;exact this.2
 have hfl:(Yp tm d.n=0/\∃ f,Y5 s.files d.n=K f/\f.text=d.text)\/(Yp tm d.n=5/\d.rest.tail=[]):=hd.file.imp id λ⟨a,b⟩=>⟨a,by rw[b];rfl⟩;rw[aP];unfold Mt;rcases q4 with ⟨e,p,y⟩|⟨l,q,p,y,e,F⟩
 ·refine⟨H1,?_,q2,q3,⟨.inr (.inl ⟨by show d.rest.tail=[];rw[e];rfl,p,y⟩),hd.out,j,hd.len,hfl⟩⟩;rw[e]at z ⊢;simp only[z,go_sem,zG,zH,xO,yB,F1]
 ·have s3:=Vb y 3 (v:=.bool X) rfl rfl I;have T:=Zs (zA (zS (U4 o d.n (p++X0 l).length U X l) 3 (.bool X))) y;have M:=Vb T 5 (v:=.str []) rfl rfl I;have C:=Zs (zA (zS (zS (U4 o d.n (p++X0 l).length U X l) 3 (.bool X)) 5 (.str []))) T;generalize D:H1.set d.r (.cells (zS (U4 o d.n (p++X0 l).length U X l) 3 (.bool X)))=H2 at s3 M C;generalize E:H2.set d.r (.cells (zS (zS (U4 o d.n (p++X0 l).length U X l) 3 (.bool X)) 5 (.str [])))=Q at M C
  have u:Stp [d.r] H1 Q:=by
   rw[<-E,<-D];exact (Stp.set _ _ I).trans (Stp.set _ _ I) (λ_ h=>h) λ_ h=>.inl h
  refine⟨Q,?_,q2.stp u (λa ha=>by simp;exact λe=>hd.out (e ▸ ha)),q3.trans (u.mono (B:=d.r::A) λa ha=>by rw[zD.1 ha];simp) (λ_ h=>h) (λ_ h=>.inl h),⟨.inr (.inr ⟨p++X0 l,C,by show d.text=_++Y1 d.rest.tail;rw[e];exact F⟩),hd.out,j,hd.len,hfl⟩⟩;rw[e]at z ⊢;simp only[z,go_sem,zG,zH,xN,zX,xG,zI,s3,M,F1]
end
def rdV (d:Rd):AV:=.ptr d.r 0
section
variable {o t g b w:Nat}{tm:Tmp}{s:Sto}{A:da}{L:Loc}{lx c e:AV}{p:Spec}{xp:AV}{rx:AV}{last:Zx}{has:Bool}{ds:List Rd}{N:Nat}
 (hm:TmpOk tm) (hk:StoOk s) (hc:s.crashed=X) (h0:s.count=0)
 (hl:LocAV (.agg (L.cells lx c e)) L) (hok:LocOk L) (hs:SpecAV (.agg (p.cells xp)) p) (hks:∀ k∈p.keys,KeOk k)
 (hrx:Sl 1 rx (ds.map rdV)) (hnd:(ds.map Rd.r).Nodup) (hlen:Z ds<=1048576)
 (hgA:g∉A) (hbA:b∉A) (hwA:w∉A) (hgd:g∉ds.map Rd.r) (hbd:b∉ds.map Rd.r) (hwd:w∉ds.map Rd.r) (hgw:g≠w) (hbw:b≠w)
include hm hk hc h0 hl hok hs hks hrx hnd hlen hgA hbA hwA hgd hbd hwd hgw hbw
theorem ZvF (H0:Hp):∀ (q d:List Rd) (o':Option (Nat×Zi)) (H:Hp),ds=d++q->SysAt H o t tm s A->(∀ x∈ds,RdAt H o tm s A x)->(∀ k a,o'=K (k,a)->Z a<=1048576) ->
 H[g]?=K (.cells (Ka L lx c e p xp (ZP p==0) rx last has))->H[b]?=K (.cells [.ptr g 0])->H[w]?=K (.cells (KD o')) ->
 ∃ H',VV (.ptr b 0) (.ptr w 0) (.fn (.func 83) [] [.ptr b 0]) (J O 0) rx (J O (Z ds:Int)) (J O (Z d:Int)) H0 H=WD (.ptr b 0) (.ptr w 0) (J O 0) H0 H' /\
  SysAt H' o t tm s A/\Stp (w::ds.map Rd.r++A) H H'/\(∀ x∈ds,RdAt H' o tm s A x)/\H'[w]?=K (.cells (KD (Tv (UD L p) (q.map Rd.rest) (Z d) o'))):=by
 intro q
 induction q with
 |nil =>
  intro d o' H hd D z ho hg hb hw;rw[zO]at hd;subst hd;have E:decide ((Z ds:Int)<(Z ds:Int))=X:=I
  refine⟨H,?_,D,Stp.refl _ _,z,hw⟩;rw[UP];simp only[go_sem,E]
 |cons x q ih =>
  intro d o' H hd D z ho hg hb hw;have aj:Z ds=Z d+(Z q+1):=by rw[hd];simp
  have E:decide ((Z d:Int)<(Z ds:Int))=U:=by rw[decide_eq_true_eq];omega
  have ag:wD.wrap ((Z d:Int)+1)=((Z d+1:Nat):Int):=by rw[Zo Y Y];omega
  have F:x∈ds:=by rw[hd];simp
  have ah:x.r∈ds.map Rd.r:=zL F;have ai:(ds.map rdV)[Z d]?=K (rdV x):=by rw[yH,hd,zF (zE _)];simp
  have M:Zj 1 rx (J O (Z d:Int))=K (.vp [.ptr x.r 0]):=Sl.idx hrx ai;obtain⟨H1,p1,p2,p3,p4,_⟩:=ZkU D hm hk hc h0 (z x F)
  have keep:∀ a,a∉ds.map Rd.r->a∉A->∀ v,H[a]?=K v->H1[a]?=K v:=λa h1 h2 v hv=>p3.get hv λh=>by
   rcases zC.1 h with e|h
   ·exact h1 (e ▸ ah)
   ·exact h2 h
  have ac:=keep g hgd hgA _ hg;have ab:=keep b hbd hbA _ hb;have Q:=keep w hwd hwA _ hw
  have C:∀ y∈ds,RdAt H1 o tm s A y:=λy T=>by
   by_cases e:y.r=x.r
   ·have:y=x:=by
     obtain⟨i,hi⟩:=yO T;obtain⟨j,hj⟩:=yO F;have h1:(ds.map Rd.r)[i]?=K x.r:=by rw[yH,hi,<-e];rfl
     have h2:(ds.map Rd.r)[j]?=K x.r:=by rw[yH,hj];rfl
     have:=(List.getElem?_inj (Zn h1) hnd).1 (h1.trans h2.symm);subst this;rw[hi]at hj;injection hj
    rw[this];exact p4
   ·exact (z y T).frame (p3.at' y.r (z y T).lt λh=>by
     rcases zC.1 h with u|h
     ·exact e u
     ·exact (z y T).out h)
  have ae:Stp (w::ds.map Rd.r++A) H H1:=p3.mono λa ha=>by
   rcases zC.1 ha with u|h
   ·subst u;simp[ah]
   ·simp[h]
  have e0:((0:Int) != 0)=X:=rfl
  cases hr:x.rest with
  |nil =>
   rw[hr]at p1;obtain⟨H2,m1,m2,m3,m4,m5⟩:=ih (d++[x]) o' H1 (by rw[hd];simp) p2 C ho ac ab Q;rw[zK,zT]at m1 m5;refine⟨H2,?_,m2,ae.trans m3 (λ_ h=>h) (λ_ h=>.inl h),m4,?_⟩
   ·rw[UP];simp only[go_sem,E,BE,M,Zu,p1,zG,zH,e0,xO,yB,BG,BF,ag];exact m1
   ·rw[zM,hr];exact m5
  |cons a rr =>
   rw[hr]at p1
   have aa:Z a<=1048576:=by
    have:=(z x F).fit;rw[hr]at this;simp only[X5,xL,xC,decide_eq_true_eq]at this;omega
   obtain⟨H2,r1,r2,r3⟩:=ZuW (lt:=UD L p) (fv:=.fn (.func 83) [] [.ptr b 0]) Q a (Z d) rr (λk c' u=>by
    rw[Ztk];exact Zxq ac ab hl hok hs hks a c' aa (ho k c' u))
   have k2:∀ i,i≠w->∀ v,H1[i]?=K v->H2[i]?=K v:=λi hi v hv=>r2.get hv (by simpa using hi);have ad:SysAt H2 o t tm s A:=p2.stp r2 λi hi=>by simp;exact λu=>hwA (u ▸ hi)
   have af:∀ y∈ds,RdAt H2 o tm s A y:=λy T=>(C y T).frame (r2.at' y.r (C y T).lt (by simp;exact λu=>hwd (u ▸ zL T)))
   obtain⟨H3,m1,m2,m3,m4,m5⟩:=ih (d++[x]) (Ge (UD L p) (Z d) (a::rr) o') H2 (by rw[hd];simp) ad af (λk c' u=>by
    unfold Ge at u;rcases o' with _|⟨j,c2⟩
    ·injection u with u;injection u with e1 e2;subst e2;exact aa
    ·dsimp only at u;split at u
     ·injection u with u;injection u with e1 e2;subst e2;exact aa
     ·injection u with u;injection u with e1 e2;subst e2;exact ho j _ rfl) (k2 g hgw _ ac) (k2 b hbw _ ab) r3
   rw[zK,zT]at m1 m5;refine⟨H3,?_,m2,(ae.trans (r2.mono λi hi=>by rw[zD.1 hi];simp) (λ_ h=>h) (λ_ h=>.inl h)).trans m3 (λ_ h=>h) (λ_ h=>.inl h),m4,?_⟩
   ·rw[UP];simp only[go_sem,E,BE,M,Zu,p1,zG,zH,e0,xN,zX,BG,xG,r1,BF,ag];exact m1
   ·rw[zM,hr];exact m5
end
theorem ZyK (lt:Zi->Zi->Bool):∀ (r P:List (List Zi)) (b:Option (Nat×Zi)),(∀ k a,b=K (k,a)->∃ t,P[k]?=K (a::t))->∀ k a,Tv lt r (Z P) b=K (k,a)->∃ t,(P++r)[k]?=K (a::t):=by
 intro r
 induction r with
 |nil=>intro P b h k a e;rw[zO];exact h k a e
 |cons x r C =>
  intro P b h k a e
  have:=C (P++[x]) (Ge lt (Z P) x b) (λk a e=>by
   have old:∀ k a,b=K (k,a)->∃ t,(P++[x])[k]?=K (a::t):=λk a e=>by
    obtain⟨t,z⟩:=h k a e;exact⟨t,by rw[zW (Zn z)];exact z⟩
   have new:∀ c t,x=c::t->∃ t,(P++[x])[Z P]?=K (c::t):=λc t e=>⟨t,by rw[zF (zE _)];simp[e]⟩
   cases x with
   |nil=>exact old k a e
   |cons c t =>
    cases b with
    |none=>injection e with e;injection e with u y;subst u y;exact new c t rfl
    |some q =>
     obtain⟨j,D⟩:=q;unfold Ge at e;dsimp only at e;split at e
     ·injection e with e;injection e with u y;subst u y;exact new c t rfl
     ·exact old k a e) k a (by rw[zK,zT];exact e)
  rwa [zU,yT]at this
section
variable {o t g:Nat}{tm:Tmp}{s:Sto}{A:da}{L:Loc}{lx c e:AV}{p:Spec}{xp:AV}{rx:AV}{last:Zx}{has:Bool}{ds:List Rd}
 (hm:TmpOk tm) (hk:StoOk s) (hc:s.crashed=X) (h0:s.count=0)
 (hl:LocAV (.agg (L.cells lx c e)) L) (hok:LocOk L) (hs:SpecAV (.agg (p.cells xp)) p) (hks:∀ k∈p.keys,KeOk k)
 (hrx:Sl 1 rx (ds.map rdV)) (hnd:(ds.map Rd.r).Nodup) (hlen:Z ds<=1048576)
 (hgA:g∉A) (hgd:g∉ds.map Rd.r)
include hm hk hc h0 hl hok hs hks hrx hnd hlen hgA hgd
theorem ZoB {H:Hp}(T:SysAt H o t tm s A)(ab:∀ x∈ds,RdAt H o tm s A x)(hg:H[g]?=K (.cells (Ka L lx c e p xp (ZP p==0) rx last has))) :
 ∃ H' res,Uu [.ptr g 0] H=K (res,H')/\SysAt H' o t tm s A/\Stp (ds.map Rd.r++A) H H' /\
  (Tv (UD L p) (ds.map Rd.rest) 0 V=V/\res=.tuple [.str [],.bool X,J O 0]/\(∀ x∈ds,RdAt H' o tm s A x) \/
   ∃ P x Q a r,ds=P++x::Q/\x.rest=a::r/\Tv (UD L p) (ds.map Rd.rest) 0 V=K (Z P,a)/\res=.tuple [.str a,.bool U,J O 0]/\∀ y∈P++{ x with rest:=r }::Q,RdAt H' o tm s A y):=by
 have ay:=Zn hg
 have ap:∀ x∈ds.map Rd.r,x<Z H:=λx hx=>by
  obtain⟨y,F,rfl⟩:=yA.1 hx;exact (ab y F).lt
 have ae:ZF (.ptr g 0) H=K (.ptr (Z H) 0,H++[.cells [.ptr g 0]]):=GG rfl;have aw:(H++[zA [yR g 0]]).length=Z H+1:=I
 have gb:((H++[zA [yR g 0]])++[zA (KD V)])[Z H]?=K (.cells [.ptr g 0]):=I
 have gw:((H++[zA [yR g 0]])++[zA (KD V)])[Z H+1]?=K (.cells (KD V)):=by
  rw[zF I];simp
 have E:Stp [] H ((H++[zA [yR g 0]])++[zA (KD V)]):=by rw[zU];exact Stp.push _ _
 have aa:=E.get hg I;have ac:=T.stp E I;have ai:∀ x∈ds,RdAt ((H++[zA [yR g 0]])++[zA (KD V)]) o tm s A x:=λx hx=>(ab x hx).frame (E.at' _ (ab x hx).lt I);have nA:∀ i,Z H<=i->i∉A:=λi hi h=>by have:=T.lt i h;omega
 have nD:∀ i,Z H<=i->i∉ds.map Rd.r:=λi hi h=>by have:=ap i h;omega
 obtain⟨H1,p1,p2,p3,p4,p5⟩:=ZvF (b:=Z H) (w:=Z H+1) hm hk hc h0 hl hok hs hks hrx hnd hlen hgA (nA _ (zE _)) (nA _ Y) hgd (nD _ (zE _)) (nD _ Y) Y Y H ds [] V _ rfl ac ai (λ_ _ h=>by cases h) aa gb gw
 have aq:=p3.get aa (λh=>by
  rcases zC.1 h with M|h
  ·omega
  ·rcases zB.1 h with h|h
   ·exact hgd h
   ·exact hgA h)
 have an:=p3.get gb (λh=>by
  rcases zC.1 h with M|h
  ·omega
  ·rcases zB.1 h with h|h
   ·exact nD _ (zE _) h
   ·exact nA _ (zE _) h)
 have ad:Stp (ds.map Rd.r++A) H H1:=⟨xF E.len p3.len,λa ha hn=>(p3.at' a (yX ha E.len) (λh=>by
  rcases zC.1 h with M|h
  ·omega
  ·exact hn h)).trans (E.at' a ha I)⟩
 have l0:=ZU gb 0 (v:=.ptr g 0) rfl;have al:=ZU aa 12 (v:=rx) rfl;have ah:=Sl.len hrx 94;rw[zN]at ah;have lb:=ZU an 0 (v:=.ptr g 0) rfl;have am:=ZU aq 12 (v:=rx) rfl;have e0:((0:Int) != 0)=X:=rfl
 have D:Uu [.ptr g 0] H=WD (.ptr (Z H) 0) (.ptr (Z H+1) 0) (J O 0) H H1:=by
  have ao:KD V=[.str [],J O 0,.bool X]:=rfl;rw[ao]at l0 al p1;rw[O7];unfold Pg;simp only[ae,go_sem,aw,l0,zI,al,ah];exact p1
 rw[yU]at p5
 cases j:Tv (UD L p) (ds.map Rd.rest) 0 V with
 |none =>
  rw[j]at p5;have l2:=ZU p5 2 (v:=.bool X) rfl;refine⟨H1,_,?_,p2,ad,.inl ⟨rfl,rfl,p4⟩⟩;rw[D,BD];simp only[go_sem,e0,zI,l2,zX]
 |some q =>
  obtain⟨k,a⟩:=q;obtain⟨r,hr⟩:=ZyK (UD L p) (ds.map Rd.rest) [] V (λ_ _ h=>by cases h) k a j;rw[yK,yH]at hr
  obtain⟨x,hx,ak⟩:∃ x,ds[k]?=K x/\x.rest=a::r:=by
   cases ag:ds[k]? with
   |none=>rw[ag]at hr;cases hr
   |some x=>rw[ag]at hr;injection hr with hr;exact⟨x,rfl,hr⟩
  have hkl:=Zn hx
  have C:ds=ds.take k++x::ds.drop (k+1):=by
   have h1:=xB hkl;rw[hx]at h1;injection h1 with h1;rw[h1,<-List.drop_eq_getElem_cons hkl,List.take_append_drop]
  have au:(ds.take k).length=k:=by rw[List.length_take];omega
  rw[j]at p5;have l2:=ZU p5 2 (v:=.bool U) rfl;have l1:=ZU p5 1 (v:=J O (k:Int)) rfl;have aj:x∈ds:=yC hx;have ar:(ds.map rdV)[k]?=K (rdV x):=by rw[yH,hx];rfl
  have af:Zj 1 rx (J O (k:Int))=K (.vp [.ptr x.r 0]):=Sl.idx hrx ar;obtain⟨H2,n1,n2,n3,n4⟩:=Zt8 p2 hm hk hc h0 (p4 x aj);rw[ak]at n1 n4
  refine⟨H2,_,?_,n2,ad.trans (n3.mono (B:=ds.map Rd.r++A) λi hi=>by
   rcases zC.1 hi with M|hi
   ·subst M;exact zB.2 (.inl (zL aj))
   ·exact zB.2 (.inr hi)) (λ_ h=>h) (λ_ h=>.inl h),.inr ⟨ds.take k,x,ds.drop (k+1),a,r,C,ak,by rw[au],rfl,λy F=>?_⟩⟩
  ·rw[D,BD];simp only[go_sem,e0,zI,l2,yB,Ai,lb,am,l1,af,Zu,n1,zG,zH,Aj,xG]
  ·have u:∀ z∈ds,z.r≠x.r->RdAt H2 o tm s A z:=λz hz ax=>(p4 z hz).frame (n3.at' z.r (p4 z hz).lt λh=>by
    rcases zC.1 h with M|h
    ·exact ax M
    ·exact (p4 z hz).out h)
   rw[C,zY,zM,yY,zZ]at hnd;obtain⟨_,⟨d1,_⟩,d2⟩:=hnd;rcases zB.1 F with F|F
   ·exact u y (List.mem_of_mem_take F) (d2 y.r (zL F) x.r I)
   ·rcases zC.1 F with M|F
    ·subst M;exact n4
    ·exact u y (List.mem_of_mem_drop F) λM=>d1 (by rw[<-M];exact zL F)
end
def Ym:List Rd->Nat
 |[]=>0
 |d::r=>Z d.rest+Ym r
theorem Vm (A B:List Rd):Ym (A++B)=Ym A+Ym B:=by
 induction A with
 |nil=>simp[Ym]
 |cons x A j=>simp only[zR,Ym,j];omega
def JN (L:Loc)(p:Spec)(last:Zx)(has:Bool)(a:Zi):Bool:=(has&&(ZP p==0)&&p.uniq)&&(Yz L p last a==0)
inductive NextD (lt:Zi->Zi->Bool)(same:Zi->Bool):List Rd->Option Zi->List Rd->Prop
 |done {ds:List Rd} (h:Tv lt (ds.map Rd.rest) 0 V=V):NextD lt same ds V ds
 |skip {P Q:List Rd} {x:Rd} {a:Zi} {r:List Zi} {z:Option Zi} {ds':List Rd} (hx:x.rest=a::r) (h:Tv lt ((P++x::Q).map Rd.rest) 0 V=K (Z P,a)) (hs:same a=U) (k:NextD lt same (P++{ x with rest:=r }::Q) z ds'):NextD lt same (P++x::Q) z ds'
 |give {P Q:List Rd} {x:Rd} {a:Zi} {r:List Zi} (hx:x.rest=a::r) (h:Tv lt ((P++x::Q).map Rd.rest) 0 V=K (Z P,a)) (hs:same a=X):NextD lt same (P++x::Q) (K a) (P++{ x with rest:=r }::Q)
section
variable {o t g:Nat}{tm:Tmp}{s:Sto}{A:da}{L:Loc}{lx c e:AV}{p:Spec}{xp:AV}{rx:AV}{last:Zx}{has:Bool}{rs:da}
 (hm:TmpOk tm) (hk:StoOk s) (hc:s.crashed=X) (h0:s.count=0)
 (hl:LocAV (.agg (L.cells lx c e)) L) (hok:LocOk L) (hs:SpecAV (.agg (p.cells xp)) p) (hks:∀ k∈p.keys,KeOk k)
 (hrx:Sl 1 rx (rs.map λr=>yR r 0)) (hnd:rs.Nodup) (hlen:Z rs<=1048576)
 (hgA:g∉A) (hgd:g∉rs) (hlast:Z last<=1048576)
include hm hk hc h0 hl hok hs hks hrx hnd hlen hgA hgd hlast
theorem Zs9 (H0:Hp):∀ (n:Nat) (ds:List Rd) (H:Hp),Ym ds<=n->ds.map Rd.r=rs->SysAt H o t tm s A->(∀ x∈ds,RdAt H o tm s A x)->H[g]?=K (.cells (Ka L lx c e p xp (ZP p==0) rx last has)) ->
 ∃ H' z D,WC (.ptr g 0) H0 H=K (.tuple [.str (z.getD []),.bool z.isSome,J O 0],H')/\NextD (UD L p) (JN L p last has) ds z D/\SysAt H' o t tm s A/\Stp (g::rs++A) H H'/\D.map Rd.r=rs/\(∀ x∈D,RdAt H' o tm s A x) /\
  H'[g]?=K (.cells (match z with|none=>Ka L lx c e p xp (ZP p==0) rx last has|some a=>Ka L lx c e p xp (ZP p==0) rx a U)):=by
 intro n
 induction n with
 |zero =>
  intro ds H hn u F aa hg;have E:Sl 1 rx (ds.map rdV):=by rw[<-u,xW]at hrx;exact hrx
  obtain⟨H1,res,p1,p2,p3,p4⟩:=ZoB hm hk hc h0 hl hok hs hks E (by rw[u];exact hnd) (by rw[<-u,zN]at hlen;exact hlen) hgA (by rw[u];exact hgd) F aa hg;rw[u]at p3;rcases p4 with ⟨q1,rfl,q3⟩|⟨P,x,Q,a,r,rfl,q2,_⟩
  ·refine⟨H1,V,ds,?_,.done q1,p2,p3.mono λi hi=>by simp at hi ⊢;exact .inr hi,u,q3,p3.get hg λh=>(zB.1 h).elim hgd hgA⟩;rw[WW];simp only[p1,go_sem,zG,zH,zX];rfl
  ·rw[Vm,Ym,q2,zP]at hn;omega
 |succ n ih =>
  intro ds H hn u F aa hg;have E:Sl 1 rx (ds.map rdV):=by rw[<-u,xW]at hrx;exact hrx
  obtain⟨H1,res,p1,p2,p3,p4⟩:=ZoB hm hk hc h0 hl hok hs hks E (by rw[u];exact hnd) (by rw[<-u,zN]at hlen;exact hlen) hgA (by rw[u];exact hgd) F aa hg;rw[u]at p3;have j:=p3.get hg λh=>(zB.1 h).elim hgd hgA;have ab:Stp (g::rs++A) H H1:=p3.mono λi hi=>by simp at hi ⊢;exact .inr hi
  rcases p4 with ⟨q1,rfl,q3⟩|⟨P,x,Q,a,r,rfl,q2,q3,rfl,q5⟩
  ·refine⟨H1,V,ds,?_,.done q1,p2,ab,u,q3,j⟩;rw[WW];simp only[p1,go_sem,zG,zH,zX];rfl
  ·have al:Z a<=1048576:=by
    have:=(aa x I).fit;rw[q2]at this;simp only[X5,xL,xC,decide_eq_true_eq]at this;omega
   have ad:(P++{ x with rest:=r }::Q).map Rd.r=rs:=by rw[<-u];simp
   have M:=ZU j 14 (v:=.bool has) rfl;have C:=ZU j 11 (v:=.bool (ZP p==0)) rfl;have l9:=ZU j 9 (v:=.bool p.uniq) rfl;have ah:=ZU j 13 (v:=.str last) rfl;have ag:=Zbn hl hok hs hks last a hlast al H1
   have T:JJ (.ptr g 0) (.str a) H0 H1=if JN L p last has a then WC (.ptr g 0) H0 H1 else JK (.ptr g 0) (.str a) H0 H1:=by
    rw[Ag];unfold JN
    cases has with
    |false=>simp only[go_sem,zI,yS,M,yL,yJ,if_false]
    |true =>
     cases af:ZP p==0 with
     |false =>
      rw[af]at C;simp only[go_sem,zI,yS,M,C,yZ,yL,yJ,if_false]
     |true =>
      rw[af]at C
      cases hu:p.uniq with
      |false =>
       rw[hu]at l9;simp only[go_sem,zI,yS,xA,M,C,l9,yZ,yL,yJ,if_false]
      |true =>
       rw[hu]at l9
       cases he:Yz L p last a==0 with
       |true=>simp only[go_sem,zI,yS,xA,M,C,l9,ah,ZnV j,ZkB j,ag,he,yZ,if_true]
       |false=>simp only[go_sem,zI,yS,xA,M,C,l9,ah,ZnV j,ZkB j,ag,he,yZ,yJ,if_false]
   cases hsm:JN L p last has a with
   |true =>
    rw[hsm,if_pos rfl]at T
    obtain⟨H2,z,D,m1,m2,m3,m4,m5,m6,m7⟩:=ih (P++{ x with rest:=r }::Q) H1 (by
     rw[Vm,Ym,q2,zP]at hn;rw[Vm,Ym];show Ym P+(Z r+Ym Q)<=n;omega) ad p2 q5 j
    refine⟨H2,z,D,?_,.skip q2 q3 hsm m2,m3,ab.trans m4 (λ_ h=>h) (λ_ h=>.inl h),m5,m6,m7⟩;rw[WW];simp only[p1,go_sem,zG,zH,yB,T];exact m1
   |false =>
    rw[hsm,if_neg I]at T;have ai:=Vb j 14 (v:=.bool U) rfl rfl (by simp[Ka,Loc.cells,Spec.cells]);have g2:=Zs (zA (zS (Ka L lx c e p xp (ZP p==0) rx last has) 14 (.bool U))) j;have ae:=Vb g2 13 (v:=.str a) rfl rfl (by simp[Ka,Loc.cells,Spec.cells]);have g3:=Zs (zA (zS (zS (Ka L lx c e p xp (ZP p==0) rx last has) 14 (.bool U)) 13 (.str a))) g2;generalize aj:H1.set g (.cells (zS (Ka L lx c e p xp (ZP p==0) rx last has) 14 (.bool U)))=H2 at ai g2 ae g3;generalize ak:H2.set g (.cells (zS (zS (Ka L lx c e p xp (ZP p==0) rx last has) 14 (.bool U)) 13 (.str a)))=H3 at ae g3
    have ac:Stp [g] H1 H3:=by
     rw[<-ak,<-aj];exact (Stp.set _ _ I).trans (Stp.set _ _ I) (λ_ h=>h) λ_ h=>.inl h
    refine⟨H3,K a,_,?_,.give q2 q3 hsm,p2.stp ac (λi hi=>by simp;exact λe'=>hgA (e' ▸ hi)),ab.trans (ac.mono (B:=g::rs++A) λi hi=>by rw[zD.1 hi];simp) (λ_ h=>h) (λ_ h=>.inl h),ad,λy hy=>(q5 y hy).frame (ac.at' y.r (q5 y hy).lt (by
     have:y.r∈rs:=by rw[<-ad];exact zL hy
     simp;exact λe'=>hgd (e' ▸ this))),g3⟩
    rw[WW];simp only[p1,go_sem,zG,zH,yB,T,Ah,zI,ai,ae];rfl
end
theorem MB {k bytes:Nat}{x:AV}{l:c6}(h:Sl k x l)(hl:Z l<=1048576)(hb:bytes<=64)(H:Hp) :
 ∃ j T,ZR k bytes .nils x H=K (j,H++T)/\Sl k j l/\j.cells=[j]/\j.known=U:=by
 have u:elems k x H=K l:=by
  rcases h with ⟨rfl,rfl⟩|⟨tok,rfl⟩
  ·rfl
  ·simp[elems]
 unfold ZR;rw[u];by_cases hn:l=[]
 ·subst hn;exact⟨.nils,[],by simp[Ys],.inl ⟨rfl,rfl⟩,rfl,rfl⟩
 ·have y:YB (Z l) bytes=U:=by
   have:Z l*(bytes+1)<=1048576*65:=Nat.mul_le_mul hl Y;simp only[YB,decide_eq_true_eq];omega
  exact⟨.vs k (.own (Z H) (Z l)) l,[.tok (Z l)],by simp only[Ys,hn,if_false,y,if_true],.inr ⟨_,rfl⟩,rfl,rfl⟩
structure LocSm (L:Loc):Prop where
 w:Z L.w<=1048576
 cls:Z L.cls<=1048576
 els:Z L.els<=1048576
theorem Zpa {a:AV}{L:Loc}(h:LocAV a L)(hsm:LocSm L)(H:Hp):∃ a',Ze GA [a] H=K (a',H)/\LocAV a' L:=by
 obtain⟨a1,h1,h2⟩:=h.close [] 0 5;obtain⟨lx,c,e,rfl,ae,hc,he⟩:=h2
 suffices hs:∃ a2 H1,GA [.agg (L.cells lx c e)] []=K (a2,H1)/\LocAV a2 L by
  obtain⟨a2,H1,r1,r2⟩:=hs;obtain⟨a3,r3,r4⟩:=r2.close H1 0 5;exact⟨a3,JD (args':=[.agg (L.cells lx c e)]) (by simp[h1]) r1 r3,r4⟩
 obtain⟨j,T1,p1,p2,p3,p4⟩:=MB ae (by rw[zN];exact hsm.w) (bytes:=8) Y [zA (L.cells lx c e),.cells [(.str []),.nils,(.str []),(.str []),.nils,.nils]];have g0:([zA (L.cells lx c e),.cells [(.str []),.nils,(.str []),(.str []),.nils,.nils]]++T1)[0]?=K (.cells (L.cells lx c e)):=I
 have E:([zA (L.cells lx c e),.cells [(.str []),.nils,(.str []),(.str []),.nils,.nils]]++T1)[1]?=K (.cells [(.str []),.nils,(.str []),(.str []),.nils,.nils]):=I
 generalize ag:[zA (L.cells lx c e),.cells [(.str []),.nils,(.str []),(.str []),.nils,.nils]]++T1=H1 at p1 g0 E;have s1:=Vb g0 1 (v:=j) p3 p4 (by simp[Loc.cells]);have g1:(H1.set 0 (.cells (L.cells j c e)))[0]?=K (.cells (L.cells j c e)):=Zs _ g0;have F:(H1.set 0 (.cells (L.cells j c e)))[1]?=K (.cells [(.str []),.nils,(.str []),(.str []),.nils,.nils]):=Y2 _ co E;have ab:Zc 1 (.ptr 0 1) j H1=K (.tuple [],H1.set 0 (.cells (L.cells j c e))):=s1;generalize ah:H1.set 0 (.cells (L.cells j c e))=H2 at ab g1 F;obtain⟨c',T2,q1,q2,q3,q4⟩:=MB hc (by rw[zN];exact hsm.cls) (bytes:=48) Y H2;have g2:(H2++T2)[0]?=K (.cells (L.cells j c e)):=Y8 g1 _;have M:(H2++T2)[1]?=K (.cells [(.str []),.nils,(.str []),(.str []),.nils,.nils]):=Y8 F _;generalize ai:H2++T2=z at q1 g2 M;have s2:Zc 1 (.ptr 0 4) c' z=K (.tuple [],z.set 0 (.cells (L.cells j c' e))):=Vb g2 4 (v:=c') q3 q4 (by simp[Loc.cells]);have g3:(z.set 0 (.cells (L.cells j c' e)))[0]?=K (.cells (L.cells j c' e)):=Zs _ g2;have Q:(z.set 0 (.cells (L.cells j c' e)))[1]?=K (.cells [(.str []),.nils,(.str []),(.str []),.nils,.nils]):=Y2 _ co M;generalize aj:z.set 0 (.cells (L.cells j c' e))=H4 at s2 g3 Q;obtain⟨u,T3,r1,r2,r3,r4⟩:=MB he (by rw[zN];exact hsm.els) (bytes:=24) Y H4;have g4:(H4++T3)[0]?=K (.cells (L.cells j c' e)):=Y8 g3 _;have T:(H4++T3)[1]?=K (.cells [(.str []),.nils,(.str []),(.str []),.nils,.nils]):=Y8 Q _;generalize ak:H4++T3=C at r1 g4 T;have s3:Zc 1 (.ptr 0 5) u C=K (.tuple [],C.set 0 (.cells (L.cells j c' u))):=Vb g4 5 (v:=u) r3 r4 (by simp[Loc.cells]);have g5:(C.set 0 (.cells (L.cells j c' u)))[0]?=K (.cells (L.cells j c' u)):=Zs _ g4;have y:(C.set 0 (.cells (L.cells j c' u)))[1]?=K (.cells [(.str []),.nils,(.str []),(.str []),.nils,.nils]):=Y2 _ co T;generalize al:C.set 0 (.cells (L.cells j c' u))=D at s3 g5 y;have ad:Z2 U 6 (.ptr 0 0) D=K (.agg (L.cells j c' u)):=by rw[Yk g5];simp[Go.Am.apart,Loc.cells]
 have af:Zc 6 (.ptr 1 0) (.agg (L.cells j c' u)) D=K (.tuple [],D.set 1 (.cells (L.cells j c' u))):=by
  have ac:(xY (L.cells j c' u)).known=U:=by simp[AV.known,Loc.cells,p4,q4,r4]
  refine (YL (v:=.agg (L.cells j c' u)) y ac rfl (by show 0+6<=6;omega)).trans ?_;rfl
 have g6:=Zs (zA (L.cells j c' u)) y;have aa:Z2 U 6 (.ptr 1 0) (D.set 1 (.cells (L.cells j c' u)))=K (.agg (L.cells j c' u)):=by rw[Yk g6];simp[Go.Am.apart,Loc.cells]
 have la:=ZU (show ([zA (L.cells lx c e),.cells [(.str []),.nils,(.str []),(.str []),.nils,.nils]])[0]?=K (.cells (L.cells lx c e)) from rfl) 1 (v:=lx) rfl;have lb:=ZU g1 4 (v:=c) rfl;have lc:=ZU g3 5 (v:=e) rfl;refine⟨_,D.set 1 (.cells (L.cells j c' u)),?_,⟨j,c',u,rfl,p2,q2,r2⟩⟩;rw[Zci];unfold aO;simp only[ZW,go_sem,yK,zR,yU,zP,zI,yS,la,p1,ab,lb,q1,s2,lc,r1,s3,ad,af,aa]
theorem ZmH {a q rx:AV}{L:Loc}{p:Spec}{rs:da}(ha:LocAV a L)(hsm:LocSm L)(hq:SpecAV q p)(hkl:Z p.keys<=1048576)(hrx:Sl 1 rx (rs.map λr=>yR r 0))(ag:Z rs<=1048576)(H:Hp) :
 ∃ H' g lx c e xp j,NI [a,q,rx] H=K (.ptr g 0,H')/\H'[g]?=K (.cells (Ka L lx c e p xp (ZP p==0) j [] X))/\LocAV (.agg (L.cells lx c e)) L/\SpecAV (.agg (p.cells xp)) p/\Sl 1 j (rs.map λr=>yR r 0)/\Stp [] H H'/\Z H<=g:=by
 have ao:=ha;obtain⟨lx,c,e,rfl,af,hc,he⟩:=ha;obtain⟨xp,rfl,aj⟩:=hq;have ad:(H++[zA (L.cells lx c e)]).length=Z H+1:=I
 have g1:((H++[zA (L.cells lx c e)])++[zA (p.cells xp)])[Z H]?=K (.cells (L.cells lx c e)):=I
 have g2:((H++[zA (L.cells lx c e)])++[zA (p.cells xp)])[Z H+1]?=K (.cells (p.cells xp)):=by
  rw[zF I];simp
 have l0:=ZU g2 0 (v:=xp) rfl;obtain⟨u,T,q1,q2,q3,q4⟩:=MB aj (by rw[zN];exact hkl) (bytes:=40) Y ((H++[zA (L.cells lx c e)])++[zA (p.cells xp)]);have g3:=Y8 g1 T;have g4:=Y8 g2 T;have C:Stp [] H (((H++[zA (L.cells lx c e)])++[zA (p.cells xp)])++T):=by rw[zU,zU];exact Stp.push _ _
 generalize al:((H++[zA (L.cells lx c e)])++[zA (p.cells xp)])++T=M at q1 g3 g4 C;have s0:Zc 1 (.ptr (Z H+1) 0) u M=K (.tuple [],M.set (Z H+1) (.cells (p.cells u))):=Vb g4 0 (v:=u) q3 q4 (by simp[Spec.cells]);have g5:(M.set (Z H+1) (.cells (p.cells u)))[Z H]?=K (.cells (L.cells lx c e)):=Y2 _ Y g3;have g6:(M.set (Z H+1) (.cells (p.cells u)))[Z H+1]?=K (.cells (p.cells u)):=Zs _ g4;have D:Stp [Z H+1] M (M.set (Z H+1) (.cells (p.cells u))):=Stp.set _ _ I;generalize am:M.set (Z H+1) (.cells (p.cells u))=H4 at s0 g5 g6 D;have aa:=λk=>Zif g6 k;have g7:(H4.set (Z H+1) .dead)[Z H]?=K (.cells (L.cells lx c e)):=Y2 _ Y g5;have E:Stp [Z H+1] H4 (H4.set (Z H+1) .dead):=Stp.set _ _ I;generalize an:H4.set (Z H+1) .dead=z at aa g7 E;have ae:Z2 U 6 (.ptr (Z H) 0) z=K (.agg (L.cells lx c e)):=by rw[Yk g7];simp[Go.Am.apart,Loc.cells]
 obtain⟨a',r1,y,c',e',rfl,r2,r3,r4⟩:=Zpa (a:=.agg (L.cells lx c e)) ⟨lx,c,e,rfl,af,hc,he⟩ hsm z;have F:SpecAV (.agg (p.cells u)) p:=⟨u,rfl,q2⟩;have ah:Xk U 5 (.vp (p.cells u))=K (.agg (p.cells u)):=by simp[Xk,Z2,Go.Am.apart,Spec.cells]
 have ai:Z2 U 5 (.vp (p.cells u)) z=K (.agg (p.cells u)):=Vp 5 (p.cells u) rfl z;have ac:=EN F z;obtain⟨j,T2,u1,u2,u3,u4⟩:=MB hrx (by rw[zN];exact ag) (bytes:=8) Y z
 have Q:(Yq [(0,6,.agg (L.cells y c' e')),(6,5,.agg (p.cells u)),(11,1,.bool (ZP p==0)),(12,1,j)] [(.str []),.nils,(.str []),(.str []),.nils,.nils,.nils,(J O 0),(J O 0),(.bool X),(.bool X),(.bool X),.nils,(.str []),(.bool X)]).map xY=K (.agg (Ka L y c' e' p u (ZP p==0) j [] X)):=by
  have h3:Z j.cells=1:=by rw[u3];rfl
  have hr:j=.nils\/∃ tok l,j=.vs 1 tok l:=by
   rcases u2 with ⟨h,_⟩|⟨tok,h⟩
   ·exact .inl h
   ·exact .inr ⟨tok,_,h⟩
  rcases hr with h|⟨tok,l,h⟩ <;> subst h <;> rfl
 have ab:Stp [] H ((z++T2)++[.cells (Ka L y c' e' p u (ZP p==0) j [] X)]):=by
  have h1:Stp [] H H4:=⟨xF C.len D.len,λi hi hn=>(D.at' i (yX hi C.len) (by simp;omega)).trans (C.at' i hi hn)⟩;have h2:Stp [] H z:=⟨xF h1.len E.len,λi hi hn=>(E.at' i (yX hi h1.len) (by simp;omega)).trans (h1.at' i hi hn)⟩;refine h2.trans (B:=[]) ?_ (λ_ h=>h) (λ_ h=>by cases h);rw[zU];exact Stp.push _ _
 have ak:Z H<=Z z:=by
  have:=C.len;have:=D.len;have:=E.len;omega
 refine⟨(z++T2)++[.cells (Ka L y c' e' p u (ZP p==0) j [] X)],(z++T2).length,y,c',e',u,j,?_,I,⟨y,c',e',rfl,r2,r3,r4⟩,F,u2,ab,by simp;omega⟩;rw[Zju];unfold Zdq;simp only[ZW,go_sem,ad,zI,l0,q1,s0,aa,ae,r1,ah,ai,ac,u1,Q]
theorem NextD.less {lt:Zi->Zi->Bool}{same:Zi->Bool}{ds j:List Rd}{z:Option Zi}(h:NextD lt same ds z j):Ym j<=Ym ds/\∀ a,z=K a->Ym j<Ym ds:=by
 induction h with
 |done h=>exact⟨zE _,λa e=>by cases e⟩
 |skip hx h hs k C =>
  obtain⟨y,u⟩:=C;rw[Vm,Ym]at y u ⊢;rw[hx,zP];dsimp only at y u;exact⟨Y,λa e=>by have:=u a e;omega⟩
 |give hx h hs =>
  rw[Vm,Ym,Vm,Ym,hx,zP];dsimp only;exact⟨Y,λa e=>Y⟩
section
variable {o t g:Nat}{tm:Tmp}{s:Sto}{A:da}{L:Loc}{lx c e:AV}{p:Spec}{xp:AV}{rx:AV}{last:Zx}{has:Bool}{rs:da}
 (hm:TmpOk tm) (hk:StoOk s) (hc:s.crashed=X) (h0:s.count=0)
 (hl:LocAV (.agg (L.cells lx c e)) L) (hok:LocOk L) (hs:SpecAV (.agg (p.cells xp)) p) (hks:∀ k∈p.keys,KeOk k)
 (hrx:Sl 1 rx (rs.map λr=>yR r 0)) (hnd:rs.Nodup) (hlen:Z rs<=1048576)
 (hgA:g∉A) (hgd:g∉rs) (hlast:Z last<=1048576)
include hm hk hc h0 hl hok hs hks hrx hnd hlen hgA hgd hlast
theorem AA {ds:List Rd}{H:Hp}(F:ds.map Rd.r=rs)(y:SysAt H o t tm s A)(C:∀ x∈ds,RdAt H o tm s A x)(hg:H[g]?=K (.cells (Ka L lx c e p xp (ZP p==0) rx last has))) :
 ∃ H' z j,Ut [.ptr g 0] H=K (.tuple [.str (z.getD []),.bool z.isSome,J O 0],H')/\NextD (UD L p) (JN L p last has) ds z j/\SysAt H' o t tm s A/\Stp (g::rs++A) H H'/\j.map Rd.r=rs/\(∀ x∈j,RdAt H' o tm s A x) /\
  H'[g]?=K (.cells (match z with|none=>Ka L lx c e p xp (ZP p==0) rx last has|some a=>Ka L lx c e p xp (ZP p==0) rx a U)):=by
 have u:YJ (.pointer 122) .eql (.ptr g 0) .nilp=K (.bool X):=rfl;obtain⟨H',z,j,D,E⟩:=Zs9 hm hk hc h0 hl hok hs hks hrx hnd hlen hgA hgd hlast H (Ym ds) ds H (zE _) F y C hg;refine⟨H',z,j,?_,E⟩;rw[O6];unfold Pf;simp only[u,go_sem,Af];exact D
end
inductive AllD (L:Loc)(p:Spec):Zx->Bool->List Rd->List Zi->List Rd->Prop
 |done {last:Zx} {has:Bool} {ds ds':List Rd} (h:NextD (UD L p) (JN L p last has) ds V ds'):AllD L p last has ds [] ds'
 |more {last:Zx} {has:Bool} {ds ds' ds2:List Rd} {a:Zi} {out:List Zi} (h:NextD (UD L p) (JN L p last has) ds (K a) ds') (k:AllD L p a U ds' out ds2):AllD L p last has ds (a::out) ds2
theorem NextD.mem {lt:Zi->Zi->Bool}{same:Zi->Bool}{ds u:List Rd}{z:Option Zi}(h:NextD lt same ds z u):∀ a,z=K a->∃ x∈ds,a∈x.rest:=by
 induction h with
 |done h=>exact λa e=>by cases e
 |@skip P Q x a r z u hx h hs k D =>
  intro b e;obtain⟨y,j,hb⟩:=D b e;rcases zB.1 j with j|j
  ·exact⟨y,by simp[j],hb⟩
  ·rcases zC.1 j with C|j
   ·subst C;exact⟨x,I,by rw[hx];exact List.mem_cons_of_mem _ hb⟩
   ·exact⟨y,by simp[j],hb⟩
 |@give P Q x a r hx h hs =>
  intro b e;injection e with e;subst e;exact⟨x,I,by rw[hx];simp⟩
section
variable {o t g n N:Nat}{tm:Tmp}{s:Sto}{A:da}{L:Loc}{lx c e:AV}{p:Spec}{xp:AV}{rx:AV}{rs:da}
 (hm:TmpOk tm) (hk:StoOk s) (hc:s.crashed=X) (h0:s.count=0)
 (hl:LocAV (.agg (L.cells lx c e)) L) (hok:LocOk L) (hs:SpecAV (.agg (p.cells xp)) p) (hks:∀ k∈p.keys,KeOk k)
 (hrx:Sl 1 rx (rs.map λr=>yR r 0)) (hnd:rs.Nodup) (hlen:Z rs<=1048576)
 (hgA:g∉A) (hgd:g∉rs) (hn:n<=65536) (hgN:g<N) (hrN:∀ r∈rs,r<N) (hAN:∀ a∈A,a<N)
include hm hk hc h0 hl hok hs hks hrx hnd hlen hgA hgd hn hgN hrN hAN
end
section
variable {α:Type}{f:α->α->Int}
def Strict (f:α->α->Int)(l:List α):Prop:=l.Pairwise λa b=>f a b<0
theorem Strict.srt {l:List α}(h:Strict f l):Rk f l:=List.Pairwise.imp (λh=>Y) h
variable (h:Cm f)
include h
theorem Zaz {x y z:α}(j:YV f x y=U)(u:YV f y z=U):YV f x z=U:=by
 rw[h.eqv_iff]at *;have a:=h.tr x y z Y Y;have b:=h.tr2 x y z Y Y;omega
theorem Zfq {x y:α}(j:YV f x y=U):YV f y x=U:=by
 rw[h.eqv_iff]at *;have:=h.sym x y;omega
theorem ZbD (out:List α)(x:α):VG f out x=U↔∃ y,out.getLast?=K y/\f y x=0:=by
 unfold VG
 cases out.getLast? with
 |none=>simp
 |some y=>simp
theorem Zls:∀ (l out:List α),Strict f out->(∀ a∈out,∀ b∈l,f a b<=0)->Rk f l ->
 Strict f (Xt f out l)/\∀ x,(Xt f out l).filter (YV f x)=if out.filter (YV f x)=[] then (l.filter (YV f x)).take 1 else out.filter (YV f x):=by
 intro l
 induction l with
 |nil =>
  intro out hs _ _;refine⟨hs,λx=>?_⟩;show out.filter (YV f x)=_;split
  ·rename_i h0;rw[h0];rfl
  ·rfl
 |cons a l ih =>
  intro out hs hc hl;have D:=yF.1 hl;unfold Xt
  cases Q:VG f out a with
  |true =>
   obtain⟨y,hy,E⟩:=(ZbD h out a).1 Q;have F:y∈out:=xK hy;obtain⟨i1,i2⟩:=ih out hs (λb hb c j=>hc b hb c (by simp[j])) D.2;refine⟨i1,λx=>?_⟩;rw[if_pos rfl,i2];split
   ·rename_i h0
    have:YV f x a=X:=by
     cases u:YV f x a with
     |false=>rfl
     |true =>
      have T:YV f a y=U:=Zfq h ((h.eqv_iff y a).2 E);have:=Zaz h u T;have hm:y∈out.filter (YV f x):=List.mem_filter.2 ⟨F,this⟩;rw[h0]at hm;cases hm
    rw[yD,this];rfl
   ·rfl
  |false =>
   have z:∀ b∈out,f b a<0:=λb hb=>by
    cases hg:out.getLast? with
    |none=>rw[List.getLast?_eq_none_iff.1 hg]at hb;cases hb
    |some y =>
     have F:y∈out:=xK hg
     have E:f y a<0:=by
      have h1:=hc y F a I
      have h2:f y a≠0:=λe=>by
       have:=(ZbD h out a).2 ⟨y,hg,e⟩;rw[Q]at this;cases this
      omega
     have aa:f b y<=0:=by
      obtain⟨i,hi⟩:=yO hb;obtain⟨ac,M⟩:=yI.1 hi;rw[List.getLast?_eq_getElem?]at hg;obtain⟨ad,C⟩:=yI.1 hg;by_cases ab:i=Z out-1
      ·subst ab;rw[M]at C;rw[C,h.self];exact xZ _
      ·have:=List.pairwise_iff_getElem.1 hs i (Z out-1) ac ad Y;rw[M,C]at this;omega
     exact h.le_lt aa E
   have ae:Strict f (out++[a]):=List.pairwise_append.2 ⟨hs,List.pairwise_singleton _ _,λb hb c j=>by rw[zD.1 j];exact z b hb⟩
   obtain⟨i1,i2⟩:=ih (out++[a]) ae (λb hb c j=>by
    rcases zB.1 hb with hb|hb
    ·exact hc b hb c (by simp[j])
    ·rw[zD.1 hb];exact D.1 c j) D.2
   refine⟨by simpa using i1,λx=>?_⟩;rw[if_neg co,i2,zV]
   cases u:YV f x a with
   |false=>simp[yD,u]
   |true =>
    have h0:out.filter (YV f x)=[]:=by
     rw[xH];intro b hb af;have h1:=z b hb;have h2:=Zaz h (Zfq h af) u;rw[h.eqv_iff]at h2;omega
    rw[h0];simp[yD,u]
end
section
variable {L:Loc}{p:Spec}(hv:ZP p=0)
include hv
theorem Zj5:Zr p=p:=by
 unfold Zr;rw[if_neg (by simp[hv])]
theorem ZsO (l:List Zi):ZX L p l=if p.uniq then Xt (ZI L p) [] (Nk (ZI L p) l) else Nk (ZI L p) l:=by
 unfold ZX;rw[if_neg (by simp[hv])]
 cases j:p.uniq with
 |false=>rfl
 |true =>
  have:Yz L p=ZI L p:=funext λa=>funext λb=>(OQ (by rw[Zj5 hv,j,xX]) a b).symm;rw[this]
theorem iK (l:List Zi):Rk (ZI L p) (ZX L p l)/\(p.uniq=U->Strict (ZI L p) (ZX L p l))/\∀ x,(ZX L p l).filter (YV (ZI L p) x)=if p.uniq then (l.filter (YV (ZI L p) x)).take 1 else l.filter (YV (ZI L p) x):=by
 have hc:=IF L p;obtain⟨u,z⟩:=ZnE hc l [] List.Pairwise.nil
 have j:∀ x,(Nk (ZI L p) l).filter (YV (ZI L p) x)=l.filter (YV (ZI L p) x):=λx=>by
  rw[show Nk (ZI L p) l=l.foldl (UO (ZI L p)) [] from rfl,z];rfl
 rw[ZsO hv]
 cases D:p.uniq with
 |false=>exact⟨u,λh=>(by cases h),j⟩
 |true =>
  obtain⟨y,C⟩:=Zls hc (Nk (ZI L p) l) [] List.Pairwise.nil (λa ha=>by cases ha) u;refine⟨y.srt,λ_=>y,λx=>?_⟩;rw[if_pos rfl,if_pos rfl,C];show (if ([]:List Zi)=[] then _ else _)=_;rw[if_pos rfl,j]
end
section
variable {α:Type}{f:α->α->Int}
def X2 (f:α->α->Int):List (List α)->Nat->Option (Nat×α)->Option (Nat×α)
 |[],_,b=>b
 |x::r,i,b=>X2 f r (i+1) (match x with
  |[]=>b
  |a::_=>match b with
   |none=>K (i,a)
   |some (j,c)=>if 0<f c a then K (i,a) else K (j,c))
theorem gE (f:α->α->Int)(r:List (List α))(i:Nat)(b:Option (Nat×α)):X2 f ([]::r) i b=X2 f r (i+1) b:=de
theorem OK (f:α->α->Int)(a:α)(t:List α)(r:List (List α))(i:Nat):X2 f ((a::t)::r) i V=X2 f r (i+1) (K (i,a)):=de
theorem Mj (f:α->α->Int)(a:α)(t:List α)(r:List (List α))(i j:Nat)(c:α):X2 f ((a::t)::r) i (K (j,c))=X2 f r (i+1) (if 0<f c a then K (i,a) else K (j,c)):=de
def XW (f:α->α->Int):Nat->List (List α)->List α
 |0,_=>[]
 |n+1,rest=>match X2 f rest 0 V with
  |none=>[]
  |some (k,a)=>a::XW f n (rest.set k ((rest.getD k []).drop 1))
theorem F0 {f:α->α->Int}{n:Nat}{rest:List (List α)}(h:X2 f rest 0 V=V):XW f (n+1) rest=[]:=by rw[XW,h]
theorem Kp {f:α->α->Int}{n:Nat}{rest:List (List α)}{k:Nat}{a:α}(h:X2 f rest 0 V=K (k,a)):XW f (n+1) rest=a::XW f n (rest.set k ((rest.getD k []).drop 1)):=by rw[XW,h]
def YA:List (List α)->Nat
 |[]=>0
 |x::r=>Z x+YA r
theorem ZvJ (A B:List (List α)):YA (A++B)=YA A+YA B:=by
 induction A with
 |nil=>simp[YA]
 |cons x A j=>simp only[zR,YA,j];omega
theorem ZiV (A:List (List α)):Z A.flatten=YA A:=by
 induction A with
 |nil=>rfl
 |cons x A j=>simp[YA,j]
def Zqv (f:α->α->Int)(P:List (List α)):Option (Nat×α)->Prop
 |none=>∀ l∈P,l=[]
 |some (k,a)=>∃ A t B,P=A++(a::t)::B/\Z A=k/\(∀ l∈A,∀ c,l.head?=K c->0<f c a)/\(∀ l∈B,∀ c,l.head?=K c->f a c<=0)
theorem ZfH (f:α->α->Int):∀ (r P:List (List α)) (b:Option (Nat×α)),(∀ k a,b=K (k,a)->∃ t,P[k]?=K (a::t))->(b=V->∀ l∈P,l=[]) ->
 (∀ k a,X2 f r (Z P) b=K (k,a)->∃ t,(P++r)[k]?=K (a::t))/\(X2 f r (Z P) b=V->∀ l∈P++r,l=[]):=by
 intro r
 induction r with
 |nil=>intro P b y z;rw[zO];exact⟨y,z⟩
 |cons x r Q =>
  intro P b y z
  have grow:∀ b',(∀ k a,b'=K (k,a)->∃ t,(P++[x])[k]?=K (a::t))->(b'=V->∀ l∈P++[x],l=[])->(∀ k a,X2 f r (Z P+1) b'=K (k,a)->∃ t,(P++x::r)[k]?=K (a::t))/\(X2 f r (Z P+1) b'=V->∀ l∈P++x::r,l=[]):=λb' F M=>by
   have:=Q (P++[x]) b' F M
   rwa [zK,zT,zU,yT]at this
  have old:∀ k a,b=K (k,a)->∃ t,(P++[x])[k]?=K (a::t):=λk a e=>by
   obtain⟨t,C⟩:=y k a e;exact⟨t,by rw[zW (yI.1 C).1];exact C⟩
  cases x with
  |nil =>
   rw[gE];refine grow b old λe l hl=>?_;rcases zB.1 hl with hl|hl
   ·exact z e l hl
   ·exact zD.1 hl
  |cons a t =>
   have u:∀ k a',K (Z P,a)=K (k,a')->∃ T,(P++[a::t])[k]?=K (a'::T):=λk a' e=>by
    injection e with e;injection e with D E;subst D E;exact⟨t,by rw[zF (zE _)];simp⟩
   cases b with
   |none =>
    rw[OK];exact grow _ u λe=>(by cases e)
   |some q =>
    obtain⟨j,c⟩:=q;rw[Mj];split
    ·exact grow _ u λe=>(by cases e)
    ·exact grow _ old λe=>(by cases e)
variable (h:Cm f)
include h
theorem Zpz:∀ (r P:List (List α)) (b:Option (Nat×α)),Zqv f P b->Zqv f (P++r) (X2 f r (Z P) b):=by
 intro r
 induction r with
 |nil=>intro P b hb;rw[zO];exact hb
 |cons x r F =>
  intro P b hb
  have grow:∀ b',Zqv f (P++[x]) b'->Zqv f (P++x::r) (X2 f r (Z P+1) b'):=λb' C=>by
   have:=F (P++[x]) b' C
   rwa [zK,zT,zU,yT]at this
  cases x with
  |nil =>
   rw[gE];refine grow b ?_
   cases b with
   |none =>
    intro l hl;rcases zB.1 hl with hl|hl
    ·exact hb l hl
    ·exact zD.1 hl
   |some q =>
    obtain⟨k,a⟩:=q;obtain⟨A,t,B,rfl,hk,y,z⟩:=hb;refine⟨A,t,B++[[]],I,hk,y,λl hl c hc=>?_⟩;rcases zB.1 hl with hl|hl
    ·exact z l hl c hc
    ·rw[zD.1 hl]at hc;cases hc
  |cons a t =>
   cases b with
   |none =>
    rw[OK];refine grow _ ⟨P,t,[],rfl,rfl,λl hl c hc=>?_,λl hl=>(by cases hl)⟩;rw[hb l hl]at hc;cases hc
   |some q =>
    obtain⟨j,c⟩:=q;rw[Mj];obtain⟨A,E,B,rfl,hk,y,z⟩:=hb;split
    ·rename_i D;have u:f a c<0:=by have:=h.sym c a;omega
     refine grow _ ⟨A++(c::E)::B,t,[],rfl,rfl,λl hl d hd=>?_,λl hl=>(by cases hl)⟩;have key:f a d<0->0<f d a:=λhd=>by have:=h.sym d a;omega
     rcases zB.1 hl with hl|hl
     ·have M:=y l hl d hd;have Q:f c d<0:=by have:=h.sym d c;omega
      exact key (h.lt_le u Y)
     ·rcases zC.1 hl with rfl|hl
      ·injection hd with hd;subst hd;exact key u
      ·exact key (h.lt_le u (z l hl d hd))
    ·rename_i D;refine grow _ ⟨A,E,B++[a::t],I,hk,y,λl hl d hd=>?_⟩;rcases zB.1 hl with hl|hl
     ·exact z l hl d hd
     ·rw[zD.1 hl]at hd;injection hd with hd;subst hd;omega
theorem Zip:∀ (n:Nat) (rest:List (List α)),YA rest<=n->(∀ l∈rest,Rk f l) ->
 Rk f (XW f n rest)/\(∀ y∈XW f n rest,y∈rest.flatten)/\∀ x,(XW f n rest).filter (YV f x)=rest.flatten.filter (YV f x):=by
 intro n
 induction n with
 |zero =>
  intro rest T _;have h0:rest.flatten=[]:=xE.1 (by rw[ZiV];omega);exact⟨List.Pairwise.nil,λy j=>(by cases j),λx=>by rw[h0];rfl⟩
 |succ n ih =>
  intro rest T hs;have hb:=Zpz h rest [] V (λl hl=>(by cases hl));rw[yK,yU]at hb
  cases F:X2 f rest 0 V with
  |none =>
   rw[F]at hb
   have h0:rest.flatten=[]:=by
    rw[List.flatten_eq_nil_iff];exact hb
   rw[F0 F];exact⟨List.Pairwise.nil,λy j=>(by cases j),λx=>by rw[h0]⟩
  |some q =>
   obtain⟨k,a⟩:=q;rw[F]at hb;obtain⟨A,t,B,rfl,hk,h1,h2⟩:=hb;rw[Kp F]
   have E:(A++(a::t)::B).set k (((A++(a::t)::B).getD k []).drop 1)=A++t::B:=by
    subst hk;rw[yP,zF (zE _)];simp
   rw[E];have D:Rk f (a::t):=hs _ I
   have Q:∀ l∈A++t::B,Rk f l:=λl hl=>by
    rcases zB.1 hl with hl|hl
    ·exact hs l (by simp[hl])
    ·rcases zC.1 hl with rfl|hl
     ·exact (yF.1 D).2
     ·exact hs l (by simp[hl])
   obtain⟨i1,i2,i3⟩:=ih (A++t::B) (by rw[ZvJ]at T ⊢;simp only[YA,zP]at T ⊢;omega) Q
   have hA:∀ y∈A.flatten,f a y<0:=λy j=>by
    obtain⟨l,hl,u⟩:=yE.1 j
    cases l with
    |nil=>cases u
    |cons c l' =>
     have z:=h1 _ hl c rfl;have h4:f a c<0:=by have:=h.sym c a;omega
     rcases zC.1 u with e|e
     ·rw[e];exact h4
     ·exact h.lt_le h4 ((yF.1 (hs (c::l') (by simp[hl]))).1 y e)
   have C:∀ y∈(A++t::B).flatten,f a y<=0:=λy j=>by
    rw[yQ,zQ]at j;rcases zB.1 j with j|j
    ·have:=hA y j;omega
    ·rcases zB.1 j with j|j
     ·exact (yF.1 D).1 y j
     ·obtain⟨l,hl,u⟩:=yE.1 j
      cases l with
      |nil=>cases u
      |cons c l' =>
       have z:=h2 _ hl c rfl;rcases zC.1 u with e|e
       ·rw[e];exact z
       ·exact h.le_trans z ((yF.1 (hs (c::l') (by simp[hl]))).1 y e)
   refine⟨yF.2 ⟨λy j=>C y (i2 y j),i1⟩,λy j=>?_,λx=>?_⟩
   ·rcases zC.1 j with e|e
    ·rw[e];simp
    ·have:=i2 y e;rw[yQ,zQ]at this ⊢;rcases zB.1 this with h|h
     ·simp[h]
     ·rcases zB.1 h with h|h
      ·simp[h]
      ·exact yG _ (yG _ h)
   ·rw[yD,i3,yQ,yQ,zQ,zQ,zV,zV,zV,zV,yD]
    cases hx:YV f x a with
    |false=>simp
    |true =>
     have M:A.flatten.filter (YV f x)=[]:=by
      rw[xH];intro y j aa;have z:=Zaz h (Zfq h hx) aa;rw[h.eqv_iff]at z;have:=hA y j;omega
     rw[M];simp
end
section
variable {L:Loc}{p:Spec}(hv:ZP p=0)
include hv
def cX (L:Loc)(p:Spec)(ls:List (List Zi)):List Zi :=
 if p.uniq then Xt (Yz L p) [] (XW (ZI L p) (YA ls) ls) else XW (ZI L p) (YA ls) ls
theorem ZpD (ls:List (List Zi)):cX L p (ls.map (ZX L p))=ZX L p ls.flatten:=by
 have hc:=IF L p
 obtain⟨y,_,z⟩:=Zip hc (YA (ls.map (ZX L p))) (ls.map (ZX L p)) (zE _) (λl hl=>by
  obtain⟨k,_,rfl⟩:=yA.1 hl;exact (iK hv k).1)
 obtain⟨C,M,D⟩:=iK (L:=L) hv ls.flatten;unfold cX
 cases j:p.uniq with
 |false =>
  rw[if_neg co];refine Zg3 hc _ _ y C λx=>?_;rw[z,D,j,if_neg co]
  have:∀ ls:List (List Zi),(ls.map (ZX L p)).flatten.filter (YV (ZI L p) x)=ls.flatten.filter (YV (ZI L p) x):=by
   intro ls
   induction ls with
   |nil=>rfl
   |cons l ls u =>
    rw[zM,zQ,zQ,zV,zV,u,(iK hv l).2.2,j,if_neg co]
  exact this ls
 |true =>
  have hg:Yz L p=ZI L p:=funext λa=>funext λb=>(OQ (by rw[Zj5 hv,j,xX]) a b).symm;rw[if_pos rfl,hg];obtain⟨E,F⟩:=Zls hc _ [] List.Pairwise.nil (λa ha=>by cases ha) y;refine Zg3 hc _ _ E.srt C λx=>?_;rw[F,D,j,if_pos rfl];show (if ([]:List Zi)=[] then _ else _)=_;rw[if_pos rfl,z]
  have:∀ ls:List (List Zi),((ls.map (ZX L p)).flatten.filter (YV (ZI L p) x)).take 1=(ls.flatten.filter (YV (ZI L p) x)).take 1:=by
   intro ls
   induction ls with
   |nil=>rfl
   |cons l ls u =>
    rw[zM,zQ,zQ,zV,zV,(iK hv l).2.2,j,if_pos rfl]
    cases hl:l.filter (YV (ZI L p) x) with
    |nil=>simpa using u
    |cons a r=>simp
  exact this ls
end
theorem Oy {lt:Zi->Zi->Bool}{f:Zi->Zi->Int}(u:∀ a c,lt a c=decide (0<f c a)):∀ (r:List (List Zi)) (i:Nat) (b:Option (Nat×Zi)),Tv lt r i b=X2 f r i b:=by
 intro r
 induction r with
 |nil=>intro i b;rfl
 |cons x r y =>
  intro i b;rw[Tv,y]
  cases x with
  |nil=>rfl
  |cons a t =>
   cases b with
   |none=>rfl
   |some q =>
    obtain⟨j,c⟩:=q;rw[Mj];show X2 f r (i+1) (if lt a c=U then K (i,a) else K (j,c))=_;rw[u];simp only[decide_eq_true_eq]
theorem Sq (ds:List Rd):YA (ds.map Rd.rest)=Ym ds:=by
 induction ds with
 |nil=>rfl
 |cons d ds j=>rw[zM,YA,j,Ym]
theorem Zqm (P Q:List Rd)(x:Rd)(r:List Zi):((P++x::Q).map Rd.rest).set (Z P) ((((P++x::Q).map Rd.rest).getD (Z P) []).drop 1)=(P++{ x with rest:=x.rest.drop 1 }::Q).map Rd.rest:=by
 have h:(P++x::Q).map Rd.rest=P.map Rd.rest++x.rest::Q.map Rd.rest:=I
 rw[h,yP,zF I];simp
theorem NextD.merge {f:Zi->Zi->Int}{lt:Zi->Zi->Bool}(u:∀ a c,lt a c=decide (0<f c a)){same:Zi->Bool}{ds j:List Rd}{z:Option Zi}(h:NextD lt same ds z j):∀ n,Ym ds<=n ->
 ∃ y m,XW f n (ds.map Rd.rest)=y++(match z with|none=>[]|some a=>a::XW f m (j.map Rd.rest))/\(∀ b∈y,same b=U)/\(∀ a,z=K a->same a=X)/\Ym j<=m:=by
 induction h with
 |@done ds h =>
  intro n hn;rw[Oy u]at h;refine⟨[],n,?_,λb hb=>(by cases hb),λa e=>(by cases e),hn⟩
  cases n with
  |zero=>rfl
  |succ n=>rw[F0 h];rfl
 |@skip P Q x a r z j hx h hs k M =>
  intro n hn;rw[Oy u]at h;rw[Vm,Ym,hx,zP]at hn
  cases n with
  |zero=>omega
  |succ n =>
   obtain⟨y,m,C,D,E,F⟩:=M n (by rw[Vm,Ym];show Ym P+(Z r+Ym Q)<=n;omega);refine⟨a::y,m,?_,λb hb=>?_,E,F⟩
   ·rw[Kp h,Zqm P Q x r,hx,xV,xT,C];rfl
   ·rcases zC.1 hb with e|e
    ·rw[e];exact hs
    ·exact D b e
 |@give P Q x a r hx h hs =>
  intro n hn;rw[Oy u]at h;rw[Vm,Ym,hx,zP]at hn
  cases n with
  |zero=>omega
  |succ n =>
   refine⟨[],n,?_,λb hb=>(by cases hb),λb e=>(by injection e with e;rw[<-e];exact hs),by rw[Vm,Ym];show Ym P+(Z r+Ym Q)<=n;omega⟩;rw[Kp h,Zqm P Q x r,hx,xV,xT];rfl
def GY (same:Zx->Bool->Zi->Bool):Zx->Bool->List Zi->List Zi
 |_,_,[]=>[]
 |last,has,a::l=>if same last has a=U then GY same last has l else a::GY same a U l
theorem Ziv {same:Zx->Bool->Zi->Bool}{last:Zx}{has:Bool}(r:List Zi):∀ j:List Zi,(∀ b∈j,same last has b=U)->GY same last has (j++r)=GY same last has r:=by
 intro j
 induction j with
 |nil=>intro _;rfl
 |cons b j u =>
  intro h;rw[zR,GY,if_pos (h b I)];exact u λc hc=>h c (by simp[hc])
theorem Ziu {same:Zx->Bool->Zi->Bool}(h:∀ a b c,same a b c=X):∀ (l:List Zi) (last:Zx) (has:Bool),GY same last has l=l:=by
 intro l
 induction l with
 |nil=>intro _ _;rfl
 |cons a l j=>intro last has;rw[GY,if_neg (by rw[h];decide),j]
theorem Zsh {L:Loc}{p:Spec}(hv:ZP p=0)(u:p.uniq=U):∀ (l out:List Zi) (last:Zx) (has:Bool),(has=X/\out=[]\/has=U/\out.getLast?=K last)->Xt (Yz L p) out l=out++GY (JN L p) last has l:=by
 intro l
 induction l with
 |nil=>intro out last has _;rw[GY,zO];rfl
 |cons a l j =>
  intro out last has h;rw[Xt,GY]
  have hs:VG (Yz L p) out a=JN L p last has a:=by
   unfold VG JN;rcases h with ⟨rfl,rfl⟩|⟨rfl,h⟩
   ·rfl
   ·rw[h,hv,u];rfl
  rw[hs]
  cases hsm:JN L p last has a with
  |true=>rw[if_pos rfl,if_pos rfl];exact j out last has h
  |false =>
   rw[if_neg co,if_neg co,j (out++[a]) a U (.inr ⟨rfl,I⟩),zU];rfl
section
variable {L:Loc}{p:Spec}
theorem AllD.once {f:Zi->Zi->Int}(u:∀ a c,UD L p a c=decide (0<f c a)){last:Zx}{has:Bool}{ds j:List Rd}{out:List Zi}(h:AllD L p last has ds out j):∀ n,Ym ds<=n->out=GY (JN L p) last has (XW f n (ds.map Rd.rest)):=by
 induction h with
 |@done last has ds j h =>
  intro n hn;obtain⟨C,m,y,z,D,E⟩:=NextD.merge u h n hn;rw[y,Ziv _ C z];rfl
 |@more last has ds j F a out h k M =>
  intro n hn;obtain⟨C,m,y,z,D,E⟩:=NextD.merge u h n hn;rw[y,Ziv _ C z];show _=GY (JN L p) last has (a::XW f m (j.map Rd.rest));rw[GY,D a rfl,if_neg co,<-M m E]
theorem ZzC:Cm (λ_ _:Zi=>(0:Int)):=by
 constructor <;> intros <;> first|rfl|simp|omega
def YS (L:Loc)(p:Spec)(ls:List (List Zi)):List Zi:=if (ZP p != 0)=U then ls.flatten else cX L p ls
theorem AllD.merge {ds z:List Rd}{out:List Zi}(h:AllD L p [] X ds out z):out=YS L p (ds.map Rd.rest):=by
 unfold YS
 cases hc:ZP p != 0 with
 |true =>
  rw[if_pos rfl];have y:(ZP p==0)=X:=by simpa using hc
  have j:∀ a c,UD L p a c=decide (0<(λ_ _:Zi=>(0:Int)) c a):=λa c=>by unfold UD;rw[y];rfl
  have u:=h.once j (Ym ds) (zE _);rw[Ziu (λa b c=>by unfold JN;rw[y,xU,yL,yL])]at u
  obtain⟨_,_,M⟩:=Zip ZzC (Ym ds) (ds.map Rd.rest) (by rw[Sq];exact zE _) (λl _=>by
   unfold Rk;exact List.pairwise_of_forall (λ_ _=>xZ _))
  have D:=M [];have e:YV (λ_ _:Zi=>(0:Int)) []=λ_=>U:=rfl;have E:∀ l:List Zi,l.filter (λ_=>U)=l:=λl=>yW.2 λ_ _=>rfl;rw[e,E,E]at D;rw[u,D]
 |false =>
  rw[if_neg co];have hv:ZP p=0:=by simpa using hc
  have C:=IF L p
  have j:∀ a c,UD L p a c=decide (0<ZI L p c a):=λa c=>by
   unfold UD;rw[hv];have:=C.sym c a;show decide _=decide _;rw[decide_eq_decide];omega
  have u:=h.once j (Ym ds) (zE _);unfold cX;rw[Sq]
  cases F:p.uniq with
  |false =>
   rw[if_neg co,u];exact Ziu (λa b c=>by unfold JN;rw[F,xU,yL]) _ _ _
  |true =>
   rw[if_pos rfl,u,Zsh hv F _ [] [] X (.inl ⟨rfl,rfl⟩)];rfl
theorem Zbw (ls:List (List Zi)):YS L p (ls.map (ZX L p))=ZX L p ls.flatten:=by
 unfold YS
 cases hc:ZP p != 0 with
 |true =>
  have h:∀ l,ZX L p l=l:=λl=>by unfold ZX;rw[hc,if_pos rfl]
  have j:ZX L p=id:=funext h;rw[if_pos rfl,j,List.map_id];rfl
 |false=>rw[if_neg co];exact ZpD (by simpa using hc) ls
end
theorem Zx6 {l:List Fil}{n:Zx}(h:n∉l.map Fil.name):Y5 l n=V:=by
 induction l with
 |nil=>rfl
 |cons f l j =>
  rw[zM,zC]at h;rw[Y5,if_neg λe=>h (.inl e),j λe=>h (.inr e)]
def FU:da->List Zx->List (List Zi)->List Rd
 |r::rs,n::ns,l::ls=>⟨r,n,Y1 l,l⟩::FU rs ns ls
 |_,_,_=>[]
theorem Zvf:∀ (rs:da) (ns:List Zx) (ls:List (List Zi)),Z rs=Z ns->Z ns=Z ls->(FU rs ns ls).map Rd.r=rs/\(FU rs ns ls).map Rd.rest=ls:=by
 intro rs
 induction rs with
 |nil =>
  intro ns ls j u
  cases ns with
  |nil =>
   cases ls with
   |nil=>exact⟨rfl,rfl⟩
   |cons l ls=>cases u
  |cons n ns=>cases j
 |cons r rs C =>
  intro ns ls j u
  cases ns with
  |nil=>cases j
  |cons n ns =>
   cases ls with
   |nil=>cases u
   |cons l ls =>
    obtain⟨y,z⟩:=C ns ls (by simpa using j) (by simpa using u);rw[FU,zM,zM,y,z];exact⟨rfl,rfl⟩
theorem ZfQ:∀ (rs:da) (ns:List Zx) (ls:List (List Zi)),∀ x∈FU rs ns ls,∃ (i:Nat) (r:Nat) (n:Zx) (l:List Zi),rs[i]?=K r/\ns[i]?=K n/\ls[i]?=K l/\x=⟨r,n,Y1 l,l⟩:=by
 intro rs
 induction rs with
 |nil=>intro ns ls x hx;simp[FU]at hx
 |cons r rs C =>
  intro ns ls x hx
  cases ns with
  |nil=>simp[FU]at hx
  |cons n ns =>
   cases ls with
   |nil=>simp[FU]at hx
   |cons l ls =>
    rw[FU]at hx;rcases zC.1 hx with e|h
    ·exact⟨0,r,n,l,rfl,rfl,rfl,e⟩
    ·obtain⟨i,F,E,D,j,u,y,z⟩:=C ns ls x h;exact⟨i+1,F,E,D,by simpa using j,by simpa using u,by simpa using y,z⟩
section
variable {o t:Nat}{tm:Tmp}{s:Sto}{A:da}{a q:AV}{L:Loc}{p:Spec}(hm:TmpOk tm)(hk:StoOk s)(hc:s.crashed=X)(h0:s.count=0)
 (ha:LocAV a L) (hok:LocOk L) (hsm:LocSm L) (hq:SpecAV q p) (hks:∀ k∈p.keys,KeOk k) (hkl:Z p.keys<=1048576)
 {xn:AV} {ns:List Zx} {ls:List (List Zi)} (hx:SS xn ns) (hnl:Z ns=Z ls) (hn64:Z ns<=65536)
 (hfl:∀ (i:Nat) (n:Zx) (l:List Zi),ns[i]?=K n->ls[i]?=K l->X5 l=U/\(Y1 l).length<=262144/\((Yp tm n=0/\∃ f,Y5 s.files n=K f/\f.text=Y1 l)\/(Yp tm n=5/\l=[])))
 {m:Nat} (hmt:YA ls<=m) (hm64:m<=65536)
include hm hk hc h0 ha hok hsm hq hks hkl hx hnl hn64 hfl hmt hm64
end
def Q8:List Rd->Nat
 |[]=>0
 |d::r=>ZJ d.rest+Q8 r
theorem Zaq (A B:List Rd):Q8 (A++B)=Q8 A+Q8 B:=by
 induction A with
 |nil=>simp[Q8]
 |cons x A j=>simp only[zR,Q8,j];omega
theorem ZhL:∀ ds:List Rd,Q8 ds=ZJ (ds.map Rd.rest).flatten:=by
 intro ds
 induction ds with
 |nil=>rfl
 |cons d ds j=>rw[Q8,j,zM,zQ,Rp]
theorem NextD.cost {lt:Zi->Zi->Bool}{same:Zi->Bool}{ds j:List Rd}{z:Option Zi}(h:NextD lt same ds z j):Q8 j<=Q8 ds/\∀ a,z=K a->Q8 j+ZJ [a]<=Q8 ds:=by
 induction h with
 |done h=>exact⟨zE _,λa e=>by cases e⟩
 |skip hx h hs k D =>
  obtain⟨y,u⟩:=D;rw[Zaq,Q8]at y u ⊢;rw[hx,ZJ];dsimp only at y u;exact⟨Y,λa e=>by have:=u a e;omega⟩
 |@give P Q x a r hx h hs =>
  have C:ZJ x.rest=Z a+6+ZJ r:=by rw[hx];rfl
  rw[Zaq,Q8,Zaq,Q8,C];dsimp only;exact⟨Y,λb e=>by injection e with e;subst e;simp only[ZJ];omega⟩
theorem NextD.names {lt:Zi->Zi->Bool}{same:Zi->Bool}{ds j:List Rd}{z:Option Zi}(h:NextD lt same ds z j):j.map Rd.n=ds.map Rd.n:=by
 induction h with
 |done h=>rfl
 |skip hx h hs k u=>rw[u];simp
 |give hx h hs=>simp
theorem Zkt {fs:List Fil}{n m:Zx}{f:Fil}(j:f.name=n)(h:m≠n):Y5 (fs++[f]) m=Y5 fs m:=by
 induction fs with
 |nil =>
  show (if m=f.name then K f else Y5 [] m)=Y5 [] m;rw[if_neg (by rw[j];exact h)]
 |cons g fs u=>rw[zR,Y5,Y5,u]
def sF (fs:List Fil)(n x:Zx)(pk:Nat):Sto:=⟨262144,pk,fs++[⟨n,x,0⟩],X,0⟩
theorem ZxU {tm:Tmp}{fs:List Fil}{n x:Zx}{pk:Nat}(hcl:tm.closed=X)(hn:n∈tm.names)(hs:n∉tm.sld)(hlim:tm.limit=262144)(hg:Y5 fs n=V){l:List Zx}(j:X5 l=U)(hl:ZB fs+Z x+ZJ l<=262144) :
 B8 tm (sF fs n x pk) n l=(0,sF fs n (x++Y1 l) (max pk (ZB fs+Z x+ZJ l))):=by
 have z:ZB (sF fs n x pk).files=ZB fs+Z x:=by show ZB (fs++[_])=_;rw[Wn];simp[ZB]
 have y:Yp tm n=0:=by unfold Yp;rw[if_neg (by simp[hcl]),if_pos hn]
 have C:=iY tm.names (sF fs n x pk).files;have u:=Wc l;unfold B8;rw[if_neg (by simp[y]),if_neg hs,if_neg (by simp[j]),if_neg (by unfold Ur;omega)];unfold Sto.append;rw[JX rfl rfl,if_neg (by simp[sF])];rw[show (sF fs n x pk).files=fs++[⟨n,x,0⟩] from rfl,ZfC hg _ rfl];dsimp only;rw[show ZB (fs++[⟨n,x,0⟩])=ZB fs+Z x from z,Wc,if_neg (by show ¬ (ZB fs+Z x+ZJ l > 262144);omega),Zg8 hg _ rfl];rfl
theorem ZkA {x1:AV}{ns:List Zx}(hx:SS x1 ns)(hl:Z ns<=65536)(o N:Nat)(y5 y6 aa:AV)(H0:Hp):∀ (r d:List Zx) (x5:AV) (rs:da) (H:Hp),ns=d++r->Z rs=Z d->RowN N H 1 x5 (rs.map λr=>yR r 0)->N<=Z H ->
 ∃ (H':Hp) (z:AV) (j:da),GW (.ptr o 0) y5 y6 aa x5 x1 (J O (Z ns:Int)) (J O (Z d:Int)) H0 H=Nu (.ptr o 0) y5 y6 aa z H0 H'/\RowN N H' 1 z ((rs++j).map λr=>yR r 0)/\Z j=Z r/\(∀ a,a<N->H'[a]?=H[a]?)/\(∀ (a:Nat) (C:c6),H[a]?=K (.cells C)->H'[a]?=K (.cells C)) /\
  (∀ (i:Nat) (n:Zx),r[i]?=K n->∃ Q,j[i]?=K Q/\H'[Q]?=K (.cells (U4 o n 0 X X [])))/\j.Nodup/\(∀ Q∈j,Z H<=Q)/\Z H<=Z H':=by
 intro r
 induction r with
 |nil =>
  intro d x5 rs H hd M u hN;rw[zO]at hd;subst hd;have D:decide ((Z ns:Int)<(Z ns:Int))=X:=I
  refine⟨H,x5,[],?_,by rw[zO];exact u,rfl,λ_ _=>rfl,λ_ _ h=>h,λi n h=>by simp at h,I,I,zE _⟩;rw[En];simp only[go_sem,D]
 |cons n r ih =>
  intro d x5 rs H hd M u hN;have ac:Z ns=Z d+(Z r+1):=by rw[hd];simp
  have D:decide ((Z d:Int)<(Z ns:Int))=U:=by rw[decide_eq_true_eq];omega
  have ae:wD.wrap ((Z d:Int)+1)=((Z d+1:Nat):Int):=by rw[Zo Y Y];omega
  have ab:ns[Z d]?=K n:=by rw[hd,zF (zE _)];simp
  have E:=SS.idx hx ab;have ad:=ZkV o n H;have F:(Zt 1 [(0,yR (Z H) 0)] [.nilp]).map (xQ 1 .clip)=K (.vs 1 .clip [.ptr (Z H) 0]):=rfl;obtain⟨x',H2,w1,w2,w3,w4,w5⟩:=(u.push [.cells (U4 o n 0 X X [])]).app (by simp;omega) 8 (.vs 1 .clip [.ptr (Z H) 0]) [.ptr (Z H) 0] rfl (by simp;omega);have T:∀ (a:Nat) (C:c6),(H++[zA (U4 o n 0 X X [])])[a]?=K (.cells C)->H2[a]?=K (.cells C):=w5;have y:H2[Z H]?=K (.cells (U4 o n 0 X X [])):=T _ _ I;have af:Z H<Z H2:=Zn y;obtain⟨H3,z,j,m1,m2,m3,m4,m5,m6,m7,m8,m9⟩:=ih (d++[n]) x' (rs++[Z H]) H2 (by rw[hd];simp) (by simp[M]) (by rw[zY];exact w2) w3;rw[zK,zT]at m1;refine⟨H3,z,Z H::j,?_,by rw[show rs++Z H::j=rs++[Z H]++j by simp];exact m2,by simp[m3],λa ha=>(m4 a ha).trans ((w4 a ha).trans (zW Y)),λa C h=>m5 a C (T a C (Y8 h _)),λi k hi=>?_,?_,λQ hr=>?_,Y⟩
  ·rw[En];simp only[go_sem,D,Zd4,E,Zu,ad,F,w1,Zd5,ae];exact m1
  ·cases i with
   |zero =>
    simp at hi;subst hi;exact⟨Z H,rfl,m5 _ _ y⟩
   |succ i=>exact m6 i k (by simpa using hi)
  ·rw[zZ];exact⟨λh=>by have:=m8 _ h;omega,m7⟩
  ·rcases zC.1 hr with e'|h
   ·omega
   ·have:=m8 _ h;omega
section
variable {o t g:Nat}{tm:Tmp}{fs:List Fil}{n:Zx}{L:Loc}{lx c e:AV}{p:Spec}{xp:AV}{rx:AV}{rs:da}
 (hm:TmpOk tm) (hcl:tm.closed=X) (hn:n∈tm.names) (hns:n∉tm.sld) (hlim:tm.limit=262144) (hgn:Y5 fs n=V)
 (hsto:∀ x pk,ZB fs+Z x<=262144->pk<=262144->StoOk (sF fs n x pk))
 (hl:LocAV (.agg (L.cells lx c e)) L) (hok:LocOk L) (hs:SpecAV (.agg (p.cells xp)) p) (hks:∀ k∈p.keys,KeOk k)
 (hrx:Sl 1 rx (rs.map λr=>yR r 0)) (hnd:rs.Nodup) (hlen:Z rs<=1048576) (hgd:g∉rs)
include hm hcl hn hns hlim hgn hsto hl hok hs hks hrx hnd hlen hgd
theorem ZpE (H0:Hp):∀ (k:Nat) (ds:List Rd) (last:Zx) (has:Bool) (j:List Zi) (pk:Nat) (A:da) (H:Hp),Ym ds<=k->ZB fs+ZJ j+Q8 ds<=262144->pk<=262144->Z last<=1048576->ds.map Rd.r=rs->n∉ds.map Rd.n ->
 SysAt H o t tm (sF fs n (Y1 j) pk) A->(∀ x∈ds,RdAt H o tm (sF fs n (Y1 j) pk) A x)->H[g]?=K (.cells (Ka L lx c e p xp (ZP p==0) rx last has))->g∉A ->
 ∃ H' A' ag out ah,GV (.ptr o 0) (.str n) (.ptr g 0) H0 H=Nv (.ptr o 0) (.str n) H0 H'/\AllD L p last has ds out ah/\SysAt H' o t tm (sF fs n (Y1 (j++out)) ag) A'/\ag<=262144/\ZB fs+ZJ (j++out)<=262144/\Stp (g::rs++A) H H'/\(∀ a∈A',a∈A\/Z H<=a):=by
 have e0:((0:Int) != 0)=X:=rfl;intro k
 induction k with
 |zero =>
  intro ds last has j pk A H ht aj y hlast hr ab C E hg hgA;have hk:=hsto (Y1 j) pk (by rw[Wc];omega) y;obtain⟨H1,z,u,p1,D,p3,p4,p5,p6,p7⟩:=AA hm hk rfl rfl hl hok hs hks hrx hnd hlen hgA hgd hlast hr C E hg
  cases z with
  |some a=>have:=D.less.2 a rfl;omega
  |none =>
   refine⟨H1,A,pk,[],u,?_,.done D,by rw[zO];exact p3,y,by rw[zO];omega,p4,λa ha=>.inl ha⟩;rw[De];simp only[p1,go_sem,zG,zH,e0,Dd,xM,xP,zX]
 |succ k ih =>
  intro ds last has j pk A H ht aj y hlast hr ab C E hg hgA;have hk:=hsto (Y1 j) pk (by rw[Wc];omega) y;obtain⟨H1,z,u,p1,D,p3,p4,p5,p6,p7⟩:=AA hm hk rfl rfl hl hok hs hks hrx hnd hlen hgA hgd hlast hr C E hg
  cases z with
  |none =>
   refine⟨H1,A,pk,[],u,?_,.done D,by rw[zO];exact p3,y,by rw[zO];omega,p4,λa ha=>.inl ha⟩;rw[De];simp only[p1,go_sem,zG,zH,e0,Dd,xM,xP,zX]
  |some a =>
   have ao:Z a<=4096:=by
    obtain⟨x,hx,ha⟩:=D.mem a rfl;have:=xD.1 (E x hx).fit a ha;simpa using this
   have ak:=D.cost.2 a rfl;have T:ZJ [a]=Z a+6:=rfl;have ad:(Y1 j).length=ZJ j:=Wc j;obtain⟨H2,A2,w1,F⟩:=ZkW p3 hm hk n (Zby a) (λs hs=>by rw[zD.1 hs];omega) (by rw[T];omega);have aa:=ZxU (tm:=tm) (fs:=fs) (n:=n) (x:=Y1 j) (pk:=pk) hcl hn hns hlim hgn (l:=[a]) (by simp[X5];omega) (by rw[ad,T];omega);rw[aa,<-Znr]at w1 F;have an:=p3.lt
   have Q:∀ {b:Nat},b<Z H1->b∉A->b∉A2:=λhb hn h1=>by
    rcases F.own _ h1 with k|k
    ·exact hn k
    ·omega
   have al:=F.stp.get p7 hgA
   have ae:∀ x∈u,RdAt H2 o tm (sF fs n (Y1 (j++[a])) (max pk (ZB fs+(Y1 j).length+ZJ [a]))) A2 x:=λx hx=>by
    have M:=p6 x hx;have af:x.n≠n:=λe'=>ab (by rw[<-D.names,<-e'];exact zL hx);refine⟨M.rdr.frame (F.stp.at' x.r M.lt M.out),Q M.lt M.out,M.fit,M.len,M.file.imp (λ⟨f1,f,f2,f3⟩=>⟨f1,f,?_,f3⟩) id⟩;have ac:Y5 (fs++[⟨n,Y1 j,0⟩]) x.n=K f:=f2;rw[Zkt rfl af]at ac;show Y5 (fs++[⟨n,_,0⟩]) x.n=K f;rw[Zkt rfl af];exact ac
   have ap:=p4.len;have aq:=F.stp.len;obtain⟨H3,A3,am,out,ai,m1,m2,m3,m4,m5,m6,m7⟩:=ih u a U (j++[a]) _ A2 H2 (by have:=D.less.2 a rfl;omega) (by rw[Rp];omega) (by rw[ad,T];omega) Y p5 (by rw[D.names];exact ab) F.at' ae al (Q (Zn p7) hgA);refine⟨H3,A3,am,a::out,ai,?_,.more D m2,by rw[show j++a::out=j++[a]++out by simp];exact m3,m4,by rw[show j++a::out=j++[a]++out by simp];exact m5,?_,λb hb=>?_⟩
   ·rw[De];simp only[p1,go_sem,zG,zH,e0,Dd,xM,xP,yB,Zd3,Jf,w1];exact m1
   ·have s1:Stp (g::rs++A) H H2:=p4.trans F.stp (λ_ h=>h) λb hb=>.inl (yG _ hb);refine s1.trans m6 (λ_ h=>h) λb hb=>?_;rcases zB.1 hb with h|h
    ·exact .inl (yN _ h)
    ·rcases F.own b h with h|h
     ·exact .inl (yG _ h)
     ·exact .inr Y
   ·rcases m7 b hb with h|h
    ·rcases F.own b h with h|h
     ·exact .inl h
     ·exact .inr Y
    ·exact .inr Y
end
abbrev Pr:=Zx×List Zi
def Yx (P:List Pr):List Fil:=P.map λx=>⟨x.1,Y1 x.2,(Y1 x.2).length⟩
def ZG:List Pr->Nat
 |[]=>0
 |x::P=>ZJ x.2+ZG P
theorem Zar (P Q:List Pr):ZG (P++Q)=ZG P+ZG Q:=by
 induction P with
 |nil=>simp[ZG]
 |cons x P j=>simp only[zR,ZG,j];omega
theorem Zrf {P Q:List Pr}(h:P.Perm Q):ZG P=ZG Q:=by
 induction h with
 |nil=>rfl
 |cons x _ z=>simp only[ZG,z]
 |swap x y l=>simp only[ZG];omega
 |trans _ _ j u=>exact j.trans u
theorem Zas (p:Pr->Bool):∀ P:List Pr,ZG (P.filter p)<=ZG P:=by
 intro P
 induction P with
 |nil=>simp[ZG]
 |cons x P j =>
  rw[yD];split
  ·simp only[ZG];omega
  ·simp only[ZG];omega
theorem Zl5 {P:List Pr}{x:Pr}(h:x∈P):ZJ x.2<=ZG P:=by
 induction P with
 |nil=>cases h
 |cons y P j =>
  simp only[ZG];rcases zC.1 h with rfl|h
  ·omega
  ·have:=j h;omega
theorem EY (P:List Pr):(Yx P).map Fil.name=P.map (·.1):=by simp[Yx]
theorem ZwV (P Q:List Pr):Yx (P++Q)=Yx P++Yx Q:=by simp[Yx]
theorem Rr (P:List Pr):ZB (Yx P)=ZG P:=by
 induction P with
 |nil=>rfl
 |cons x P j=>show (Y1 x.2).length+ZB (Yx P)=_;rw[j,Wc];rfl
theorem ZwW:∀ {P:List Pr},(P.map (·.1)).Nodup->∀ {x:Pr},x∈P->Y5 (Yx P) x.1=K ⟨x.1,Y1 x.2,(Y1 x.2).length⟩:=by
 intro P
 induction P with
 |nil=>intro _ x h;cases h
 |cons y P j =>
  intro hnd x h;rw[zM,zZ]at hnd;show (if x.1=y.1 then K _ else Y5 (Yx P) x.1)=_;rcases zC.1 h with rfl|h
  ·rw[if_pos rfl]
  ·rw[if_neg (λe=>hnd.1 (by rw[<-e];exact zL h))];exact j hnd.2 h
theorem Zeb {a b:List Fil}{n:Zx}(h:n∉a.map Fil.name):Y5 (a++b) n=Y5 b n:=by
 induction a with
 |nil=>rfl
 |cons f a j =>
  simp only[zM,zC,not_or]at h;show (if n=f.name then K f else Y5 (a++b) n)=_;rw[if_neg h.1];exact j h.2
theorem ZiJ {a b:List Fil}{n:Zx}(h:n∉a.map Fil.name):Vt (a++b) n=a++Vt b n:=by
 induction a with
 |nil=>rfl
 |cons f a j =>
  simp only[zM,zC,not_or]at h;show (if n=f.name then a++b else f::Vt (a++b) n)=_;rw[if_neg h.1,j h.2];rfl
theorem ZoE (nm:List Zx)(a b:List Fil):X9 nm (a++b)=X9 nm a+X9 nm b:=by
 induction a with
 |nil=>simp[X9]
 |cons f a j=>simp only[zR,X9,j];omega
theorem ZsW {nm:List Zx}{a:List Fil}(h:∀ f∈a,f.name∉nm):X9 nm a=0:=by
 induction a with
 |nil=>rfl
 |cons f a j=>simp only[X9,if_neg (h f I),j λg hg=>h g (by simp[hg])]
theorem Zq1 {nm:List Zx}{a:List Fil}(h:∀ f∈a,f.name∈nm):X9 nm a=ZB a:=by
 induction a with
 |nil=>rfl
 |cons f a j=>simp only[X9,ZB,if_pos (h f I),j λg hg=>h g (by simp[hg])]
def Wx (n:Zx)(P:List Pr):List Pr:=P.filter λx=>!(x.1==n)
theorem ZhS {n:Zx}:∀ {P:List Pr},n∉P.map (·.1)->Wx n P=P:=by
 intro P h;unfold Wx;rw[yW];intro x hx;have:x.1≠n:=λe=>h (by rw[<-e];exact zL hx);simp[this]
theorem Zoe {n:Zx}:∀ {P:List Pr},(P.map (·.1)).Nodup->Vt (Yx P) n=Yx (Wx n P):=by
 intro P
 induction P with
 |nil=>intro _;rfl
 |cons y P j =>
  intro hnd;rw[zM,zZ]at hnd;show (if n=y.1 then Yx P else _::Vt (Yx P) n)=_;unfold Wx;rw[yD];by_cases h:y.1=n
  ·subst h;rw[if_pos rfl,if_neg I];have:=ZhS hnd.1;unfold Wx at this;rw[this]
  ·rw[if_neg (λe=>h e.symm),if_pos (by simp[h]),j hnd.2];rfl
theorem Zpx (n:Zx)(P:List Pr):WA n (P.map (·.1))=(Wx n P).map (·.1):=by
 unfold WA Wx;rw[List.filter_map];rfl
structure BOk (B:List Fil):Prop where
 nd:(B.map Fil.name).Nodup
 nm:∀ f∈B,FK f.name=U
 syn:∀ f∈B,f.syn<=Z f.text
 len:Z B<=1
 used:ZB B<=1000
 ne:∀ f∈B,∀ i,f.name≠Yd i
structure XS (B:List Fil)(tm:Tmp)(s:Sto)(P:List Pr)(k:Nat):Prop where
 tmE:tm.owner=ZfO/\tm.names=P.map (·.1)/\tm.limit=262144/\tm.last=k/\tm.closed=X
 sldE:∀ x∈tm.sld,∃ i,1<=i/\i<=k/\x=Yd i
 stE:s.limit=262144/\s.peak<=262144/\s.files=B++Yx P/\s.crashed=X/\s.count=0
 nd:(P.map (·.1)).Nodup
 num:∀ x∈P,∃ i,1<=i/\i<=k/\x.1=Yd i
 kle:k<=126
 many:Z P<=42
 nk:Z P<=k
 cost:ZG P<=100000
 fit:∀ x∈P,X5 x.2=U
theorem Zqo {B fs:List Fil}(hB:BOk B)(nd:(fs.map Fil.name).Nodup)(num:∀ f∈fs,∃ i,1<=i/\i<=128/\f.name=Yd i)(syn:∀ f∈fs,f.syn<=Z f.text)(len:Z fs<=60)(used:ZB B+ZB fs<=262144)
 {s:Sto} (z:s.limit=262144) (E:s.peak<=262144) (j:s.files=B++fs) (F:s.count=0):StoOk s:=by
 refine⟨Y,?_,Y,?_,?_,?_,?_,Y⟩
 ·rw[j,Wn,z];exact used
 ·rw[j];intro f u;rcases zB.1 u with h|h
  ·exact hB.nm f h
  ·obtain⟨i,C,D,e⟩:=num f h;rw[e];exact Zlp ⟨C,D⟩
 ·rw[j,zY,yY];refine⟨hB.nd,nd,λa ha b hb e=>?_⟩;obtain⟨f,u,rfl⟩:=yA.1 ha;obtain⟨g,hg,rfl⟩:=yA.1 hb;obtain⟨i,_,_,y⟩:=num g hg;exact hB.ne f u i (e.trans y)
 ·rw[j];intro f u;rcases zB.1 u with h|h
  ·exact hB.syn f h
  ·exact syn f h
 ·rw[j,zK];have:=hB.len;omega
section
variable {B:List Fil}{tm:Tmp}{s:Sto}{P:List Pr}{k:Nat}
theorem XS.tmOk (h:XS B tm s P k):TmpOk tm:=by
 obtain⟨j,u,z,y,C⟩:=h.tmE;refine⟨by rw[j];show 4<=16;omega,Y,?_,by have:=h.kle;omega⟩;rw[u,y,zN];exact h.nk
theorem Zny (h:XS B tm s P k):∀ f∈Yx P,∃ i,1<=i/\i<=128/\f.name=Yd i:=by
 intro f j;obtain⟨x,hx,rfl⟩:=yA.1 j;obtain⟨i,u,y,e⟩:=h.num x hx;have:=h.kle;exact⟨i,u,Y,e⟩
theorem Znz (P:List Pr):∀ f∈Yx P,f.syn<=Z f.text:=by
 intro f j;obtain⟨x,hx,rfl⟩:=yA.1 j;exact zE _
theorem XS.stoOk (hB:BOk B)(h:XS B tm s P k):StoOk s:=by
 obtain⟨j,u,y,C,z⟩:=h.stE;refine Zqo hB (fs:=Yx P) (by rw[EY];exact h.nd) (Zny h) (Znz P) (by have:=h.many;simp[Yx];omega) (by rw[Rr];have:=h.cost;have:=hB.used;omega) j u y z
theorem XS.notB (hB:BOk B)(i:Nat):Yd i∉B.map Fil.name:=λhm=>by
 obtain⟨f,j,e⟩:=yA.1 hm;exact hB.ne f j i e
theorem XS.get (hB:BOk B)(h:XS B tm s P k){x:Pr}(hx:x∈P):Y5 s.files x.1=K ⟨x.1,Y1 x.2,(Y1 x.2).length⟩:=by
 obtain⟨i,_,_,e⟩:=h.num x hx;rw[h.stE.2.2.1,Zeb (by rw[e];exact XS.notB hB i)];exact ZwW h.nd hx
theorem XS.used (hB:BOk B)(h:XS B tm s P k):Ur tm s=ZG P:=by
 unfold Ur;rw[h.stE.2.2.1,h.tmE.2.1,ZoE,ZsW,Zq1,Rr]
 ·omega
 ·intro f j;rw[<-EY];exact zL j
 ·intro f j hm;obtain⟨x,hx,e⟩:=yA.1 hm;obtain⟨i,_,_,u⟩:=h.num x hx;exact hB.ne f j i (by rw[<-e,u])
theorem XS.fresh (h:XS B tm s P k):Yd (k+1)∉P.map (·.1):=λhm=>by
 obtain⟨x,hx,e⟩:=yA.1 hm;obtain⟨i,y,z,u⟩:=h.num x hx;have hk:=h.kle;have:=ZkD (i:=i) (j:=k+1) ⟨y,Y⟩ ⟨Y,Y⟩ (by rw[<-u,e]);omega
theorem XS.unsld (h:XS B tm s P k):Yd (k+1)∉tm.sld:=λhm=>by
 obtain⟨i,y,z,u⟩:=h.sldE _ hm;have hk:=h.kle;have:=ZkD (i:=k+1) (j:=i) ⟨Y,Y⟩ ⟨y,Y⟩ u;omega
theorem XS.out (hB:BOk B)(h:XS B tm s P k):Y5 (B++Yx P) (Yd (k+1))=V:=by
 rw[Zeb (XS.notB hB _)];exact Zx6 (by rw[EY];exact h.fresh)
theorem XS.find (h:XS B tm s P k){x:Pr}(hx:x∈P):Yp tm x.1=0:=by
 unfold Yp;rw[if_neg (by simp[h.tmE.2.2.2.2]),if_pos (by rw[h.tmE.2.1];exact zL hx)]
theorem XS.remove (h:XS B tm s P k)(hB:BOk B){x:Pr}(hx:x∈P){sl:List Zx}(C:∀ y∈sl,y∈tm.sld) :
 XS B { tm with names:=WA x.1 tm.names,sld:=sl } { s with files:=Vt s.files x.1 } (Wx x.1 P) k:=by
 obtain⟨i,_,_,e⟩:=h.num x hx;obtain⟨D,E,F,M,Q⟩:=h.tmE;obtain⟨T,f2,f3,f4,f5⟩:=h.stE;have j:(Wx x.1 P).Sublist P:=List.filter_sublist;have u:∀ y∈Wx x.1 P,y∈P:=λy z=>j.subset z;refine⟨⟨D,?_,F,M,Q⟩,λy z=>h.sldE y (C y z),⟨T,f2,?_,f4,f5⟩,h.nd.sublist (j.map _),λy z=>h.num y (u y z),h.kle,?_,?_,?_,λy z=>h.fit y (u y z)⟩
 ·show WA x.1 tm.names=_;rw[E,Zpx]
 ·show Vt s.files x.1=_;rw[f3,ZiJ (by rw[e];exact XS.notB hB i),Zoe h.nd]
 ·have:=j.length_le;have:=h.many;omega
 ·have:=j.length_le;have:=h.nk;omega
 ·have:=Zas (λy=>!(y.1==x.1)) P;have:=h.cost;unfold Wx;omega
theorem XS.nd1 (h:XS B tm s P k)(l:List Zi):((P++[(Yd (k+1),l)]).map (·.1)).Nodup:=by
 rw[zY,yY];refine⟨h.nd,I,λa ha b hb e=>?_⟩;simp only[zM,List.map_nil,zD]at hb;subst hb;exact h.fresh (e ▸ ha)
theorem XS.stoX (h:XS B tm s P k)(hB:BOk B)(hm:Z P<42)(hk:k<126){x:Zx}{j pk:Nat}(E:j<=Z x)(hx:ZB (B++Yx P)+Z x<=262144)(F:pk<=262144){s':Sto}
 (z:s'.limit=262144) (M:s'.peak=pk) (C:s'.files=B++Yx P++[⟨Yd (k+1),x,j⟩]) (D:s'.count=0):StoOk s':=by
 rw[Wn,Rr]at hx;refine Zqo hB (fs:=Yx P++[⟨Yd (k+1),x,j⟩]) ?_ ?_ ?_ ?_ ?_ z Y (by rw[C,zU]) D
 ·rw[zY,EY];have:=h.nd1 [];rw[zY]at this;exact this
 ·intro f y;rcases zB.1 y with u|u
  ·exact Zny h f u
  ·rw[zD.1 u];exact⟨k+1,Y,Y,rfl⟩
 ·intro f y;rcases zB.1 y with u|u
  ·exact Znz P f u
  ·rw[zD.1 u];exact E
 ·simp[Yx];omega
 ·rw[Wn,Rr];show ZB B+(ZG P+(Z x+0))<=_;omega
theorem XS.add (h:XS B tm s P k){l:List Zi}(u:X5 l=U)(hk:k<126)(hm:Z P<42)(hc:ZG P+ZJ l<=100000){pk:Nat}(z:pk<=262144){y:Tmp}{s':Sto}
 (Q:y={ tm with last:=tm.last+1,names:=tm.names++[Yd (k+1)],sld:=eS tm.sld (Yd (k+1)) }) (hs:s'=⟨262144,pk,B++Yx P++[⟨Yd (k+1),Y1 l,(Y1 l).length⟩],X,0⟩) :
 XS B y s' (P++[(Yd (k+1),l)]) (k+1):=by
 subst Q hs;obtain⟨D,E,F,e4,M⟩:=h.tmE;refine⟨⟨D,?_,F,?_,M⟩,?_,⟨rfl,z,?_,rfl,rfl⟩,h.nd1 l,λx hx=>?_,Y,by simp;omega,by have:=h.nk;simp;omega,by rw[Zar];simp only[ZG];omega,λx hx=>?_⟩
 ·show tm.names++[Yd (k+1)]=_;rw[E];simp
 ·show tm.last+1=k+1;omega
 ·intro x hx;have hx:x∈eS tm.sld (Yd (k+1)):=hx
  have:x∈tm.sld\/x=Yd (k+1):=by
   unfold eS at hx;split at hx
   ·exact .inl hx
   ·rcases zB.1 hx with j|j
    ·exact .inl j
    ·exact .inr (zD.1 j)
  rcases this with j|j
  ·obtain⟨i,C,T,e⟩:=h.sldE x j;exact⟨i,C,Y,e⟩
  ·exact⟨k+1,Y,zE _,j⟩
 ·show B++Yx P++[_]=_;rw[ZwV,zU];rfl
 ·rcases zB.1 hx with j|j
  ·obtain⟨i,C,T,e⟩:=h.num x j;exact⟨i,C,Y,e⟩
  ·rw[zD.1 j];exact⟨k+1,Y,zE _,rfl⟩
 ·rcases zB.1 hx with j|j
  ·exact h.fit x j
  ·rw[zD.1 j];exact u
theorem XS.tm1 (h:XS B tm s P k)(hk:k<126):TmpOk { tm with last:=tm.last+1,names:=tm.names++[Yd (k+1)] }:=by
 obtain⟨j,u,z,y,C⟩:=h.tmE;refine⟨by show Z tm.owner<=16;rw[j];show 4<=16;omega,by show tm.limit<=_;omega,?_,by show tm.last+1<=_;omega⟩;show (tm.names++[Yd (k+1)]).length<=tm.last+1;have:=h.nk;rw[u,zK,zN,y];simp;omega
theorem XS.new (h:XS B tm s P k)(hB:BOk B)(hk:k<126)(hm:Z P<42) :
 Pc tm s=((Yd (k+1),0),({ tm with last:=tm.last+1,names:=tm.names++[Yd (k+1)] },⟨262144,s.peak,B++Yx P++[⟨Yd (k+1),[],0⟩],X,0⟩)):=by
 obtain⟨C,M,Q,D,E⟩:=h.tmE;obtain⟨z,T,j,u,y⟩:=h.stE;have F:=Zzu (tm:=tm) (s:=s) u y E (n:=Yd (k+1)) (by rw[C,D];rfl) (Zlp ⟨Y,Y⟩) (by rw[j];exact h.out hB) (by rw[j,zK];have:=hB.len;simp[Yx];omega);rw[F]
 have:({ s with files:=s.files++[⟨Yd (k+1),[],0⟩] }:Sto)=⟨262144,s.peak,B++Yx P++[⟨Yd (k+1),[],0⟩],X,0⟩:=by
  cases s;dsimp only at z j u y;subst z j u y;rfl
 rw[this]
theorem XS.write (h:XS B tm s P k)(hB:BOk B){l:List Zi}(y:X5 l=U)(hk:k<126)(hm:Z P<42)(hc:ZG P+ZJ l<=100000) :
 ∃ tm1 D E C M,Pc tm s=((Yd (k+1),0),(tm1,D))/\TmpOk tm1/\StoOk D/\B8 tm1 D (Yd (k+1)) l=(0,E)/\StoOk E/\Pd tm1 E (Yd (k+1))=(0,(C,M)) /\
  XS B C M (P++[(Yd (k+1),l)]) (k+1):=by
 obtain⟨e1,e2,e3,e4,F⟩:=h.tmE;obtain⟨f1,Q,f3,f4,f5⟩:=h.stE;have z:=h.out hB;have aa:=hB.used;have u:ZB (B++Yx P)=ZB B+ZG P:=by rw[Wn,Rr]
 have T:=Wc l
 have r2:=Zvp (tm:={ tm with last:=tm.last+1,names:=tm.names++[Yd (k+1)] }) (s:=⟨262144,s.peak,B++Yx P++[⟨Yd (k+1),[],0⟩],X,0⟩) (fs:=B++Yx P) rfl rfl F (n:=Yd (k+1)) I h.unsld rfl z y
  (by rw[u];show _<=262144;omega) (by rw[u];show _<=tm.limit;omega)
 have r3:=Zop (tm:={ tm with last:=tm.last+1,names:=tm.names++[Yd (k+1)] }) (s:=⟨262144,max s.peak (ZB (B++Yx P)+ZJ l),B++Yx P++[⟨Yd (k+1),Y1 l,0⟩],X,0⟩) (fs:=B++Yx P) (x:=Y1 l) (k:=0) rfl rfl F (n:=Yd (k+1)) I rfl z;refine⟨_,_,_,_,_,h.new hB hk hm,h.tm1 hk,?_,r2,?_,r3,?_⟩
 ·exact h.stoX hB hm hk (x:=[]) (j:=0) (pk:=s.peak) (zE _) (by rw[u];simp;omega) Q rfl rfl rfl rfl
 ·exact h.stoX hB hm hk (x:=Y1 l) (j:=0) (pk:=max s.peak (ZB (B++Yx P)+ZJ l)) (wA _) (by rw[u];omega) (by rw[u];omega) rfl rfl rfl rfl
 ·exact h.add y hk hm hc (pk:=max s.peak (ZB (B++Yx P)+ZJ l)) (by rw[u];omega) rfl rfl
end
theorem AllD.cost {L:Loc}{p:Spec}{last:Zx}{has:Bool}{ds j:List Rd}{out:List Zi}(h:AllD L p last has ds out j):ZJ out<=Q8 ds:=by
 induction h with
 |done h=>simp[ZJ]
 |more h k z =>
  obtain⟨y,u⟩:=h.cost;have:=u _ rfl;simp only[ZJ]at this ⊢;omega
theorem Zio (f:Zi->Zi->Int):∀ (n:Nat) (rest:List (List Zi)),∀ s∈XW f n rest,s∈rest.flatten:=by
 intro n
 induction n with
 |zero=>intro rest s hs;cases hs
 |succ n z =>
  intro rest s hs
  cases hg:X2 f rest 0 V with
  |none=>rw[F0 hg]at hs;cases hs
  |some p =>
   obtain⟨k,a⟩:=p;have hb:=ZfH f rest [] V (λk a e=>(by cases e)) (λ_ l hl=>(by cases hl));rw[yK,yU]at hb;obtain⟨t,u⟩:=hb.1 k a hg;rw[Kp hg]at hs;have j:(rest.getD k []).drop 1=t:=by rw[yP,u];rfl
   rw[j]at hs;rcases zC.1 hs with e|hs
   ·exact yE.2 ⟨_,yC u,by simp[e]⟩
   ·obtain⟨l,hl,y⟩:=yE.1 (z _ s hs);rcases List.mem_or_eq_of_mem_set hl with h|h
    ·exact yE.2 ⟨l,h,y⟩
    ·subst h;exact yE.2 ⟨_,yC u,by simp[y]⟩
theorem Zin {L:Loc}{p:Spec}{ls:List (List Zi)}:∀ s∈YS L p ls,s∈ls.flatten:=by
 intro s hs;unfold YS cX at hs;split at hs
 ·exact hs
 ·split at hs
  ·rcases Zlr _ _ s hs with h|h
   ·cases h
   ·exact Zio _ _ _ s h
  ·exact Zio _ _ _ s hs
theorem ZhN (G:List Pr):ZJ (G.map (·.2)).flatten=ZG G:=by
 induction G with
 |nil=>rfl
 |cons x G j=>rw[zM,zQ,Rp,j];rfl
theorem ZrF {L:Loc}{p:Spec}{G:List Pr}(h:∀ x∈G,X5 x.2=U):X5 (YS L p (G.map (·.2)))=U:=by
 unfold X5;rw[xD];intro s hs;obtain⟨l,hl,j⟩:=yE.1 (Zin s hs);obtain⟨x,hx,rfl⟩:=yA.1 hl;exact xD.1 (h x hx) s j
section
variable {o t:Nat}{A:da}{a q:AV}{L:Loc}{p:Spec}(ha:LocAV a L)(hok:LocOk L)(hsm:LocSm L)(hq:SpecAV q p)(hks:∀ k∈p.keys,KeOk k)(hkl:Z p.keys<=1048576)
 {B:List Fil} (hB:BOk B) {tm:Tmp} {s:Sto} {P:List Pr} {k:Nat} (hX:XS B tm s P k) (hk:k<126) (hmn:Z P<42)
 {xn:AV} {G:List Pr} (hG:∀ x∈G,x∈P) (hG5:Z G<=64) (hx:SS xn (G.map (·.1))) (hcG:ZG P+ZG G<=100000)
include ha hok hsm hq hks hkl hB hX hk hmn hG hG5 hx hcG
theorem Zt5 {H:Hp}(h:SysAt H o t tm s A):∃ H' A' az s',MZ [.ptr o 0,a,q,xn] H=K (.tuple [.str (Yd (k+1)),J O 0],H') /\
 SysAt H' o t az s' A'/\XS B az s' (P++[(Yd (k+1),YS L p (G.map (·.2)))]) (k+1)/\Stp A H H'/\(∀ b∈A',b∈A\/Z H<=b):=by
 have bh:=ha;have bo:=hq;obtain⟨lx,c,e,rfl,ce,cc,cd⟩:=ha;obtain⟨xp,rfl,ch⟩:=hq;have cg:=hB.used;have bq:ZB (B++Yx P)=ZB B+ZG P:=by rw[Wn,Rr]
 have ad:=hX.out hB;have al:=h.lt;have ax:YJ (.pointer 85) .eql (.ptr o 0) .nilp=K (.bool X):=rfl;have g1:(H++[zA (L.cells lx c e),.cells (p.cells xp)])[Z H]?=K (.cells (L.cells lx c e)):=I
 have g2:(H++[zA (L.cells lx c e),.cells (p.cells xp)])[Z H+1]?=K (.cells (p.cells xp)):=I
 have am:Stp A H (H++[zA (L.cells lx c e),.cells (p.cells xp)]):=Stp.push _ _;have af:(H++[zA (L.cells lx c e),.cells (p.cells xp)]).length=Z H+2:=I
 have E:SysAt (H++[zA (L.cells lx c e),.cells (p.cells xp)]) o t tm s A:=h.stp (C:=[]) (Stp.push _ _) (λa ha=>I);have ao:ZF (.agg (p.cells xp)) (H++[zA (L.cells lx c e)])=K (.ptr (Z H+1) 0,H++[zA (L.cells lx c e),.cells (p.cells xp)]):=by rw[ZW];simp
 generalize bw:H++[zA (L.cells lx c e),.cells (p.cells xp)]=H0 at g1 g2 am E ao af;have hm:=hX.tmOk;have bl:StoOk s:=hX.stoOk hB;obtain⟨H1,A1,p1,T⟩:=ZmP E hm bl (show tm.last<1000000 by rw[hX.tmE.2.2.2.1];omega);have hN:Pc tm s=((Yd (k+1),0),({ tm with last:=tm.last+1,names:=tm.names++[Yd (k+1)] },sF (B++Yx P) (Yd (k+1)) (Y1 []) s.peak)):=hX.new hB hk hmn;rw[hN]at p1 T;have ag:=hX.tm1 hk;generalize u:({ tm with last:=tm.last+1,names:=tm.names++[Yd (k+1)] }:Tmp)=tm1 at p1 T ag;have au:∀ i,Z H<=i->i∉A:=λi hi ha=>by have:=al i ha;omega
 have ba:=T.stp.get g1 (au _ (zE _));have bb:=T.stp.get g2 (au _ Y);have cb:=T.stp.len;have bc:(G.map (·.1)).length=Z G:=zN ..;obtain⟨H2,rx,rs,r1,r2,r3,r4,r5,r6,r7,r8,r9⟩:=ZkA hx (by rw[bc];omega) o (Z H1) (.ptr (Z H) 0) (.ptr (Z H+1) 0) (.str (Yd (k+1))) H (G.map (·.1)) [] .nils [] H1 rfl rfl (RowN.nil _ _ _) (zE _);have cf:Z rs=Z G:=by rw[r3,zN]
 have aj:=r5 _ _ ba;have ak:=r5 _ _ bb;obtain⟨H3,g,ci,c',e',ck,cj,n1,n2,n3,n4,n5,n6,n7⟩:=ZmH bh hsm bo hkl (rx:=rx) (rs:=rs) (by simpa using r2.sl) Y H2;have y:=T.at'.lt;have bt:=n6.len;have bz:=Zn n2
 have ay:∀ r∈rs,r<Z H2:=λr hr=>by
  obtain⟨i,hi⟩:=yO hr;have ca:=(yI.1 hi).1;obtain⟨rr,Q,k2⟩:=r6 i (G.map (·.1))[i] (xB Y);rw[hi]at Q;injection Q with Q;subst Q;exact Zn k2
 have ai:=T.at'.frame (H':=H3) λb hb=>(n6.at' b (by have:=y b hb;omega) I).trans (r4 b (y b hb));obtain⟨d1,d2⟩:=Zvf rs (G.map (·.1)) (G.map (·.2)) r3 I
 have ap:∀ (i:Nat) (n:Zx) (l:List Zi),(G.map (·.1))[i]?=K n->(G.map (·.2))[i]?=K l->X5 l=U/\(Y1 l).length<=262144/\(Yp tm1 n=0/\∃ f,Y5 (sF (B++Yx P) (Yd (k+1)) (Y1 []) s.peak).files n=K f/\f.text=Y1 l)/\n≠Yd (k+1):=λi n l hn hl=>by
  rw[yH]at hn hl
  cases ae:G[i]? with
  |none=>rw[ae]at hn;cases hn
  |some x =>
   rw[ae]at hn hl;cases hn;cases hl;have F:=hG x (yC ae);have hc:=Zl5 F;have bx:=hX.cost;have aw:x.1≠Yd (k+1):=λe=>hX.fresh (by rw[<-e];exact zL F);refine⟨hX.fit x F,by rw[Wc];exact xF hc Y,⟨?_,⟨x.1,Y1 x.2,(Y1 x.2).length⟩,?_,rfl⟩,aw⟩
   ·unfold Yp;rw[<-u,if_neg (by simp[hX.tmE.2.2.2.2]),if_pos (yN _ (by rw[hX.tmE.2.1];exact zL F))]
   ·have:=hX.get hB F;rw[hX.stE.2.2.1]at this;exact (Zkt rfl aw).trans this
 have bp:∀ d∈FU rs (G.map (·.1)) (G.map (·.2)),RdAt H3 o tm1 (sF (B++Yx P) (Yd (k+1)) (Y1 []) s.peak) A1 d:=λd hd=>by
  obtain⟨i,r,n,l,e1,e2,e3,rfl⟩:=ZfQ _ _ _ d hd;obtain⟨rr,Q,k2⟩:=r6 i n e2;rw[yK]at *;rw[e1]at Q;injection Q with Q;subst Q;obtain⟨f1,f2,f3,_⟩:=ap i n l e2 e3;refine⟨.inr (.inr ⟨[],?_,rfl⟩),λhA=>?_,f1,f2,.inl f3⟩
  ·exact (n6.at' r (Zn k2) I).trans k2
  ·have:=y r hA;have:=r8 r (yC e1);omega
 have bm:Yd (k+1)∉(FU rs (G.map (·.1)) (G.map (·.2))).map Rd.n:=λhh=>by
  obtain⟨d,hd,he⟩:=yA.1 hh;obtain⟨i,r,n,l,e1,e2,e3,rfl⟩:=ZfQ _ _ _ d hd;exact (ap i n l e2 e3).2.2.2 he
 have hsto:∀ (x:Zx) (pk:Nat),ZB (B++Yx P)+Z x<=262144->pk<=262144->StoOk (sF (B++Yx P) (Yd (k+1)) x pk):=λx pk hx bn =>
  hX.stoX hB hmn hk (j:=0) (wA _) hx bn rfl rfl rfl rfl
 have D:Yd (k+1)∈tm1.names:=by rw[<-u];simp
 have ah:Yd (k+1)∉tm1.sld:=by rw[<-u];exact hX.unsld
 have ac:tm1.closed=X:=by rw[<-u];exact hX.tmE.2.2.2.2
 have aq:tm1.limit=262144:=by rw[<-u];exact hX.tmE.2.2.1
 have hgA:g∉A1:=λhA=>by have:=y g hA;omega
 have bj:g∉rs:=λhr=>by have:=ay g hr;omega
 obtain⟨H4,A4,M,out,bu,m1,m2,m3,m4,m5,m6,m7⟩:=ZpE (o:=o) (t:=t) (g:=g) (tm:=tm1) (fs:=B++Yx P) (n:=Yd (k+1)) (rs:=rs) ag ac D ah aq ad hsto n3 hok n4 hks n5 r7 Y bj H
  (YA (G.map (·.2))) (FU rs (G.map (·.1)) (G.map (·.2))) [] X [] s.peak A1 H3 (by rw[<-Sq,d2];exact zE _) (by rw[ZhL,d2,bq,ZhN];simp only[ZJ];omega) hX.stE.2.1 I d1 bm ai bp n2 hgA
 have ar:=m2.merge;have bi:=m2.cost;rw[ZhL,d2,ZhN]at bi;rw[d2]at ar;subst ar;rw[yK]at m3 m5;have bk:=hsto (Y1 (YS L p (G.map (·.2)))) M (by rw[Wc];exact m5) m4;obtain⟨H5,A5,t1,t2⟩:=ZmN m3 ag bk (Yd (k+1))
 have bf:Pd tm1 (sF (B++Yx P) (Yd (k+1)) (Y1 (YS L p (G.map (·.2)))) M) (Yd (k+1))=(0,({ tm1 with sld:=eS tm1.sld (Yd (k+1)) },⟨262144,M,B++Yx P++[⟨Yd (k+1),Y1 (YS L p (G.map (·.2))),(Y1 (YS L p (G.map (·.2)))).length⟩],X,0⟩)) :=
  Zop (tm:=tm1) (s:=sF (B++Yx P) (Yd (k+1)) (Y1 (YS L p (G.map (·.2)))) M) (fs:=B++Yx P) rfl rfl ac D rfl ad
 rw[bf]at t1 t2;have z:Stp A H H1:=am.trans T.stp (λ_ h=>h) λb hb=>.inl hb;have bd:Stp A H H3:=⟨by have:=z.len;omega,λi hi hn=>(n6.at' i (by have:=z.len;omega) I).trans ((r4 i (by have:=z.len;omega)).trans (z.at' i hi hn))⟩;have br:=z.len;have aa:∀ b∈A1,b∈A\/Z H<=b:=λb hb=>(T.own b hb).imp id λh=>Y
 have an:Stp A H H4:=bd.trans m6 (λ_ h=>h) λb hb=>by
  rcases zB.1 hb with h|h
  ·rcases zC.1 h with h|h
   ·exact .inr Y
   ·have:=r8 b h;exact .inr Y
  ·exact aa b h
 have ab:∀ b∈A4,b∈A\/Z H<=b:=λb hb=>by
  rcases m7 b hb with h|h
  ·exact aa b h
  ·exact .inr Y
 have be:Stp A H H5:=an.trans t2.stp (λ_ h=>h) ab;have bs:=an.len;refine⟨H5,A5,_,_,?_,t2.at',hX.add (ZrF λx hx=>hX.fit x (hG x hx)) hk hmn Y (pk:=M) m4 (by rw[<-u]) rfl,be,λb hb=>?_⟩
 ·have e0:((0:Int) != 0)=X:=rfl;have bg:=SS.len hx 9;rw[ZeB];unfold jI;simp only[ZW,go_sem,ao,ax,ZcY,p1,zG,zH,e0,ZcZ,bg];refine r1.trans ?_;rw[Zd0];simp only[Qd aj,X6 ak,n1,go_sem];refine m1.trans ?_;rw[Zd1];simp only[t1,go_sem,e0,Zd2]
 ·rcases t2.own b hb with h|h
  ·exact ab b h
  ·exact .inr Y
end
theorem Zat:∀ (l:List Zi),(∀ s∈l,Z s<=200)->ZJ l<=Z l*206:=by
 intro l
 induction l with
 |nil=>intro _;exact zE _
 |cons s l u =>
  intro h;have y:=h s I;have z:=u λt j=>h t (by simp[j]);simp only[ZJ,zP];omega
theorem Zs3 (f:Zi->Zi->Int):∀ (n:Nat) (rest:List (List Zi)),(XW f n rest).length<=n:=by
 intro n
 induction n with
 |zero=>intro rest;exact zE _
 |succ n j =>
  intro rest
  cases hg:X2 f rest 0 V with
  |none=>rw[F0 hg];simp
  |some p =>
   obtain⟨k,a⟩:=p;rw[Kp hg];have:=j (rest.set k ((rest.getD k []).drop 1));rw[zP];omega
theorem Zs4 (L:Loc)(p:Spec)(ls:List (List Zi)):(YS L p ls).length<=YA ls:=by
 have h:=Zs3 (ZI L p) (YA ls) ls;have k:=Zlq (g:=Yz L p) (XW (ZI L p) (YA ls) ls) [];unfold YS cX;split
 ·rw[ZiV];exact zE _
 ·split
  ·simp at k;omega
  ·exact h
def ZS:List Pr->Nat
 |[]=>0
 |x::P=>Z x.2+ZS P
theorem Vj (P Q:List Pr):ZS (P++Q)=ZS P+ZS Q:=by
 induction P with
 |nil=>simp[ZS]
 |cons x P j=>simp only[zR,ZS,j];omega
theorem ZpA {P Q:List Pr}(h:P.Perm Q):ZS P=ZS Q:=by
 induction h with
 |nil=>rfl
 |cons x _ z=>simp only[ZS,z]
 |swap x y l=>simp only[ZS];omega
 |trans _ _ j u=>exact j.trans u
theorem Hb (G:List Pr):YA (G.map (·.2))=ZS G:=by
 induction G with
 |nil=>rfl
 |cons x G j=>show Z x.2+YA (G.map (·.2))=_;rw[j];rfl
def ShortP (P:List Pr):Prop:=∀ x∈P,∀ s∈x.2,Z s<=200
theorem ShortP.cost {P:List Pr}(h:ShortP P):ZG P<=ZS P*206:=by
 induction P with
 |nil=>simp[ZG]
 |cons x P u =>
  have z:=Zat x.2 (h x I);have C:=u λy j=>h y (by simp[j]);simp only[ZG,ZS,Nat.add_mul];omega
structure Stt where
 r:Int
 m:Int
 y:Int
 k:Int
def W2 (o:Nat)(L:Loc)(lx c e:AV)(p:Spec)(xp x:AV)(st:Stt):c6 :=
 .ptr o 0::(L.cells lx c e++(p.cells xp++[x,J O st.r,J O st.m,J O st.y,J O st.k]))
section
variable {o:Nat}{L:Loc}{lx c e:AV}{p:Spec}{xp x:AV}{st:Stt}
theorem Sw:(W2 o L lx c e p xp x st).length=17:=rfl
theorem ZkN {H:Hp}{g:Nat}(h:H[g]?=K (.cells (W2 o L lx c e p xp x st))):Z2 U 6 (.ptr g 1) H=K (.agg (L.cells lx c e)):=by
 rw[Yk h];rfl
theorem Zg2 {H:Hp}{g:Nat}(h:H[g]?=K (.cells (W2 o L lx c e p xp x st))):Z2 U 5 (.ptr g 7) H=K (.agg (p.cells xp)):=by
 rw[Yk h];rfl
def SrAt (H:Hp)(g o:Nat)(A:da)(L:Loc)(lx c e:AV)(p:Spec)(xp:AV)(R:List Pr)(st:Stt)(S:da):Prop :=
 ∃ x,H[g]?=K (.cells (W2 o L lx c e p xp x st))/\NmAt H x (R.map (·.1))/\(∀ a∈g::ZN x,a∉A)/\(g::ZN x).Nodup/\S=g::ZN x
theorem NmAt.lt {H:Hp}{x:AV}{l:List Zx}(h:NmAt H x l):∀ a∈ZN x,a<Z H:=by
 intro a ha;rcases h with ⟨e,_⟩|⟨t,e,j,u⟩
 ·rw[e]at ha;cases ha
 ·rw[j]at ha;rw[zD.1 ha];exact Zn u
theorem SrAt.stp {H H':Hp}{g:Nat}{A A' S C:da}{R:List Pr}(h:SrAt H g o A L lx c e p xp R st S)(hs:Stp C H H')(y:∀ a∈S,a∉C)(F:∀ a∈A',a∈A\/Z H<=a):SrAt H' g o A' L lx c e p xp R st S:=by
 obtain⟨x,u,j,z,D,rfl⟩:=h;refine⟨x,hs.get u (y g I),j.frame λa ha=>hs.at' a (j.lt a ha) (y a (by simp[ha])),λa ha E=>?_,D,rfl⟩
 have hl:a<Z H:=by
  rcases zC.1 ha with e|ha
  ·rw[e];exact Zn u
  ·exact j.lt a ha
 rcases F a E with k|k
 ·exact z a ha k
 ·omega
theorem SrAt.off {H:Hp}{g:Nat}{A S:da}{R:List Pr}(h:SrAt H g o A L lx c e p xp R st S):∀ a∈S,a∉A:=by
 obtain⟨x,_,_,j,_,rfl⟩:=h;exact j
theorem SrAt.lt {H:Hp}{g:Nat}{A S:da}{R:List Pr}(h:SrAt H g o A L lx c e p xp R st S):∀ a∈S,a<Z H:=by
 obtain⟨x,j,u,_,_,rfl⟩:=h;intro a ha;rcases zC.1 ha with e|ha
 ·rw[e];exact Zn j
 ·exact u.lt a ha
end
theorem Zrh {x:AV}{l:List Zi}(hx:SS x l)(C:YE l)(hl:Z l<=1048576)(H0 H:Hp):∀ (r d:List Zi),l=d++r ->
 KI (J O (Yj cS d)) x (J O (Z l:Int)) (J O (Z d:Int)) H0 H=K (J O (Yj cS l),H):=by
 intro r
 induction r with
 |nil =>
  intro d hd;rw[zO]at hd;subst hd;have j:decide ((Z l:Int)<(Z l:Int))=X:=I
  rw[MC];simp only[go_sem,j,ZaY]
 |cons s r F =>
  intro d hd;have hlen:Z l=Z d+(Z r+1):=by rw[hd];simp
  have j:decide ((Z d:Int)<(Z l:Int))=U:=by rw[decide_eq_true_eq];omega
  have z:l[Z d]?=K s:=by rw[hd,zF (zE _)];simp
  have u:=SS.idx hx z;have hs:Z s<=1048576:=C s (yC z);have hb:=Me d λy E=>C y (by rw[hd];simp[E]);have D:(Z d:Int)*1048592<=1048576*1048592:=Int.mul_le_mul_of_nonneg_right Y Y;have M:wD.wrap ((Z s:Int)+16)=(Z s:Int)+16:=Zo Y Y;have Q:wD.wrap (Yj cS d+((Z s:Int)+16))=Yj cS (d++[s]):=by rw[Zo Y Y,AW];rfl
  have T:wD.wrap ((Z d:Int)+1)=((d++[s]).length:Int):=by rw[Zo Y Y];simp
  rw[MC];simp only[go_sem,j,ZaZ,u,Zu,M,Q,Zb0,T];exact F (d++[s]) (by rw[hd];simp)
theorem Zrg {x:AV}{l:List Zi}(hx:SS x l)(y:YE l)(hl:Z l<=1048576)(H:Hp):Ze PP [x] H=K (J O (Yj cS l),H):=by
 obtain⟨z,u,j⟩:=SS.closed hx [] 0 7;refine Xi (args':=[z]) (H1:=[]) (by rw[xI,u];rfl) ?_ rfl;rw[Zcc];unfold aH;have hn:=SS.len j 9;simp only[go_sem,hn];exact Zrh j y hl [] [] l [] rfl
section
variable {o g t:Nat}{L:Loc}{lx c e:AV}{p:Spec}{xp:AV}{B:List Fil}{tm:Tmp}{s:Sto}{P R:List Pr}{k:Nat}{A S:da}{st:Stt}{H:Hp}
theorem Zg9 (hB:BOk B)(hX:XS B tm s P k)(h:SysAt H o t tm s A)(Q:SrAt H g o A L lx c e p xp R st S) :
 ∃ H',Wg [.ptr g 0] H=K (.tuple [],H')/\SysAt H' o t tm s A/\SrAt H' g o A L lx c e p xp R { st with k:=max st.k (ZG P:Int) } S/\Stp S H H':=by
 obtain⟨x,z,M,E,C,rfl⟩:=Q;have F:=Zyu h hX.tmOk (hX.stoOk hB);rw[if_neg (by simp[hX.tmE.2.2.2.2]),hX.used hB]at F;have D:=ZU z 16 (v:=J O st.k) rfl;have T:=ZU z 0 (v:=.ptr o 0) rfl;have y:=Vb z 16 (v:=J O (max st.k (ZG P:Int))) rfl rfl (by rw[Sw];omega);have j:(W2 o L lx c e p xp x st).set 16 (J O (max st.k (ZG P:Int)))=W2 o L lx c e p xp x { st with k:=max st.k (ZG P:Int) }:=rfl;rw[j]at y;have u:Stp (g::ZN x) H (H.set g (.cells (W2 o L lx c e p xp x { st with k:=max st.k (ZG P:Int) }))):=Stp.set _ _ I;refine⟨_,?_,h.stp u λa ha hg=>E a hg ha,⟨x,Zs _ z,M.frame λa ha=>?_,E,C,rfl⟩,u⟩
 ·rw[SL];unfold Rc;simp only[go_sem,zI,xA,D,T,F,y]
 ·refine xJ λe=>?_;rw[zZ]at C;exact C.1 (e ▸ ha)
end
end Go.Am
