/- Dividing lines into UJ -/
import Derived.Test.YtnaneekpogohaaaGreatDoorXeSmx
import Derived.Test.YtnaneekpogohaaaGreatDoorXeQbx
import Derived.Test.YtnaneekpogohaaaGreatDoorXeGPx
open Go.Am.AV renaming int->J
open Go.IntKind renaming i64->xS
open Go.IntKind renaming i64->xR
open List renaming getElem?_append_right->zA,mem_append->zC,mem_singleton->zE,append_assoc->zF,map_cons->zG,mem_cons->zH,length_append->zI,getElem?_append_left->zJ,flatten_cons->zK,append_nil->zM,cons_append->zN,length_singleton->zO,filter_append->zP,length_cons->zQ,length_map->zR,map_append->zS,filter_cons->zU,mem_flatten->zV,mem_map->zW,pairwise_cons->zX,getElem?_eq_some_iff->zY,nodup_cons->zZ,getD_eq_getElem?_getD->yB,flatten_append->yC,mem_map_of_mem->yD,singleton_append->yF,mem_of_getElem?->yG,length_nil->yH,length_pos_iff->yI,filter_eq_self->yJ,mapM_cons->yK,length_take->yL,length_eq_zero_iff->yM,set->yN,nil_append->yO,filter_eq_nil_iff->yP,mem_append_right->yQ,perm_append_comm->yR,mem_of_getLast?->yU,map_nil->yX,nodup_append->yY,all_eq_true->yZ,flatten_nil->xB,length_drop->xC,mem_filter->xF,range->xG,tail_cons->xH,drop_one->xK
open Nat renaming le_refl->zD,zero_add->zT,lt_of_lt_of_le->yW,add_mul->xA,le_trans->xL,one_mul->xP
open Bool renaming false_and->yT,not_true->yV,and_false->xI,or_true->xM
open Int renaming le_refl->xO
open Go.Am.AObj renaming cells->zB,row->yA,tok->xE
open Go.Am.AV renaming str->zL,ptr->yE,vs->xD,nils->xJ,agg->xN
open List.Sublist renaming refl->xQ
open List.Perm renaming append_left->yS
namespace Go.Am
set_option linter.unusedSectionVars false
set_option maxRecDepth 100000
def cS (s:Zl):Int:=(s.length:Int)+16
theorem ZfW:∀ (k:List Zl),We k->0<=W5 cS k/\W5 cS k<=(k.length:Int)*1048592:=by
 have:∀ (k:List Zl) (n:Int),We k->n<=k.foldl (fun n x=>n+cS x) n/\k.foldl (fun n x=>n+cS x) n<=n+(k.length:Int)*1048592:=by
  intro k
  induction k with
  |nil=>intro n _;simp
  |cons s k z =>
   intro n j;have hs:=j s (by simp);obtain⟨C,D⟩:=z (n+cS s) fun t u=>j t (by simp[u]);rw[List.foldl_cons];simp only[zQ];have:cS s=(s.length:Int)+16:=rfl;constructor <;> omega
 intro k hk;have:=this k 0 hk;unfold W5;simpa using this
section
variable {mem:Int}{l:List Zl}
theorem ZlZ {d:List Zl}(hd:CkOk cS mem d (Yy cS mem d)):(Yy cS mem d).cur.length<=d.length/\d.drop (d.length-(Yy cS mem d).cur.length)=(Yy cS mem d).cur:=by
 have h:=hd.flat;generalize (Yy cS mem d)=s at h;subst h;constructor
 ·simp
 ·rw[zI,Nat.add_sub_cancel,List.drop_append_of_le_length (zD _),List.drop_length];rfl
theorem Zse {d:List Zl}(hd:CkOk cS mem d (Yy cS mem d)):(Yy cS mem d).done.length<=d.length:=by
 have h:=hd.flat;have j:=hd.ne;generalize (Yy cS mem d)=s at h j;subst h
 have:∀ (A:List (List Zl)),(∀ k∈A,k≠[])->A.length<=A.flatten.length:=by
  intro A
  induction A with
  |nil=>intro _;simp
  |cons k A u =>
   intro h;have z:=u fun k hk=>h k (by simp[hk]);have C:0<k.length:=yI.2 (h k (by simp));simp only[zQ,zK,zI];omega
 have:=this s.done j;simp only[zI];omega
theorem Zlq {d r:List Zl}{i:Nat}(hi:i<=d.length):((d++r).take d.length).drop i=d.drop i:=by simp
theorem ZhU {s:Ck Zl}{x:Zl}(h:s.cur=[]\/s.cost+cS x<=mem):GZ cS mem s x=⟨s.done,s.cur++[x],s.cost+cS x⟩:=by
 unfold GZ;rw[if_neg]
 rintro⟨h1,h2⟩
 rcases h with h|h
 ·exact h1 h
 ·omega
theorem Zq2 {s:Ck Zl}{x:Zl}(j:s.cur≠[])(u:mem<s.cost+cS x):GZ cS mem s x=⟨s.done++[s.cur],[x],cS x⟩:=by
 unfold GZ;rw[if_pos ⟨j,u⟩]
theorem ZvX {d:List Zl}(j:We d)(hd:CkOk cS mem d (Yy cS mem d)):We (Yy cS mem d).cur:=fun s hs=>j s (by
 have h:=hd.flat;rw[<-h];simp[hs])
theorem Zrp {x:AV}(hx:SS x l)(hL:We l)(hl:l.length<=1048576)(H0:Hp):∀ (r d:List Zl) (F:AV) (H:Hp),l=d++r->(∃ o,Rst o H F (Yy cS mem d).done) ->
 ∃ y H',FW (J xS mem) x F (J xS ((d.length-(Yy cS mem d).cur.length:Nat):Int)) (J xS (Yy cS mem d).cost) x (J xS (l.length:Int)) (J xS (d.length:Int)) H0 H=some (y,H')/\LL H' y (Zah (Yy cS mem l)):=by
 have hn:=SS.len hx 9;intro r
 induction r with
 |nil =>
  intro d F H hd ⟨o,hr⟩;rw[zM]at hd;subst hd;have hok:=Zm0 cS mem l;obtain⟨Z,K⟩:=ZlZ hok;have I:decide ((l.length:Int)<(l.length:Int))=false:=by simp
  rw[Cd];simp only[go_sem,I,Zh6,hn,Zh7];by_cases h0:l=[]
  ·subst h0;have V:decide ((0:Int)<((([]:List Zl).length:Nat):Int))=false:=rfl;simp only[V,go_sem];exact⟨_,_,rfl,hr.ll⟩
  ·have V:decide ((0:Int)<(l.length:Int))=true:=by have:=yI.2 h0;simp;exact this
   obtain⟨a,q1,E⟩:=hx.cut (i:=l.length-(Yy cS mem l).cur.length) (j:=l.length) (by omega) (zD _);rw[List.take_length,K]at E
   have z:(ZB 1 [(0,a)] [xJ]).map (xD 1 .clip)=some (.vs 1 .clip [a]):=by
    simp only[ZB,E.cell.1,E.cell.2];rfl
   obtain⟨o',x',H',p1,p2,p3,p4⟩:=hr.app E (by have:=Zse hok;omega);simp only[V,go_sem,q1,z,p1];refine⟨_,_,rfl,?_⟩;unfold Zah;rw[if_neg (ZyB cS mem h0)];exact p2.ll
 |cons s r ih =>
  intro d F H hd ⟨o,hr⟩;have hok:=Zm0 cS mem d;obtain⟨Z,K⟩:=ZlZ hok;have W:We d:=fun t ht=>hL t (by rw[hd];simp[ht]);have X:=ZfW _ (ZvX W hok);rw[<-hok.cost]at X;have hs:s.length<=1048576:=hL s (by rw[hd];simp);have hlen:l.length=d.length+(r.length+1):=by rw[hd];simp
  have I:decide ((d.length:Int)<(l.length:Int))=true:=by simp;omega
  have M:xR.wrap ((d.length:Int)+1)=((d.length+1:Nat):Int):=by rw[Zp (by omega) (by omega)];omega
  have aa:xR.wrap ((s.length:Int)+16)=cS s:=by rw[Zp (by omega) (by omega)];rfl
  have hcs:cS s=(s.length:Int)+16:=rfl;have O:xR.wrap ((Yy cS mem d).cost+cS s)=(Yy cS mem d).cost+cS s:=Zp (by omega) (by omega);have ab:xR.wrap (0+cS s)=cS s:=by rw[Zp (by omega) (by omega)];omega
  have Y:l[d.length]?=some s:=by rw[hd,zA (zD _)];simp
  have Q:=SS.idx hx Y;have u:=fun F H h=>ih (d++[s]) F H (by rw[hd];simp) h;simp only[ZhT,zI,zO]at u;rw[Cd];simp only[go_sem,I,Zh8,Q,Zz,aa];by_cases hc:(Yy cS mem d).cur=[]
  ·have D:decide (((d.length-(Yy cS mem d).cur.length:Nat):Int)<(d.length:Int))=false:=by rw[hc];simp
   have C:=ZhU (mem:=mem) (s:=Yy cS mem d) (x:=s) (.inl hc);rw[C]at u;obtain⟨y,H',T,U⟩:=u F H ⟨o,hr⟩;refine⟨y,H',?_,U⟩;simp only[D,go_sem,R4,O,R3,M];rw[show d.length-(Yy cS mem d).cur.length=d.length+1-((Yy cS mem d).cur++[s]).length by rw[hc];simp];exact T
  ·have D:decide (((d.length-(Yy cS mem d).cur.length:Nat):Int)<(d.length:Int))=true:=by have:=yI.2 hc;simp;omega
   by_cases hm:mem<(Yy cS mem d).cost+cS s
   ·have C:=Zq2 (mem:=mem) hc hm;rw[C]at u;obtain⟨a,q1,E⟩:=hx.cut (i:=d.length-(Yy cS mem d).cur.length) (j:=d.length) (by omega) (by omega);rw[hd,Zlq (by omega),K]at E
    have z:(ZB 1 [(0,a)] [xJ]).map (xD 1 .clip)=some (.vs 1 .clip [a]):=by
     simp only[ZB,E.cell.1,E.cell.2];rfl
    obtain⟨o',x',H1,p1,p2,p3,p4⟩:=hr.app E (by have:=Zse hok;omega);obtain⟨y,H',T,U⟩:=u x' H1 ⟨o',p2⟩;refine⟨y,H',?_,U⟩;simp only[D,go_sem,O,decide_eq_true hm,q1,z,p1,R4,ab,R3,M];exact T
   ·have C:=ZhU (mem:=mem) (s:=Yy cS mem d) (x:=s) (.inr (by omega));rw[C]at u;obtain⟨y,H',T,U⟩:=u F H ⟨o,hr⟩;refine⟨y,H',?_,U⟩;simp only[D,go_sem,O,decide_eq_false hm,R4,R3,M];rw[show d.length-(Yy cS mem d).cur.length=d.length+1-((Yy cS mem d).cur++[s]).length by simp];exact T
theorem Zro {x:AV}(hx:SS x l)(F:We l)(hl:l.length<=1048576)(H:Hp):∃ y,Zh EW [x,J xS mem] H=some (y,H)/\LsV y (Zah (Yy cS mem l)):=by
 obtain⟨M,D,E⟩:=SS.closed hx [] 0 7;obtain⟨Q,C,j⟩:=Ec E hl [];obtain⟨y,H',I,K⟩:=Zrp (mem:=mem) j F hl [] l [] .nils [] rfl ⟨0,.inl ⟨rfl,.inl rfl⟩⟩;obtain⟨O,u,z⟩:=K.close0;refine⟨O,?_,z⟩;refine Na (args':=[M,J xS mem]) (H1:=H') (v:=y) (by rw[yK,D];rfl) ?_ u;rw[Zhn];unfold ZcW;simp only[C,go_sem,SS.len j 9];exact I
end
theorem ZmF {l:List Fil}{n:Zm}(h:ZP l n=none)(f:Fil)(j:f.name=n):ZP (l++[f]) n=some f:=by
 induction l with
 |nil=>simp[ZP,j]
 |cons g l u =>
  unfold ZP at h;split at h
  ·cases h
  ·rename_i hn;rw[zN,ZP,if_neg hn];exact u h
theorem ZnC {l:List Fil}{n:Zm}(h:ZP l n=none)(f:Fil)(j:f.name=n)(u:Fil->Fil):X6 (l++[f]) n u=l++[u f]:=by
 induction l with
 |nil=>simp[X6,j]
 |cons g l z =>
  unfold ZP at h;split at h
  ·cases h
  ·rename_i hn;rw[zN,X6,if_neg hn,z h];rfl
section
variable {tm:Tmp}{s:Sto}{n:Zm}
end
theorem SysAt.frame {H H':Hp}{o t:Nat}{tm:Tmp}{s:Sto}{A:List Nat}(h:SysAt H o t tm s A)(u:∀ a∈A,H'[a]?=H[a]?):SysAt H' o t tm s A:=by
 obtain⟨B,S,⟨E,j,F,sl,z,rfl⟩,C,D,rfl⟩:=h;exact⟨_,S,⟨E,j,F,sl,z.frame fun a ha=>u a (by simp only[zC];exact .inl ha),rfl⟩,C.frame fun a ha=>u a (by simp[ha]),D,rfl⟩
theorem AC (L:Loc)(p:Spec)(l:List Zl):∀ s∈ZO L p l,s∈l:=by
 intro s hs;unfold ZO at hs;split at hs
 ·exact hs
 ·split at hs
  ·rcases ZkD _ _ s hs with h|h
   ·cases h
   ·exact (Ap L p l).2 s h
  ·exact (Ap L p l).2 s hs
theorem Zsh (t:Tok)(l:List AV)(H:Hp):SB [.vs 1 t l] H=(match TX l with
 |some _=>if l=[] then some (.vs 1 .no [],H) else if l.length<=1099511627776 then some (.ws false 1 H.length 0 l.length,H++[.row 0 l]) else none
 |none=>none):=rfl
theorem Zve (o e n q:Nat)(H:Hp):Zat [.ws false 1 o e n,.fn (.func 96) [] [.ptr q 0]] H=(match H[o]? with
 |some (.row e' l)=>match TX l with
  |some ls=>match H[q]? with
   |some (.cells [.str nm])=>if e'=e/\n=l.length/\o≠q/\l.length<=1099511627776 then some (.vs 1 (.own o (e+2)) ((WE nm ls).map zL),H.set o (.tok (e+2))) else none
   |_=>none
  |none=>none
 |_=>none):=rfl
theorem Zih {H:Hp}{o t j C:Nat}{nx:AV}{sl:List (Zm×Nat)}{tm:Tmp}(h:TmAt H o t j C nx sl tm)(hm:TmpOk tm)(n:Zm)(W:tm.names≠[]) :
 ∃ (H':Hp) (ab:AV) (z:List (Zm×Nat)),forgetE.run [.ptr o 0,.str n] H=some (.tuple [],H')/\TmAt H' o t j C ab z { tm with names:=WE n tm.names,sld:=z.map (·.1) }/\Stp (o::j::ZI nx) H H'/\(∀ a∈ZI ab,H.length<=a)/\(∀ x∈z.map (·.1),x∈sl.map (·.1)):=by
 have V:=h.lt;have an:o<H.length:=V o (by simp);have ai:j<H.length:=V j (by simp);have I:o≠j:=fun e=>by have:=h.nd;simp[e]at this
 have hkl:=hm.len;have am:=hm.last
 obtain⟨u,e,rfl,hu⟩:∃ u e,nx=.vs 1 (.own u e) (tm.names.map zL)/\H[u]?=some (.tok e):=by
  rcases h.names with ⟨_,e⟩|h
  ·exact absurd e W
  ·exact h
 have X:tm.names.map zL≠[]:=fun e=>W (List.map_eq_nil_iff.1 e);have ae:(H++[zB [.str n]])[o]?=some (.cells [.ptr t 0,.str tm.owner,.vs 1 (.own u e) (tm.names.map zL),.map j,J xS (tm.limit:Int),J xS (tm.last:Int),.bool tm.closed]):=ZY h.cells _;have l2:=ZN ae 2 (v:=.vs 1 (.own u e) (tm.names.map zL)) rfl;have ag:(H++[zB [.str n]]).length=H.length+1:=by simp
 have hcl:cloneE.run [.vs 1 (.own u e) (tm.names.map zL)] (H++[zB [.str n]])=some (.ws false 1 (H.length+1) 0 tm.names.length,H++[zB [.str n]]++[yA 0 (tm.names.map zL)]):=by
  rw[show cloneE.run=SB from rfl];rw[Zsh,ZiU];dsimp only;rw[if_neg X,zR,if_pos (by omega),ag]
 have hr:(H++[zB [.str n]]++[yA 0 (tm.names.map zL)])[H.length+1]?=some (.row 0 (tm.names.map zL)):=by
  rw[zA (by simp)];simp
 have hq:(H++[zB [.str n]]++[yA 0 (tm.names.map zL)])[H.length]?=some (.cells [.str n]):=by
  rw[zJ (by simp)];simp
 have U:delE.run [.ws false 1 (H.length+1) 0 tm.names.length,.fn (.func 96) [] [.ptr H.length 0]] (H++[zB [.str n]]++[yA 0 (tm.names.map zL)]) =
  some (.vs 1 (.own (H.length+1) 2) ((WE n tm.names).map zL),(H++[zB [.str n]]++[yA 0 (tm.names.map zL)]).set (H.length+1) (xE 2)):=by
  rw[show delE.run=Zat from rfl];rw[Zve,hr];dsimp only;rw[ZiU,hq];dsimp only;rw[if_pos ⟨rfl,by rw[zR],by omega,by rw[zR];omega⟩]
 have D:Stp [] H ((H++[zB [.str n]]++[yA 0 (tm.names.map zL)]).set (H.length+1) (xE 2)):=⟨by simp,fun i hi _=>by
  rw[List.getElem?_set_ne (by omega),zJ (by simp;omega),zJ hi]⟩
 have Y:((H++[zB [.str n]]++[yA 0 (tm.names.map zL)]).set (H.length+1) (xE 2))[H.length]?=some (.cells [.str n]):=Yd _ (by omega) hq;have aa:((H++[zB [.str n]]++[yA 0 (tm.names.map zL)]).set (H.length+1) (xE 2))[H.length+1]?=some (.tok 2):=Zq _ hr;generalize ak:(H++[zB [.str n]]++[yA 0 (tm.names.map zL)]).set (H.length+1) (.tok 2)=O at U D Y aa;have T:=D.get h.cells (by simp);have ah:O[j]?=some (.map (sl.map Ui) C):=(D.at' j ai (by simp)).trans h.map;have s2:=V9 T 2 (v:=.vs 1 (.own (H.length+1) 2) ((WE n tm.names).map zL)) rfl rfl (by simp);have F:=Zq (zB (yN [.ptr t 0,.str tm.owner,.vs 1 (.own u e) (tm.names.map zL),.map j,J xS (tm.limit:Int),J xS (tm.last:Int),.bool tm.closed] 2 (.vs 1 (.own (H.length+1) 2) ((WE n tm.names).map zL)))) T;have E:=Yd (zB (yN [.ptr t 0,.str tm.owner,.vs 1 (.own u e) (tm.names.map zL),.map j,J xS (tm.limit:Int),J xS (tm.last:Int),.bool tm.closed] 2 (.vs 1 (.own (H.length+1) 2) ((WE n tm.names).map zL)))) I ah;have Z:=Yd (zB (yN [.ptr t 0,.str tm.owner,.vs 1 (.own u e) (tm.names.map zL),.map j,J xS (tm.limit:Int),J xS (tm.last:Int),.bool tm.closed] 2 (.vs 1 (.own (H.length+1) 2) ((WE n tm.names).map zL)))) (show o≠H.length by omega) Y;have K:=Yd (zB (yN [.ptr t 0,.str tm.owner,.vs 1 (.own u e) (tm.names.map zL),.map j,J xS (tm.limit:Int),J xS (tm.last:Int),.bool tm.closed] 2 (.vs 1 (.own (H.length+1) 2) ((WE n tm.names).map zL)))) (show o≠H.length+1 by omega) aa;have Q:Stp [o] O (O.set o (.cells (yN [.ptr t 0,.str tm.owner,.vs 1 (.own u e) (tm.names.map zL),.map j,J xS (tm.limit:Int),J xS (tm.last:Int),.bool tm.closed] 2 (.vs 1 (.own (H.length+1) 2) ((WE n tm.names).map zL))))):=Stp.set _ _ (by simp);generalize al:O.set o (.cells (yN [.ptr t 0,.str tm.owner,.vs 1 (.own u e) (tm.names.map zL),.map j,J xS (tm.limit:Int),J xS (tm.last:Int),.bool tm.closed] 2 (.vs 1 (.own (H.length+1) 2) ((WE n tm.names).map zL))))=H4 at s2 F E Z K Q;have l3:=ZN F 3 (v:=.map j) rfl;have lq:=ZN Z 0 (v:=.str n) rfl
 obtain⟨M,z,d1,d2,d3,d4⟩:∃ (M:Hp) (z:List (Zm×Nat)),Jz .string (.map j) (.str n) H4=some (.tuple [],M)/\M[j]?=some (.map (z.map Ui) C)/\Stp [j] H4 M/\(∀ x∈z.map (·.1),x∈sl.map (·.1)):=by
  have af:Wn .string (.str n)=true:=rfl;unfold Jz;dsimp only;rw[E];dsimp only;rw[if_pos af];rcases ZgM sl n 0 with ⟨_,hf⟩|⟨a,p,b,rfl,_,_,hf⟩
  ·rw[hf];exact⟨_,sl,rfl,Zq _ E,Stp.set _ _ (by simp),fun _ h=>h⟩
  ·rw[hf];dsimp only;refine⟨_,a++b,rfl,?_,Stp.set _ _ (by simp),fun x hx=>by simp only[zS,zG,zC,zH]at hx ⊢;rcases hx with h|h;exact .inl h;exact .inr (.inr h)⟩;rw[Zq _ E,zT,zS,zG,show a.length=(a.map Ui).length by simp,ZdM,zS]
 have ac:Stp (o::j::ZI (.vs 1 (.own u e) (tm.names.map zL))) H M:=by
  have x1:Stp (o::j::ZI (.vs 1 (.own u e) (tm.names.map zL))) H O:=D.mono fun a ha=>by cases ha
  have x2:=x1.trans Q (fun _ h=>h) fun a ha=>.inl (by rw[zE.1 ha];simp);exact x2.trans d3 (fun _ h=>h) fun a ha=>.inl (by rw[zE.1 ha];simp)
 refine⟨M,.vs 1 (.own (H.length+1) 2) ((WE n tm.names).map zL),z,?_,⟨d3.get F (by simpa using I),.inr ⟨_,_,rfl,(d3.at' _ (Zg K) (by simp;omega)).trans K⟩,d2,rfl,?_⟩,ac,fun a ha=>?_,d4⟩
 ·rw[Zqv];unfold Fg.F_tempfile_owned_forget;have ad:ZQ (.str n) H=some (.ptr H.length 0,H++[.cells [.str n]]):=Rt rfl;have aj:Z3 false 1 (.ptr o 2) (H++[zB [zL n]])=some (.vs 1 (.own u e) (tm.names.map zL)):=l2;simp only[ad,go_sem,zT,aj,hcl,U,s2,l3,lq,d1]
 ·have:H.length+1≠o/\H.length+1≠j:=by omega
  simp[ZI,I,Ne.symm this.1,Ne.symm this.2]
 ·simp[ZI]at ha;omega
theorem Zz1 {l:List Fil}{n m:Zm}(h:m≠n):ZP (VR l n) m=ZP l m:=by
 induction l with
 |nil=>rfl
 |cons f l u =>
  rw[VR];split
  ·rename_i j;rw[ZP,if_neg (by rw[<-j];exact h)]
  ·rw[ZP,ZP,u]
theorem Zy9 (l:List Fil)(n:Zm):List.Sublist (VR l n) l:=by
 induction l with
 |nil=>exact xQ _
 |cons f l j =>
  rw[VR];split
  ·exact List.sublist_cons_self _ _
  ·exact j.cons_cons _
theorem Zwq (l:List Fil)(n:Zm):Zr (VR l n)<=Zr l:=by
 induction l with
 |nil=>exact zD _
 |cons f l j =>
  rw[VR];split
  ·simp only[Zr];omega
  ·simp only[Zr];omega
theorem Zx4 {s:Sto}(hk:StoOk s)(n:Zm):StoOk { s with files:=VR s.files n }:=by
 have hs:=Zy9 s.files n;have C:=Zwq s.files n;have u:=hk.used;have z:=hk.len;exact⟨hk.limit,by show Zr (VR s.files n)<=s.limit;omega,hk.peak,fun f j=>hk.name f (hs.subset j),hk.nd.sublist (hs.map _),fun f j=>hk.syn f (hs.subset j),by have:=hs.length_le;show (VR s.files n).length<=64;omega,hk.count⟩
theorem ZqF {n:Zm}{ns:List Zm}(h:(n::ns).Nodup):WE n (n::ns)=ns:=by
 unfold WE;rw[List.filter_cons_of_neg (by simp)];rw[yJ];intro m hm;have:m≠n:=fun e=>(zZ.1 h).1 (e ▸ hm);simp[this]
def Wu:Zm:=[115,111,114,116]
def ZJ (i:Nat):Zm:=JJ Wu i
theorem ZyT:((xG 128).all fun i=>TS (ZJ (i+1)))=true:=by kernel_rfl
theorem ZyS:((xG 128).all fun i=>(xG 128).all fun j=>i==j || !(ZJ (i+1)==ZJ (j+1)))=true:=by kernel_rfl
theorem Zpe {i j:Nat}(hi:1<=i/\i<=128)(u:1<=j/\j<=128)(h:ZJ i=ZJ j):i=j:=by
 have:=WS (WS ZyS (i:=i-1) (by omega)) (i:=j-1) (by omega);rw[show i-1+1=i by omega,show j-1+1=j by omega,h]at this;simp only[beq_self_eq_true,yV,Bool.or_false,beq_iff_eq]at this;omega
theorem ZkB {i:Nat}(hi:1<=i/\i<=128):TS (ZJ i)=true:=by
 have:=WS ZyT (i:=i-1) (by omega)
 rwa [show i-1+1=i by omega]at this
def KV (L:Loc)(lx c e:AV)(p:Spec)(xp:AV)(ok:Bool)(rx:AV)(last:Zm)(has:Bool):List AV:=L.cells lx c e++p.cells xp++[.bool ok,rx,.str last,.bool has]
def Q1 (L:Loc)(p:Spec)(a b:Zl):Bool:=(ZK p==0)&&decide (Y0 L p a b<0)
section
variable {H:Hp}{g b:Nat}{L:Loc}{lx c e:AV}{p:Spec}{xp:AV}{rx:AV}{last:Zm}{has ok:Bool}
theorem ZmV (hg:H[g]?=some (.cells (KV L lx c e p xp ok rx last has))):Z3 true 6 (.ptr g 0) H=some (.agg (L.cells lx c e)):=by
 rw[Yv hg];simp[Go.Am.apart,KV,Loc.cells]
theorem ZjL (hg:H[g]?=some (.cells (KV L lx c e p xp ok rx last has))):Z3 true 5 (.ptr g 6) H=some (.agg (p.cells xp)):=by
 rw[Yv hg];simp[Go.Am.apart,KV,Loc.cells,Spec.cells]
variable (hg:H[g]?=some (.cells (KV L lx c e p xp (ZK p==0) rx last has)))(hb:H[b]?=some (.cells [.ptr g 0]))
 (hl:LocAV (.agg (L.cells lx c e)) L) (hok:LocOk L) (hs:SpecAV (.agg (p.cells xp)) p) (hks:∀ k∈p.keys,KeOk k)
include hg hb hl hok hs hks
theorem ZvY (x y:Zl)(hx:x.length<=1048576)(hy:y.length<=1048576):Js [.str x,.str y,.ptr b 0] H=some (.bool (Q1 L p x y),H):=by
 have z:=ZN hb 0 (v:=.ptr g 0) rfl;have j:=ZN hg 11 (v:=.bool (ZK p==0)) rfl;have C:=ZmZ hl hok hs hks x y hx hy H;rw[Sh];unfold Rm Q1
 cases u:ZK p==0 with
 |false=>rw[u]at j;simp only[z,go_sem,zT,j];rfl
 |true=>rw[u]at j;simp only[z,go_sem,zT,j,ZmV hg,ZjL hg,C];rfl
end
theorem ZrP (p:AV)(a c:AV)(H:Hp):Yf cfg (Zb cfg) (.fn (.func 128) [] [p]) [a,c] H=Js [a,c,p] H:=by kernel_rfl
def GX (lt:Zl->Zl->Bool)(i:Nat)(x:List Zl)(b:Option (Nat×Zl)):Option (Nat×Zl):=match x with
 |[]=>b
 |a::_=>match b with
  |none=>some (i,a)
  |some (j,c)=>if lt a c then some (i,a) else some (j,c)
def Tn (lt:Zl->Zl->Bool):List (List Zl)->Nat->Option (Nat×Zl)->Option (Nat×Zl)
 |[],_,b=>b
 |x::r,i,b=>Tn lt r (i+1) (GX lt i x b)
def Gu:Option (Nat×Zl)->List AV
 |none=>[.str [],J xS 0,.bool false]
 |some (k,a)=>[.str a,J xS (k:Int),.bool true]
theorem Zty {H:Hp}{w:Nat}{lt:Zl->Zl->Bool}{o:Option (Nat×Zl)}{fv:AV}(hw:H[w]?=some (.cells (Gu o)))(a:Zl)(i:Nat)(r:List Zl)
 (C:∀ k c,o=some (k,c)->Yf cfg (Zb cfg) fv [.str a,.str c] H=some (.bool (lt a c),H)) :
 ∃ H',Vb [.ptr w 0,J xS (i:Int),.str a,fv] H=some (.tuple [],H')/\Stp [w] H H'/\H'[w]?=some (.cells (Gu (GX lt i (a::r) o))):=by
 have j:(YS [(0,1,.str a),(1,1,J xS (i:Int)),(2,1,.bool true)] [(.str []),(J xS 0),(.bool false)]).map xN=some (.agg [.str a,J xS (i:Int),.bool true]):=rfl
 have D:∀ u:Option (Nat×Zl),H[w]?=some (.cells (Gu u))->Za 3 (.ptr w 0) (.agg [.str a,J xS (i:Int),.bool true]) H=some (.tuple [],H.set w (.cells [.str a,J xS (i:Int),.bool true])):=fun u h=>by
  have hlen:(Gu u).length=3:=by rcases u with _|⟨k,c⟩ <;> rfl
  refine (WT (v:=.agg [.str a,J xS (i:Int),.bool true]) h rfl rfl (by rw[hlen];show 0+3<=3;omega)).trans ?_
  have:splice (Gu u) 0 [zL a,J xS (i:Int),.bool true]=[zL a,J xS (i:Int),.bool true]:=by
   rcases u with _|⟨k,c⟩ <;> rfl
  rw[show (xN [.str a,J xS (i:Int),.bool true]).cells=[zL a,J xS (i:Int),.bool true] from rfl,this]
 have hs:=D o hw;have g:=Zq (zB [zL a,J xS (i:Int),.bool true]) hw;rw[RN];unfold Ju
 cases o with
 |none =>
  have z:=ZN hw 2 (v:=.bool false) rfl;exact⟨_,by simp only[go_sem,zT,z,Bool.not_false,j,hs],Stp.set _ _ (by simp),g⟩
 |some q =>
  obtain⟨k,c⟩:=q;have z:=ZN hw 2 (v:=.bool true) rfl;have E:=ZN hw 0 (v:=.str c) rfl;have hc:=C k c rfl
  cases hb:lt a c with
  |true =>
   rw[hb]at hc;refine⟨_,by simp only[go_sem,zT,z,E,yV,hc,j,hs];rfl,Stp.set _ _ (by simp),?_⟩;rw[g];simp only[GX,hb,if_true,Gu]
  |false =>
   rw[hb]at hc;refine⟨H,by simp only[go_sem,zT,z,E,yV,hc],Stp.refl _ _,?_⟩;rw[hw];simp only[GX,hb,Bool.false_eq_true,if_false]
structure Rd where
 r:Nat
 n:Zm
 text:Zm
 rest:List Zm
structure RdAt (H:Hp)(o:Nat)(tm:Tmp)(s:Sto)(A:List Nat)(d:Rd):Prop where
 rdr:Rdr H d.r o d.n d.text d.rest
 out:d.r∉A
 fit:YU d.rest=true
 len:d.text.length<=262144
 file:(YI tm d.n=0/\∃ f,ZP s.files d.n=some f/\f.text=d.text)\/(YI tm d.n=5/\d.rest=[])
section
variable {H:Hp}{o t:Nat}{tm:Tmp}{s:Sto}{A:List Nat}(h:SysAt H o t tm s A)(hm:TmpOk tm)(hk:StoOk s)(hc:s.crashed=false)(h0:s.count=0){d:Rd}(hd:RdAt H o tm s A d)
include h hm hk hc h0 hd
end
def rdV (d:Rd):AV:=.ptr d.r 0
section
variable {o t g b w:Nat}{tm:Tmp}{s:Sto}{A:List Nat}{L:Loc}{lx c e:AV}{p:Spec}{xp:AV}{rx:AV}{last:Zm}{has:Bool}{ds:List Rd}{N:Nat}
 (hm:TmpOk tm) (hk:StoOk s) (hc:s.crashed=false) (h0:s.count=0)
 (hl:LocAV (.agg (L.cells lx c e)) L) (hok:LocOk L) (hs:SpecAV (.agg (p.cells xp)) p) (hks:∀ k∈p.keys,KeOk k)
 (hrx:Sl 1 rx (ds.map rdV)) (hnd:(ds.map Rd.r).Nodup) (hlen:ds.length<=1048576)
 (hgA:g∉A) (hbA:b∉A) (hwA:w∉A) (hgd:g∉ds.map Rd.r) (hbd:b∉ds.map Rd.r) (hwd:w∉ds.map Rd.r) (hgw:g≠w) (hbw:b≠w)
include hm hk hc h0 hl hok hs hks hrx hnd hlen hgA hbA hwA hgd hbd hwd hgw hbw
end
theorem Zxp (lt:Zl->Zl->Bool):∀ (r P:List (List Zl)) (b:Option (Nat×Zl)),(∀ k a,b=some (k,a)->∃ t,P[k]?=some (a::t))->∀ k a,Tn lt r P.length b=some (k,a)->∃ t,(P++r)[k]?=some (a::t):=by
 intro r
 induction r with
 |nil=>intro P b h k a e;rw[zM];exact h k a e
 |cons x r D =>
  intro P b h k a e
  have:=D (P++[x]) (GX lt P.length x b) (fun k a e=>by
   have old:∀ k a,b=some (k,a)->∃ t,(P++[x])[k]?=some (a::t):=fun k a e=>by
    obtain⟨t,C⟩:=h k a e;exact⟨t,by rw[zJ (Zg C)];exact C⟩
   have new:∀ c t,x=c::t->∃ t,(P++[x])[P.length]?=some (c::t):=fun c t e=>⟨t,by rw[zA (zD _)];simp[e]⟩
   cases x with
   |nil=>exact old k a e
   |cons c t =>
    cases b with
    |none=>injection e with e;injection e with u z;subst u z;exact new c t rfl
    |some q =>
     obtain⟨j,E⟩:=q;unfold GX at e;dsimp only at e;split at e
     ·injection e with e;injection e with u z;subst u z;exact new c t rfl
     ·exact old k a e) k a (by rw[zI,zO];exact e)
  rwa [zF,yF]at this
section
variable {o t g:Nat}{tm:Tmp}{s:Sto}{A:List Nat}{L:Loc}{lx c e:AV}{p:Spec}{xp:AV}{rx:AV}{last:Zm}{has:Bool}{ds:List Rd}
 (hm:TmpOk tm) (hk:StoOk s) (hc:s.crashed=false) (h0:s.count=0)
 (hl:LocAV (.agg (L.cells lx c e)) L) (hok:LocOk L) (hs:SpecAV (.agg (p.cells xp)) p) (hks:∀ k∈p.keys,KeOk k)
 (hrx:Sl 1 rx (ds.map rdV)) (hnd:(ds.map Rd.r).Nodup) (hlen:ds.length<=1048576)
 (hgA:g∉A) (hgd:g∉ds.map Rd.r)
include hm hk hc h0 hl hok hs hks hrx hnd hlen hgA hgd
end
def Y4:List Rd->Nat
 |[]=>0
 |d::r=>d.rest.length+Y4 r
theorem Vv (A B:List Rd):Y4 (A++B)=Y4 A+Y4 B:=by
 induction A with
 |nil=>simp[Y4]
 |cons x A j=>simp only[zN,Y4,j];omega
def Ku (L:Loc)(p:Spec)(last:Zm)(has:Bool)(a:Zl):Bool:=(has&&(ZK p==0)&&p.uniq)&&(Wp L p last a==0)
inductive NextD (lt:Zl->Zl->Bool)(same:Zl->Bool):List Rd->Option Zl->List Rd->Prop
 |done {ds:List Rd} (h:Tn lt (ds.map Rd.rest) 0 none=none):NextD lt same ds none ds
 |skip {P Q:List Rd} {x:Rd} {a:Zl} {r:List Zl} {z:Option Zl} {ds':List Rd} (hx:x.rest=a::r) (h:Tn lt ((P++x::Q).map Rd.rest) 0 none=some (P.length,a)) (hs:same a=true) (k:NextD lt same (P++{ x with rest:=r }::Q) z ds'):NextD lt same (P++x::Q) z ds'
 |give {P Q:List Rd} {x:Rd} {a:Zl} {r:List Zl} (hx:x.rest=a::r) (h:Tn lt ((P++x::Q).map Rd.rest) 0 none=some (P.length,a)) (hs:same a=false):NextD lt same (P++x::Q) (some a) (P++{ x with rest:=r }::Q)
section
variable {o t g:Nat}{tm:Tmp}{s:Sto}{A:List Nat}{L:Loc}{lx c e:AV}{p:Spec}{xp:AV}{rx:AV}{last:Zm}{has:Bool}{rs:List Nat}
 (hm:TmpOk tm) (hk:StoOk s) (hc:s.crashed=false) (h0:s.count=0)
 (hl:LocAV (.agg (L.cells lx c e)) L) (hok:LocOk L) (hs:SpecAV (.agg (p.cells xp)) p) (hks:∀ k∈p.keys,KeOk k)
 (hrx:Sl 1 rx (rs.map fun r=>yE r 0)) (hnd:rs.Nodup) (hlen:rs.length<=1048576)
 (hgA:g∉A) (hgd:g∉rs) (hlast:last.length<=1048576)
include hm hk hc h0 hl hok hs hks hrx hnd hlen hgA hgd hlast
end
theorem M1 {k bytes:Nat}{x:AV}{l:List AV}(h:Sl k x l)(hl:l.length<=1048576)(hb:bytes<=64)(H:Hp) :
 ∃ j T,Y9 k bytes .nils x H=some (j,H++T)/\Sl k j l/\j.cells=[j]/\j.known=true:=by
 have u:elems k x H=some l:=by
  rcases h with ⟨rfl,rfl⟩|⟨tok,rfl⟩
  ·rfl
  ·simp[elems]
 unfold Y9;rw[u];by_cases hn:l=[]
 ·subst hn;exact⟨.nils,[],by simp[YN],.inl ⟨rfl,rfl⟩,rfl,rfl⟩
 ·have z:Xg l.length bytes=true:=by
   have:l.length*(bytes+1)<=1048576*65:=Nat.mul_le_mul hl (by omega);simp only[Xg,decide_eq_true_eq];omega
  exact⟨.vs k (.own H.length l.length) l,[.tok l.length],by simp only[YN,hn,if_false,z,if_true],.inr ⟨_,rfl⟩,rfl,rfl⟩
structure LocSm (L:Loc):Prop where
 w:L.w.length<=1048576
 cls:L.cls.length<=1048576
 els:L.els.length<=1048576
theorem Zo7 {a:AV}{L:Loc}(h:LocAV a L)(hsm:LocSm L)(H:Hp):∃ a',Zh Bj [a] H=some (a',H)/\LocAV a' L:=by
 obtain⟨a1,h1,h2⟩:=h.close [] 0 5;obtain⟨lx,c,e,rfl,ac,hc,he⟩:=h2
 suffices hs:∃ a2 H1,Bj [.agg (L.cells lx c e)] []=some (a2,H1)/\LocAV a2 L by
  obtain⟨a2,H1,W,r2⟩:=hs;obtain⟨a3,r3,X⟩:=r2.close H1 0 5;exact⟨a3,Na (args':=[.agg (L.cells lx c e)]) (by simp[h1]) W r3,X⟩
 obtain⟨j,Y,p1,p2,p3,p4⟩:=M1 ac (by rw[zR];exact hsm.w) (bytes:=8) (by omega) [zB (L.cells lx c e),.cells [(.str []),.nils,(.str []),(.str []),.nils,.nils]];have g0:([zB (L.cells lx c e),.cells [(.str []),.nils,(.str []),(.str []),.nils,.nils]]++Y)[0]?=some (.cells (L.cells lx c e)):=by simp
 have F:([zB (L.cells lx c e),.cells [(.str []),.nils,(.str []),(.str []),.nils,.nils]]++Y)[1]?=some (.cells [(.str []),.nils,(.str []),(.str []),.nils,.nils]):=by simp
 generalize ae:[zB (L.cells lx c e),.cells [(.str []),.nils,(.str []),(.str []),.nils,.nils]]++Y=H1 at p1 g0 F;have s1:=V9 g0 1 (v:=j) p3 p4 (by simp[Loc.cells]);have g1:(H1.set 0 (.cells (L.cells j c e)))[0]?=some (.cells (L.cells j c e)):=Zq _ g0;have I:(H1.set 0 (.cells (L.cells j c e)))[1]?=some (.cells [(.str []),.nils,(.str []),(.str []),.nils,.nils]):=Yd _ (by decide) F;have T:Za 1 (.ptr 0 1) j H1=some (.tuple [],H1.set 0 (.cells (L.cells j c e))):=s1;generalize af:H1.set 0 (.cells (L.cells j c e))=U at T g1 I;obtain⟨c',Z,q1,q2,q3,q4⟩:=M1 hc (by rw[zR];exact hsm.cls) (bytes:=48) (by omega) U;have g2:(U++Z)[0]?=some (.cells (L.cells j c e)):=ZY g1 _;have K:(U++Z)[1]?=some (.cells [(.str []),.nils,(.str []),(.str []),.nils,.nils]):=ZY I _;generalize ag:U++Z=C at q1 g2 K;have s2:Za 1 (.ptr 0 4) c' C=some (.tuple [],C.set 0 (.cells (L.cells j c' e))):=V9 g2 4 (v:=c') q3 q4 (by simp[Loc.cells]);have g3:(C.set 0 (.cells (L.cells j c' e)))[0]?=some (.cells (L.cells j c' e)):=Zq _ g2;have M:(C.set 0 (.cells (L.cells j c' e)))[1]?=some (.cells [(.str []),.nils,(.str []),(.str []),.nils,.nils]):=Yd _ (by decide) K;generalize ah:C.set 0 (.cells (L.cells j c' e))=V at s2 g3 M;obtain⟨u,T3,W,r2,r3,X⟩:=M1 he (by rw[zR];exact hsm.els) (bytes:=24) (by omega) V;have g4:(V++T3)[0]?=some (.cells (L.cells j c' e)):=ZY g3 _;have O:(V++T3)[1]?=some (.cells [(.str []),.nils,(.str []),(.str []),.nils,.nils]):=ZY M _;generalize ai:V++T3=D at W g4 O;have s3:Za 1 (.ptr 0 5) u D=some (.tuple [],D.set 0 (.cells (L.cells j c' u))):=V9 g4 5 (v:=u) r3 X (by simp[Loc.cells]);have g5:(D.set 0 (.cells (L.cells j c' u)))[0]?=some (.cells (L.cells j c' u)):=Zq _ g4;have z:(D.set 0 (.cells (L.cells j c' u)))[1]?=some (.cells [(.str []),.nils,(.str []),(.str []),.nils,.nils]):=Yd _ (by decide) O;generalize aj:D.set 0 (.cells (L.cells j c' u))=E at s3 g5 z;have ab:Z3 true 6 (.ptr 0 0) E=some (.agg (L.cells j c' u)):=by rw[Yv g5];simp[Go.Am.apart,Loc.cells]
 have ad:Za 6 (.ptr 1 0) (.agg (L.cells j c' u)) E=some (.tuple [],E.set 1 (.cells (L.cells j c' u))):=by
  have aa:(xN (L.cells j c' u)).known=true:=by simp[AV.known,Loc.cells,p4,q4,X]
  refine (WT (v:=.agg (L.cells j c' u)) z aa rfl (by show 0+6<=6;omega)).trans ?_;rfl
 have g6:=Zq (zB (L.cells j c' u)) z;have Q:Z3 true 6 (.ptr 1 0) (E.set 1 (.cells (L.cells j c' u)))=some (.agg (L.cells j c' u)):=by rw[Yv g6];simp[Go.Am.apart,Loc.cells]
 have la:=ZN (show ([zB (L.cells lx c e),.cells [(.str []),.nils,(.str []),(.str []),.nils,.nils]])[0]?=some (.cells (L.cells lx c e)) from rfl) 1 (v:=lx) rfl;have lb:=ZN g1 4 (v:=c) rfl;have lc:=ZN g3 5 (v:=e) rfl;refine⟨_,E.set 1 (.cells (L.cells j c' u)),?_,⟨j,c',u,rfl,p2,q2,r2⟩⟩;rw[Zf8];unfold IU;simp only[Yu,go_sem,yO,zN,yH,zQ,zT,Nat.add_zero,la,p1,T,lb,q1,s2,lc,W,s3,ab,ad,Q]
theorem ZlD {a q rx:AV}{L:Loc}{p:Spec}{rs:List Nat}(ha:LocAV a L)(hsm:LocSm L)(hq:SpecAV q p)(hkl:p.keys.length<=1048576)(hrx:Sl 1 rx (rs.map fun r=>yE r 0))(ad:rs.length<=1048576)(H:Hp) :
 ∃ H' g lx c e xp j,NB [a,q,rx] H=some (.ptr g 0,H')/\H'[g]?=some (.cells (KV L lx c e p xp (ZK p==0) j [] false))/\LocAV (.agg (L.cells lx c e)) L/\SpecAV (.agg (p.cells xp)) p/\Sl 1 j (rs.map fun r=>yE r 0)/\Stp [] H H'/\H.length<=g:=by
 have al:=ha;obtain⟨lx,c,e,rfl,ac,hc,he⟩:=ha;obtain⟨xp,rfl,ag⟩:=hq;have aa:(H++[zB (L.cells lx c e)]).length=H.length+1:=by simp
 have g1:((H++[zB (L.cells lx c e)])++[zB (p.cells xp)])[H.length]?=some (.cells (L.cells lx c e)):=by simp
 have g2:((H++[zB (L.cells lx c e)])++[zB (p.cells xp)])[H.length+1]?=some (.cells (p.cells xp)):=by
  rw[zA (by simp)];simp
 have l0:=ZN g2 0 (v:=xp) rfl;obtain⟨u,T,q1,q2,q3,q4⟩:=M1 ag (by rw[zR];exact hkl) (bytes:=40) (by omega) ((H++[zB (L.cells lx c e)])++[zB (p.cells xp)]);have g3:=ZY g1 T;have W:=ZY g2 T;have D:Stp [] H (((H++[zB (L.cells lx c e)])++[zB (p.cells xp)])++T):=by rw[zF,zF];exact Stp.push _ _
 generalize ai:((H++[zB (L.cells lx c e)])++[zB (p.cells xp)])++T=K at q1 g3 W D;have s0:Za 1 (.ptr (H.length+1) 0) u K=some (.tuple [],K.set (H.length+1) (.cells (p.cells u))):=V9 W 0 (v:=u) q3 q4 (by simp[Spec.cells]);have g5:(K.set (H.length+1) (.cells (p.cells u)))[H.length]?=some (.cells (L.cells lx c e)):=Yd _ (by omega) g3;have g6:(K.set (H.length+1) (.cells (p.cells u)))[H.length+1]?=some (.cells (p.cells u)):=Zq _ W;have E:Stp [H.length+1] K (K.set (H.length+1) (.cells (p.cells u))):=Stp.set _ _ (by simp);generalize aj:K.set (H.length+1) (.cells (p.cells u))=Q at s0 g5 g6 E;have U:=fun k=>ZsV g6 k;have g7:(Q.set (H.length+1) .dead)[H.length]?=some (.cells (L.cells lx c e)):=Yd _ (by omega) g5;have F:Stp [H.length+1] Q (Q.set (H.length+1) .dead):=Stp.set _ _ (by simp);generalize ak:Q.set (H.length+1) .dead=C at U g7 F;have ab:Z3 true 6 (.ptr H.length 0) C=some (.agg (L.cells lx c e)):=by rw[Yv g7];simp[Go.Am.apart,Loc.cells]
 obtain⟨a',r1,z,c',O,rfl,r2,r3,r4⟩:=Zo7 (a:=.agg (L.cells lx c e)) ⟨lx,c,e,rfl,ac,hc,he⟩ hsm C;have I:SpecAV (.agg (p.cells u)) p:=⟨u,rfl,q2⟩;have ae:Jy true 5 (.vp (p.cells u))=some (.agg (p.cells u)):=by simp[Jy,Z3,Go.Am.apart,Spec.cells]
 have af:Z3 true 5 (.vp (p.cells u)) C=some (.agg (p.cells u)):=Vz 5 (p.cells u) rfl C;have Z:=Eb I C;obtain⟨j,V,u1,u2,u3,u4⟩:=M1 hrx (by rw[zR];exact ad) (bytes:=8) (by omega) C
 have M:(YS [(0,6,.agg (L.cells z c' O)),(6,5,.agg (p.cells u)),(11,1,.bool (ZK p==0)),(12,1,j)] [(.str []),.nils,(.str []),(.str []),.nils,.nils,.nils,(J xS 0),(J xS 0),(.bool false),(.bool false),(.bool false),.nils,(.str []),(.bool false)]).map xN=some (.agg (KV L z c' O p u (ZK p==0) j [] false)):=by
  have h3:j.cells.length=1:=by rw[u3];rfl
  have hr:j=.nils\/∃ tok l,j=.vs 1 tok l:=by
   rcases u2 with ⟨h,_⟩|⟨tok,h⟩
   ·exact .inl h
   ·exact .inr ⟨tok,_,h⟩
  rcases hr with h|⟨tok,l,h⟩ <;> subst h <;> rfl
 have Y:Stp [] H ((C++V)++[.cells (KV L z c' O p u (ZK p==0) j [] false)]):=by
  have X:Stp [] H Q:=⟨xL D.len E.len,fun i hi hn=>(E.at' i (yW hi D.len) (by simp;omega)).trans (D.at' i hi hn)⟩;have h2:Stp [] H C:=⟨xL X.len F.len,fun i hi hn=>(F.at' i (yW hi X.len) (by simp;omega)).trans (X.at' i hi hn)⟩;refine h2.trans (B:=[]) ?_ (fun _ h=>h) (fun _ h=>by cases h);rw[zF];exact Stp.push _ _
 have ah:H.length<=C.length:=by
  have:=D.len;have:=E.len;have:=F.len;omega
 refine⟨(C++V)++[.cells (KV L z c' O p u (ZK p==0) j [] false)],(C++V).length,z,c',O,u,j,?_,by simp,⟨z,c',O,rfl,r2,r3,r4⟩,I,u2,Y,by simp;omega⟩;rw[Zjf];unfold ZfK;simp only[Yu,go_sem,aa,zT,l0,q1,s0,U,ab,r1,ae,af,Z,u1,M]
theorem NextD.less {lt:Zl->Zl->Bool}{same:Zl->Bool}{ds j:List Rd}{z:Option Zl}(h:NextD lt same ds z j):Y4 j<=Y4 ds/\∀ a,z=some a->Y4 j<Y4 ds:=by
 induction h with
 |done h=>exact⟨zD _,fun a e=>by cases e⟩
 |skip hx h hs k D =>
  obtain⟨C,u⟩:=D;rw[Vv,Y4]at C u ⊢;rw[hx,zQ];dsimp only at C u;exact⟨by omega,fun a e=>by have:=u a e;omega⟩
 |give hx h hs =>
  rw[Vv,Y4,Vv,Y4,hx,zQ];dsimp only;exact⟨by omega,fun a e=>by omega⟩
section
variable {o t g:Nat}{tm:Tmp}{s:Sto}{A:List Nat}{L:Loc}{lx c e:AV}{p:Spec}{xp:AV}{rx:AV}{last:Zm}{has:Bool}{rs:List Nat}
 (hm:TmpOk tm) (hk:StoOk s) (hc:s.crashed=false) (h0:s.count=0)
 (hl:LocAV (.agg (L.cells lx c e)) L) (hok:LocOk L) (hs:SpecAV (.agg (p.cells xp)) p) (hks:∀ k∈p.keys,KeOk k)
 (hrx:Sl 1 rx (rs.map fun r=>yE r 0)) (hnd:rs.Nodup) (hlen:rs.length<=1048576)
 (hgA:g∉A) (hgd:g∉rs) (hlast:last.length<=1048576)
include hm hk hc h0 hl hok hs hks hrx hnd hlen hgA hgd hlast
end
inductive AllD (L:Loc)(p:Spec):Zm->Bool->List Rd->List Zl->List Rd->Prop
 |done {last:Zm} {has:Bool} {ds ds':List Rd} (h:NextD (Q1 L p) (Ku L p last has) ds none ds'):AllD L p last has ds [] ds'
 |more {last:Zm} {has:Bool} {ds ds' ds2:List Rd} {a:Zl} {out:List Zl} (h:NextD (Q1 L p) (Ku L p last has) ds (some a) ds') (k:AllD L p a true ds' out ds2):AllD L p last has ds (a::out) ds2
theorem NextD.mem {lt:Zl->Zl->Bool}{same:Zl->Bool}{ds j:List Rd}{z:Option Zl}(h:NextD lt same ds z j):∀ a,z=some a->∃ x∈ds,a∈x.rest:=by
 induction h with
 |done h=>exact fun a e=>by cases e
 |@skip P Q x a r z j hx h hs k C =>
  intro b e;obtain⟨y,hy,hb⟩:=C b e;rcases zC.1 hy with hy|hy
  ·exact⟨y,by simp[hy],hb⟩
  ·rcases zH.1 hy with u|hy
   ·subst u;exact⟨x,by simp,by rw[hx];exact List.mem_cons_of_mem _ hb⟩
   ·exact⟨y,by simp[hy],hb⟩
 |@give P Q x a r hx h hs =>
  intro b e;injection e with e;subst e;exact⟨x,by simp,by rw[hx];simp⟩
section
variable {o t g n N:Nat}{tm:Tmp}{s:Sto}{A:List Nat}{L:Loc}{lx c e:AV}{p:Spec}{xp:AV}{rx:AV}{rs:List Nat}
 (hm:TmpOk tm) (hk:StoOk s) (hc:s.crashed=false) (h0:s.count=0)
 (hl:LocAV (.agg (L.cells lx c e)) L) (hok:LocOk L) (hs:SpecAV (.agg (p.cells xp)) p) (hks:∀ k∈p.keys,KeOk k)
 (hrx:Sl 1 rx (rs.map fun r=>yE r 0)) (hnd:rs.Nodup) (hlen:rs.length<=1048576)
 (hgA:g∉A) (hgd:g∉rs) (hn:n<=65536) (hgN:g<N) (hrN:∀ r∈rs,r<N) (hAN:∀ a∈A,a<N)
include hm hk hc h0 hl hok hs hks hrx hnd hlen hgA hgd hn hgN hrN hAN
end
section
variable {α:Type}{f:α->α->Int}
def Strict (f:α->α->Int)(l:List α):Prop:=l.Pairwise fun a b=>f a b<0
theorem Strict.srt {l:List α}(h:Strict f l):Rs f l:=List.Pairwise.imp (fun h=>by omega) h
variable (h:Cm f)
include h
theorem ZdL {x y z:α}(j:YP f x y=true)(u:YP f y z=true):YP f x z=true:=by
 rw[h.eqv_iff]at *;have a:=h.tr x y z (by omega) (by omega);have b:=h.tr2 x y z (by omega) (by omega);omega
theorem ZgH {x y:α}(j:YP f x y=true):YP f y x=true:=by
 rw[h.eqv_iff]at *;have:=h.sym x y;omega
theorem Zex (out:List α)(x:α):Ks f out x=true↔∃ y,out.getLast?=some y/\f y x=0:=by
 unfold Ks
 cases out.getLast? with
 |none=>simp
 |some y=>simp
theorem ZkE:∀ (l out:List α),Strict f out->(∀ a∈out,∀ b∈l,f a b<=0)->Rs f l ->
 Strict f (Un f out l)/\∀ x,(Un f out l).filter (YP f x)=if out.filter (YP f x)=[] then (l.filter (YP f x)).take 1 else out.filter (YP f x):=by
 intro l
 induction l with
 |nil =>
  intro out hs _ _;refine⟨hs,fun x=>?_⟩;show out.filter (YP f x)=_;split
  ·rename_i h0;rw[h0];rfl
  ·rfl
 |cons a l ih =>
  intro out hs hc hl;have D:=zX.1 hl;unfold Un
  cases K:Ks f out a with
  |true =>
   obtain⟨y,hy,E⟩:=(Zex h out a).1 K;have F:y∈out:=yU hy;obtain⟨X,Y⟩:=ih out hs (fun b hb c j=>hc b hb c (by simp[j])) D.2;refine⟨X,fun x=>?_⟩;rw[if_pos rfl,Y];split
   ·rename_i h0
    have:YP f x a=false:=by
     cases u:YP f x a with
     |false=>rfl
     |true =>
      have M:YP f a y=true:=ZgH h ((h.eqv_iff y a).2 E);have:=ZdL h u M;have hm:y∈out.filter (YP f x):=xF.2 ⟨F,this⟩;rw[h0]at hm;cases hm
    rw[zU,this];rfl
   ·rfl
  |false =>
   have z:∀ b∈out,f b a<0:=fun b hb=>by
    cases hg:out.getLast? with
    |none=>rw[List.getLast?_eq_none_iff.1 hg]at hb;cases hb
    |some y =>
     have F:y∈out:=yU hg
     have E:f y a<0:=by
      have h1:=hc y F a (by simp)
      have Z:f y a≠0:=fun e=>by
       have:=(Zex h out a).2 ⟨y,hg,e⟩;rw[K]at this;cases this
      omega
     have O:f b y<=0:=by
      obtain⟨i,hi⟩:=List.getElem?_of_mem hb;obtain⟨T,I⟩:=zY.1 hi;rw[List.getLast?_eq_getElem?]at hg;obtain⟨U,C⟩:=zY.1 hg;by_cases Q:i=out.length-1
      ·subst Q;rw[I]at C;rw[C,h.self];exact xO _
      ·have:=List.pairwise_iff_getElem.1 hs i (out.length-1) T U (by omega);rw[I,C]at this;omega
     exact h.le_lt O E
   have V:Strict f (out++[a]):=List.pairwise_append.2 ⟨hs,List.pairwise_singleton _ _,fun b hb c j=>by rw[zE.1 j];exact z b hb⟩
   obtain⟨X,Y⟩:=ih (out++[a]) V (fun b hb c j=>by
    rcases zC.1 hb with hb|hb
    ·exact hc b hb c (by simp[j])
    ·rw[zE.1 hb];exact D.1 c j) D.2
   refine⟨by simpa using X,fun x=>?_⟩;rw[if_neg (by decide),Y,zP]
   cases u:YP f x a with
   |false=>simp[zU,u]
   |true =>
    have h0:out.filter (YP f x)=[]:=by
     rw[yP];intro b hb W;have h1:=z b hb;have Z:=ZdL h (ZgH h W) u;rw[h.eqv_iff]at Z;omega
    rw[h0];simp[zU,u]
end
section
variable {L:Loc}{p:Spec}(hv:ZK p=0)
include hv
theorem Zj2:ZA p=p:=by
 unfold ZA;rw[if_neg (by simp[hv])]
theorem Zrn (l:List Zl):ZO L p l=if p.uniq then Un (Y0 L p) [] (Nf (Y0 L p) l) else Nf (Y0 L p) l:=by
 unfold ZO;rw[if_neg (by simp[hv])]
 cases j:p.uniq with
 |false=>rfl
 |true =>
  have:Wp L p=Y0 L p:=funext fun a=>funext fun b=>(Iu (by rw[Zj2 hv,j,xM]) a b).symm;rw[this]
theorem Zbc (l:List Zl):Rs (Y0 L p) (ZO L p l)/\(p.uniq=true->Strict (Y0 L p) (ZO L p l))/\∀ x,(ZO L p l).filter (YP (Y0 L p) x)=if p.uniq then (l.filter (YP (Y0 L p) x)).take 1 else l.filter (YP (Y0 L p) x):=by
 have hc:=AA L p;obtain⟨u,C⟩:=ZmB hc l [] List.Pairwise.nil
 have j:∀ x,(Nf (Y0 L p) l).filter (YP (Y0 L p) x)=l.filter (YP (Y0 L p) x):=fun x=>by
  rw[show Nf (Y0 L p) l=l.foldl (Im (Y0 L p)) [] from rfl,C];rfl
 rw[Zrn hv]
 cases E:p.uniq with
 |false=>exact⟨u,fun h=>(by cases h),j⟩
 |true =>
  obtain⟨z,D⟩:=ZkE hc (Nf (Y0 L p) l) [] List.Pairwise.nil (fun a ha=>by cases ha) u;refine⟨z.srt,fun _=>z,fun x=>?_⟩;rw[if_pos rfl,if_pos rfl,D];show (if ([]:List Zl)=[] then _ else _)=_;rw[if_pos rfl,j]
end
section
variable {α:Type}{f:α->α->Int}
def XX (f:α->α->Int):List (List α)->Nat->Option (Nat×α)->Option (Nat×α)
 |[],_,b=>b
 |x::r,i,b=>XX f r (i+1) (match x with
  |[]=>b
  |a::_=>match b with
   |none=>some (i,a)
   |some (j,c)=>if 0<f c a then some (i,a) else some (j,c))
theorem Zis (f:α->α->Int)(r:List (List α))(i:Nat)(b:Option (Nat×α)):XX f ([]::r) i b=XX f r (i+1) b:=(Eq.refl _).trans (Eq.refl _)
theorem Zg1 (f:α->α->Int)(a:α)(t:List α)(r:List (List α))(i:Nat):XX f ((a::t)::r) i none=XX f r (i+1) (some (i,a)):=(Eq.refl _).trans (Eq.refl _)
theorem Io (f:α->α->Int)(a:α)(t:List α)(r:List (List α))(i j:Nat)(c:α):XX f ((a::t)::r) i (some (j,c))=XX f r (i+1) (if 0<f c a then some (i,a) else some (j,c)):=(Eq.refl _).trans (Eq.refl _)
def V8 (f:α->α->Int):Nat->List (List α)->List α
 |0,_=>[]
 |n+1,rest=>match XX f rest 0 none with
  |none=>[]
  |some (k,a)=>a::V8 f n (rest.set k ((rest.getD k []).drop 1))
theorem NK {f:α->α->Int}{n:Nat}{rest:List (List α)}(h:XX f rest 0 none=none):V8 f (n+1) rest=[]:=by rw[V8,h]
theorem Fo {f:α->α->Int}{n:Nat}{rest:List (List α)}{k:Nat}{a:α}(h:XX f rest 0 none=some (k,a)):V8 f (n+1) rest=a::V8 f n (rest.set k ((rest.getD k []).drop 1)):=by rw[V8,h]
def WL:List (List α)->Nat
 |[]=>0
 |x::r=>x.length+WL r
theorem Zuf (A B:List (List α)):WL (A++B)=WL A+WL B:=by
 induction A with
 |nil=>simp[WL]
 |cons x A j=>simp only[zN,WL,j];omega
theorem ZiV (A:List (List α)):A.flatten.length=WL A:=by
 induction A with
 |nil=>rfl
 |cons x A j=>simp[WL,j]
def Zpp (f:α->α->Int)(P:List (List α)):Option (Nat×α)->Prop
 |none=>∀ l∈P,l=[]
 |some (k,a)=>∃ A t B,P=A++(a::t)::B/\A.length=k/\(∀ l∈A,∀ c,l.head?=some c->0<f c a)/\(∀ l∈B,∀ c,l.head?=some c->f a c<=0)
theorem ZvW (f:α->α->Int):∀ (r P:List (List α)) (b:Option (Nat×α)),(∀ k a,b=some (k,a)->∃ t,P[k]?=some (a::t))->(b=none->∀ l∈P,l=[]) ->
 (∀ k a,XX f r P.length b=some (k,a)->∃ t,(P++r)[k]?=some (a::t))/\(XX f r P.length b=none->∀ l∈P++r,l=[]):=by
 intro r
 induction r with
 |nil=>intro P b z C;rw[zM];exact⟨z,C⟩
 |cons x r M =>
  intro P b z C
  have grow:∀ b',(∀ k a,b'=some (k,a)->∃ t,(P++[x])[k]?=some (a::t))->(b'=none->∀ l∈P++[x],l=[])->(∀ k a,XX f r (P.length+1) b'=some (k,a)->∃ t,(P++x::r)[k]?=some (a::t))/\(XX f r (P.length+1) b'=none->∀ l∈P++x::r,l=[]):=fun b' I K=>by
   have:=M (P++[x]) b' I K
   rwa [zI,zO,zF,yF]at this
  have old:∀ k a,b=some (k,a)->∃ t,(P++[x])[k]?=some (a::t):=fun k a e=>by
   obtain⟨t,D⟩:=z k a e;exact⟨t,by rw[zJ (zY.1 D).1];exact D⟩
  cases x with
  |nil =>
   rw[Zis];refine grow b old fun e l hl=>?_;rcases zC.1 hl with hl|hl
   ·exact C e l hl
   ·exact zE.1 hl
  |cons a t =>
   have u:∀ k a',some (P.length,a)=some (k,a')->∃ O,(P++[a::t])[k]?=some (a'::O):=fun k a' e=>by
    injection e with e;injection e with E F;subst E F;exact⟨t,by rw[zA (zD _)];simp⟩
   cases b with
   |none =>
    rw[Zg1];exact grow _ u fun e=>(by cases e)
   |some q =>
    obtain⟨j,c⟩:=q;rw[Io];split
    ·exact grow _ u fun e=>(by cases e)
    ·exact grow _ old fun e=>(by cases e)
variable (h:Cm f)
include h
theorem Zow:∀ (r P:List (List α)) (b:Option (Nat×α)),Zpp f P b->Zpp f (P++r) (XX f r P.length b):=by
 intro r
 induction r with
 |nil=>intro P b hb;rw[zM];exact hb
 |cons x r I =>
  intro P b hb
  have grow:∀ b',Zpp f (P++[x]) b'->Zpp f (P++x::r) (XX f r (P.length+1) b'):=fun b' D=>by
   have:=I (P++[x]) b' D
   rwa [zI,zO,zF,yF]at this
  cases x with
  |nil =>
   rw[Zis];refine grow b ?_
   cases b with
   |none =>
    intro l hl;rcases zC.1 hl with hl|hl
    ·exact hb l hl
    ·exact zE.1 hl
   |some q =>
    obtain⟨k,a⟩:=q;obtain⟨A,t,B,rfl,hk,z,C⟩:=hb;refine⟨A,t,B++[[]],by simp,hk,z,fun l hl c hc=>?_⟩;rcases zC.1 hl with hl|hl
    ·exact C l hl c hc
    ·rw[zE.1 hl]at hc;cases hc
  |cons a t =>
   cases b with
   |none =>
    rw[Zg1];refine grow _ ⟨P,t,[],rfl,rfl,fun l hl c hc=>?_,fun l hl=>(by cases hl)⟩;rw[hb l hl]at hc;cases hc
   |some q =>
    obtain⟨j,c⟩:=q;rw[Io];obtain⟨A,F,B,rfl,hk,z,C⟩:=hb;split
    ·rename_i E;have u:f a c<0:=by have:=h.sym c a;omega
     refine grow _ ⟨A++(c::F)::B,t,[],rfl,rfl,fun l hl d hd=>?_,fun l hl=>(by cases hl)⟩;have key:f a d<0->0<f d a:=fun hd=>by have:=h.sym d a;omega
     rcases zC.1 hl with hl|hl
     ·have K:=z l hl d hd;have M:f c d<0:=by have:=h.sym d c;omega
      exact key (h.lt_le u (by omega))
     ·rcases zH.1 hl with rfl|hl
      ·injection hd with hd;subst hd;exact key u
      ·exact key (h.lt_le u (C l hl d hd))
    ·rename_i E;refine grow _ ⟨A,F,B++[a::t],by simp,hk,z,fun l hl d hd=>?_⟩;rcases zC.1 hl with hl|hl
     ·exact C l hl d hd
     ·rw[zE.1 hl]at hd;injection hd with hd;subst hd;omega
theorem Zix:∀ (n:Nat) (rest:List (List α)),WL rest<=n->(∀ l∈rest,Rs f l) ->
 Rs f (V8 f n rest)/\(∀ y∈V8 f n rest,y∈rest.flatten)/\∀ x,(V8 f n rest).filter (YP f x)=rest.flatten.filter (YP f x):=by
 intro n
 induction n with
 |zero =>
  intro rest K _;have h0:rest.flatten=[]:=yM.1 (by rw[ZiV];omega);exact⟨List.Pairwise.nil,fun y hy=>(by cases hy),fun x=>by rw[h0];rfl⟩
 |succ n Z =>
  intro rest K hs;have hb:=Zow h rest [] none (fun l hl=>(by cases hl));rw[yO,yH]at hb
  cases E:XX f rest 0 none with
  |none =>
   rw[E]at hb
   have h0:rest.flatten=[]:=by
    rw[List.flatten_eq_nil_iff];exact hb
   rw[NK E];exact⟨List.Pairwise.nil,fun y hy=>(by cases hy),fun x=>by rw[h0]⟩
  |some q =>
   obtain⟨k,a⟩:=q;rw[E]at hb;obtain⟨A,t,B,rfl,hk,V,W⟩:=hb;rw[Fo E]
   have D:(A++(a::t)::B).set k (((A++(a::t)::B).getD k []).drop 1)=A++t::B:=by
    subst hk;rw[yB,zA (zD _)];simp
   rw[D];have C:Rs f (a::t):=hs _ (by simp)
   have I:∀ l∈A++t::B,Rs f l:=fun l hl=>by
    rcases zC.1 hl with hl|hl
    ·exact hs l (by simp[hl])
    ·rcases zH.1 hl with rfl|hl
     ·exact (zX.1 C).2
     ·exact hs l (by simp[hl])
   obtain⟨X,U,Y⟩:=Z (A++t::B) (by rw[Zuf]at K ⊢;simp only[WL,zQ]at K ⊢;omega) I
   have T:∀ y∈A.flatten,f a y<0:=fun y hy=>by
    obtain⟨l,hl,j⟩:=zV.1 hy
    cases l with
    |nil=>cases j
    |cons c O =>
     have u:=V _ hl c rfl;have Q:f a c<0:=by have:=h.sym c a;omega
     rcases zH.1 j with e|e
     ·rw[e];exact Q
     ·exact h.lt_le Q ((zX.1 (hs (c::O) (by simp[hl]))).1 y e)
   have z:∀ y∈(A++t::B).flatten,f a y<=0:=fun y hy=>by
    rw[yC,zK]at hy;rcases zC.1 hy with hy|hy
    ·have:=T y hy;omega
    ·rcases zC.1 hy with hy|hy
     ·exact (zX.1 C).1 y hy
     ·obtain⟨l,hl,j⟩:=zV.1 hy
      cases l with
      |nil=>cases j
      |cons c O =>
       have u:=W _ hl c rfl;rcases zH.1 j with e|e
       ·rw[e];exact u
       ·exact h.le_trans u ((zX.1 (hs (c::O) (by simp[hl]))).1 y e)
   refine⟨zX.2 ⟨fun y hy=>z y (U y hy),X⟩,fun y hy=>?_,fun x=>?_⟩
   ·rcases zH.1 hy with e|e
    ·rw[e];simp
    ·have:=U y e;rw[yC,zK]at this ⊢;rcases zC.1 this with h|h
     ·simp[h]
     ·rcases zC.1 h with h|h
      ·simp[h]
      ·exact yQ _ (yQ _ h)
   ·rw[zU,Y,yC,yC,zK,zK,zP,zP,zP,zP,zU]
    cases hx:YP f x a with
    |false=>simp
    |true =>
     have F:A.flatten.filter (YP f x)=[]:=by
      rw[yP];intro y hy M;have u:=ZdL h (ZgH h hx) M;rw[h.eqv_iff]at u;have:=T y hy;omega
     rw[F];simp
end
section
variable {L:Loc}{p:Spec}(hv:ZK p=0)
include hv
def Ox (L:Loc)(p:Spec)(ls:List (List Zl)):List Zl :=
 if p.uniq then Un (Wp L p) [] (V8 (Y0 L p) (WL ls) ls) else V8 (Y0 L p) (WL ls) ls
theorem ZoD (ls:List (List Zl)):Ox L p (ls.map (ZO L p))=ZO L p ls.flatten:=by
 have hc:=AA L p
 obtain⟨z,_,C⟩:=Zix hc (WL (ls.map (ZO L p))) (ls.map (ZO L p)) (zD _) (fun l hl=>by
  obtain⟨k,_,rfl⟩:=zW.1 hl;exact (Zbc hv k).1)
 obtain⟨D,K,E⟩:=Zbc (L:=L) hv ls.flatten;unfold Ox
 cases j:p.uniq with
 |false =>
  rw[if_neg (by decide)];refine Zhb hc _ _ z D fun x=>?_;rw[C,E,j,if_neg (by decide)]
  have:∀ ls:List (List Zl),(ls.map (ZO L p)).flatten.filter (YP (Y0 L p) x)=ls.flatten.filter (YP (Y0 L p) x):=by
   intro ls
   induction ls with
   |nil=>rfl
   |cons l ls u =>
    rw[zG,zK,zK,zP,zP,u,(Zbc hv l).2.2,j,if_neg (by decide)]
  exact this ls
 |true =>
  have hg:Wp L p=Y0 L p:=funext fun a=>funext fun b=>(Iu (by rw[Zj2 hv,j,xM]) a b).symm;rw[if_pos rfl,hg];obtain⟨F,I⟩:=ZkE hc _ [] List.Pairwise.nil (fun a ha=>by cases ha) z;refine Zhb hc _ _ F.srt D fun x=>?_;rw[I,E,j,if_pos rfl];show (if ([]:List Zl)=[] then _ else _)=_;rw[if_pos rfl,C]
  have:∀ ls:List (List Zl),((ls.map (ZO L p)).flatten.filter (YP (Y0 L p) x)).take 1=(ls.flatten.filter (YP (Y0 L p) x)).take 1:=by
   intro ls
   induction ls with
   |nil=>rfl
   |cons l ls u =>
    rw[zG,zK,zK,zP,zP,(Zbc hv l).2.2,j,if_pos rfl]
    cases hl:l.filter (YP (Y0 L p) x) with
    |nil=>simpa using u
    |cons a r=>simp
  exact this ls
end
theorem I9 {lt:Zl->Zl->Bool}{f:Zl->Zl->Int}(u:∀ a c,lt a c=decide (0<f c a)):∀ (r:List (List Zl)) (i:Nat) (b:Option (Nat×Zl)),Tn lt r i b=XX f r i b:=by
 intro r
 induction r with
 |nil=>intro i b;rfl
 |cons x r z =>
  intro i b;rw[Tn,z]
  cases x with
  |nil=>rfl
  |cons a t =>
   cases b with
   |none=>rfl
   |some q =>
    obtain⟨j,c⟩:=q;rw[Io];show XX f r (i+1) (if lt a c=true then some (i,a) else some (j,c))=_;rw[u];simp only[decide_eq_true_eq]
theorem EL (ds:List Rd):WL (ds.map Rd.rest)=Y4 ds:=by
 induction ds with
 |nil=>rfl
 |cons d ds j=>rw[zG,WL,j,Y4]
theorem Zpi (P Q:List Rd)(x:Rd)(r:List Zl):((P++x::Q).map Rd.rest).set P.length ((((P++x::Q).map Rd.rest).getD P.length []).drop 1)=(P++{ x with rest:=x.rest.drop 1 }::Q).map Rd.rest:=by
 have h:(P++x::Q).map Rd.rest=P.map Rd.rest++x.rest::Q.map Rd.rest:=by simp
 rw[h,yB,zA (by simp)];simp
theorem NextD.merge {f:Zl->Zl->Int}{lt:Zl->Zl->Bool}(u:∀ a c,lt a c=decide (0<f c a)){same:Zl->Bool}{ds j:List Rd}{z:Option Zl}(h:NextD lt same ds z j):∀ n,Y4 ds<=n ->
 ∃ C m,V8 f n (ds.map Rd.rest)=C++(match z with|none=>[]|some a=>a::V8 f m (j.map Rd.rest))/\(∀ b∈C,same b=true)/\(∀ a,z=some a->same a=false)/\Y4 j<=m:=by
 induction h with
 |@done ds h =>
  intro n hn;rw[I9 u]at h;refine⟨[],n,?_,fun b hb=>(by cases hb),fun a e=>(by cases e),hn⟩
  cases n with
  |zero=>rfl
  |succ n=>rw[NK h];rfl
 |@skip P Q x a r z j hx h hs k K =>
  intro n hn;rw[I9 u]at h;rw[Vv,Y4,hx,zQ]at hn
  cases n with
  |zero=>omega
  |succ n =>
   obtain⟨C,m,D,E,F,I⟩:=K n (by rw[Vv,Y4];show Y4 P+(r.length+Y4 Q)<=n;omega);refine⟨a::C,m,?_,fun b hb=>?_,F,I⟩
   ·rw[Fo h,Zpi P Q x r,hx,xK,xH,D];rfl
   ·rcases zH.1 hb with e|e
    ·rw[e];exact hs
    ·exact E b e
 |@give P Q x a r hx h hs =>
  intro n hn;rw[I9 u]at h;rw[Vv,Y4,hx,zQ]at hn
  cases n with
  |zero=>omega
  |succ n =>
   refine⟨[],n,?_,fun b hb=>(by cases hb),fun b e=>(by injection e with e;rw[<-e];exact hs),by rw[Vv,Y4];show Y4 P+(r.length+Y4 Q)<=n;omega⟩;rw[Fo h,Zpi P Q x r,hx,xK,xH];rfl
def Bz (same:Zm->Bool->Zl->Bool):Zm->Bool->List Zl->List Zl
 |_,_,[]=>[]
 |last,has,a::l=>if same last has a=true then Bz same last has l else a::Bz same a true l
theorem ZiC {same:Zm->Bool->Zl->Bool}{last:Zm}{has:Bool}(r:List Zl):∀ j:List Zl,(∀ b∈j,same last has b=true)->Bz same last has (j++r)=Bz same last has r:=by
 intro j
 induction j with
 |nil=>intro _;rfl
 |cons b j u =>
  intro h;rw[zN,Bz,if_pos (h b (by simp))];exact u fun c hc=>h c (by simp[hc])
theorem ZiB {same:Zm->Bool->Zl->Bool}(h:∀ a b c,same a b c=false):∀ (l:List Zl) (last:Zm) (has:Bool),Bz same last has l=l:=by
 intro l
 induction l with
 |nil=>intro _ _;rfl
 |cons a l j=>intro last has;rw[Bz,if_neg (by rw[h];decide),j]
theorem Zr3 {L:Loc}{p:Spec}(hv:ZK p=0)(u:p.uniq=true):∀ (l out:List Zl) (last:Zm) (has:Bool),(has=false/\out=[]\/has=true/\out.getLast?=some last)->Un (Wp L p) out l=out++Bz (Ku L p) last has l:=by
 intro l
 induction l with
 |nil=>intro out last has _;rw[Bz,zM];rfl
 |cons a l j =>
  intro out last has h;rw[Un,Bz]
  have hs:Ks (Wp L p) out a=Ku L p last has a:=by
   unfold Ks Ku;rcases h with ⟨rfl,rfl⟩|⟨rfl,h⟩
   ·rfl
   ·rw[h,hv,u];rfl
  rw[hs]
  cases hsm:Ku L p last has a with
  |true=>rw[if_pos rfl,if_pos rfl];exact j out last has h
  |false =>
   rw[if_neg (by decide),if_neg (by decide),j (out++[a]) a true (.inr ⟨rfl,by simp⟩),zF];rfl
section
variable {L:Loc}{p:Spec}
theorem AllD.once {f:Zl->Zl->Int}(u:∀ a c,Q1 L p a c=decide (0<f c a)){last:Zm}{has:Bool}{ds j:List Rd}{out:List Zl}(h:AllD L p last has ds out j):∀ n,Y4 ds<=n->out=Bz (Ku L p) last has (V8 f n (ds.map Rd.rest)):=by
 induction h with
 |@done last has ds j h =>
  intro n hn;obtain⟨D,m,z,C,E,F⟩:=NextD.merge u h n hn;rw[z,ZiC _ D C];rfl
 |@more last has ds j I a out h k K =>
  intro n hn;obtain⟨D,m,z,C,E,F⟩:=NextD.merge u h n hn;rw[z,ZiC _ D C];show _=Bz (Ku L p) last has (a::V8 f m (j.map Rd.rest));rw[Bz,E a rfl,if_neg (by decide),<-K m F]
theorem Zyh:Cm (fun _ _:Zl=>(0:Int)):=by
 constructor <;> intros <;> first|rfl|simp|omega
def QI (L:Loc)(p:Spec)(ls:List (List Zl)):List Zl:=if (ZK p != 0)=true then ls.flatten else Ox L p ls
theorem AllD.merge {ds C:List Rd}{out:List Zl}(h:AllD L p [] false ds out C):out=QI L p (ds.map Rd.rest):=by
 unfold QI
 cases hc:ZK p != 0 with
 |true =>
  rw[if_pos rfl];have z:(ZK p==0)=false:=by simpa using hc
  have j:∀ a c,Q1 L p a c=decide (0<(fun _ _:Zl=>(0:Int)) c a):=fun a c=>by unfold Q1;rw[z];rfl
  have u:=h.once j (Y4 ds) (zD _);rw[ZiB (fun a b c=>by unfold Ku;rw[z,xI,yT,yT])]at u
  obtain⟨_,_,K⟩:=Zix Zyh (Y4 ds) (ds.map Rd.rest) (by rw[EL];exact zD _) (fun l _=>by
   unfold Rs;exact List.pairwise_of_forall (fun _ _=>xO _))
  have E:=K [];have e:YP (fun _ _:Zl=>(0:Int)) []=fun _=>true:=rfl;have F:∀ l:List Zl,l.filter (fun _=>true)=l:=fun l=>yJ.2 fun _ _=>rfl;rw[e,F,F]at E;rw[u,E]
 |false =>
  rw[if_neg (by decide)];have hv:ZK p=0:=by simpa using hc
  have D:=AA L p
  have j:∀ a c,Q1 L p a c=decide (0<Y0 L p c a):=fun a c=>by
   unfold Q1;rw[hv];have:=D.sym c a;show decide _=decide _;rw[decide_eq_decide];omega
  have u:=h.once j (Y4 ds) (zD _);unfold Ox;rw[EL]
  cases I:p.uniq with
  |false =>
   rw[if_neg (by decide),u];exact ZiB (fun a b c=>by unfold Ku;rw[I,xI,yT]) _ _ _
  |true =>
   rw[if_pos rfl,u,Zr3 hv I _ [] [] false (.inl ⟨rfl,rfl⟩)];rfl
theorem Zer (ls:List (List Zl)):QI L p (ls.map (ZO L p))=ZO L p ls.flatten:=by
 unfold QI
 cases hc:ZK p != 0 with
 |true =>
  have h:∀ l,ZO L p l=l:=fun l=>by unfold ZO;rw[hc,if_pos rfl]
  have j:ZO L p=id:=funext h;rw[if_pos rfl,j,List.map_id];rfl
 |false=>rw[if_neg (by decide)];exact ZoD (by simpa using hc) ls
end
theorem ZvD {l:List Fil}{n:Zm}(h:n∉l.map Fil.name):ZP l n=none:=by
 induction l with
 |nil=>rfl
 |cons f l j =>
  rw[zG,zH]at h;rw[ZP,if_neg fun e=>h (.inl e),j fun e=>h (.inr e)]
def R1:List Nat->List Zm->List (List Zl)->List Rd
 |r::rs,n::ns,l::ls=>⟨r,n,ZX l,l⟩::R1 rs ns ls
 |_,_,_=>[]
theorem ZtP:∀ (rs:List Nat) (ns:List Zm) (ls:List (List Zl)),rs.length=ns.length->ns.length=ls.length->(R1 rs ns ls).map Rd.r=rs/\(R1 rs ns ls).map Rd.rest=ls:=by
 intro rs
 induction rs with
 |nil =>
  intro ns ls j u
  cases ns with
  |nil =>
   cases ls with
   |nil=>exact⟨rfl,rfl⟩
   |cons l ls=>cases u
  |cons n ns=>cases j
 |cons r rs D =>
  intro ns ls j u
  cases ns with
  |nil=>cases j
  |cons n ns =>
   cases ls with
   |nil=>cases u
   |cons l ls =>
    obtain⟨z,C⟩:=D ns ls (by simpa using j) (by simpa using u);rw[R1,zG,zG,z,C];exact⟨rfl,rfl⟩
theorem Zh4:∀ (rs:List Nat) (ns:List Zm) (ls:List (List Zl)),∀ x∈R1 rs ns ls,∃ (i:Nat) (r:Nat) (n:Zm) (l:List Zl),rs[i]?=some r/\ns[i]?=some n/\ls[i]?=some l/\x=⟨r,n,ZX l,l⟩:=by
 intro rs
 induction rs with
 |nil=>intro ns ls x hx;simp[R1]at hx
 |cons r rs D =>
  intro ns ls x hx
  cases ns with
  |nil=>simp[R1]at hx
  |cons n ns =>
   cases ls with
   |nil=>simp[R1]at hx
   |cons l ls =>
    rw[R1]at hx;rcases zH.1 hx with e|h
    ·exact⟨0,r,n,l,rfl,rfl,rfl,e⟩
    ·obtain⟨i,I,F,E,j,u,z,C⟩:=D ns ls x h;exact⟨i+1,I,F,E,by simpa using j,by simpa using u,by simpa using z,C⟩
section
variable {o t:Nat}{tm:Tmp}{s:Sto}{A:List Nat}{a q:AV}{L:Loc}{p:Spec}(hm:TmpOk tm)(hk:StoOk s)(hc:s.crashed=false)(h0:s.count=0)
 (ha:LocAV a L) (hok:LocOk L) (hsm:LocSm L) (hq:SpecAV q p) (hks:∀ k∈p.keys,KeOk k) (hkl:p.keys.length<=1048576)
 {xn:AV} {ns:List Zm} {ls:List (List Zl)} (hx:SS xn ns) (hnl:ns.length=ls.length) (hn64:ns.length<=65536)
 (hfl:∀ (i:Nat) (n:Zm) (l:List Zl),ns[i]?=some n->ls[i]?=some l->YU l=true/\(ZX l).length<=262144/\((YI tm n=0/\∃ f,ZP s.files n=some f/\f.text=ZX l)\/(YI tm n=5/\l=[])))
 {m:Nat} (hmt:WL ls<=m) (hm64:m<=65536)
include hm hk hc h0 ha hok hsm hq hks hkl hx hnl hn64 hfl hmt hm64
end
def Qx:List Rd->Nat
 |[]=>0
 |d::r=>Yc d.rest+Qx r
theorem ZdE (A B:List Rd):Qx (A++B)=Qx A+Qx B:=by
 induction A with
 |nil=>simp[Qx]
 |cons x A j=>simp only[zN,Qx,j];omega
theorem ZhX:∀ ds:List Rd,Qx ds=Yc (ds.map Rd.rest).flatten:=by
 intro ds
 induction ds with
 |nil=>rfl
 |cons d ds j=>rw[Qx,j,zG,zK,HZ]
theorem NextD.cost {lt:Zl->Zl->Bool}{same:Zl->Bool}{ds j:List Rd}{z:Option Zl}(h:NextD lt same ds z j):Qx j<=Qx ds/\∀ a,z=some a->Qx j+Yc [a]<=Qx ds:=by
 induction h with
 |done h=>exact⟨zD _,fun a e=>by cases e⟩
 |skip hx h hs k E =>
  obtain⟨C,u⟩:=E;rw[ZdE,Qx]at C u ⊢;rw[hx,Yc];dsimp only at C u;exact⟨by omega,fun a e=>by have:=u a e;omega⟩
 |@give P Q x a r hx h hs =>
  have D:Yc x.rest=a.length+6+Yc r:=by rw[hx];rfl
  rw[ZdE,Qx,ZdE,Qx,D];dsimp only;exact⟨by omega,fun b e=>by injection e with e;subst e;simp only[Yc];omega⟩
theorem NextD.names {lt:Zl->Zl->Bool}{same:Zl->Bool}{ds j:List Rd}{z:Option Zl}(h:NextD lt same ds z j):j.map Rd.n=ds.map Rd.n:=by
 induction h with
 |done h=>rfl
 |skip hx h hs k u=>rw[u];simp
 |give hx h hs=>simp
theorem ZjE {fs:List Fil}{n m:Zm}{f:Fil}(j:f.name=n)(h:m≠n):ZP (fs++[f]) m=ZP fs m:=by
 induction fs with
 |nil =>
  show (if m=f.name then some f else ZP [] m)=ZP [] m;rw[if_neg (by rw[j];exact h)]
 |cons g fs u=>rw[zN,ZP,ZP,u]
def sF (fs:List Fil)(n x:Zm)(pk:Nat):Sto:=⟨262144,pk,fs++[⟨n,x,0⟩],false,0⟩
theorem ZjK {x1:AV}{ns:List Zm}(hx:SS x1 ns)(hl:ns.length<=65536)(o N:Nat)(y5 y6 Q:AV)(X:Hp):∀ (r d:List Zm) (O:AV) (rs:List Nat) (H:Hp),ns=d++r->rs.length=d.length->RowN N H 1 O (rs.map fun r=>yE r 0)->N<=H.length ->
 ∃ (H':Hp) (C:AV) (j:List Nat),Bx (.ptr o 0) y5 y6 Q O x1 (J xS (ns.length:Int)) (J xS (d.length:Int)) X H=Nq (.ptr o 0) y5 y6 Q C X H'/\RowN N H' 1 C ((rs++j).map fun r=>yE r 0)/\j.length=r.length/\(∀ a,a<N->H'[a]?=H[a]?)/\(∀ (a:Nat) (cs:List AV),H[a]?=some (.cells cs)->H'[a]?=some (.cells cs)) /\
  (∀ (i:Nat) (n:Zm),r[i]?=some n->∃ K,j[i]?=some K/\H'[K]?=some (.cells (J2 o n 0 false false [])))/\j.Nodup/\(∀ K∈j,H.length<=K)/\H.length<=H'.length:=by
 intro r
 induction r with
 |nil =>
  intro d O rs H hd I u hN;rw[zM]at hd;subst hd;have D:decide ((ns.length:Int)<(ns.length:Int))=false:=by simp
  refine⟨H,O,[],?_,by rw[zM];exact u,rfl,fun _ _=>rfl,fun _ _ h=>h,fun i n h=>by simp at h,by simp,by simp,zD _⟩;rw[LM];simp only[go_sem,D]
 |cons n r ih =>
  intro d O rs H hd I u hN;have U:ns.length=d.length+(r.length+1):=by rw[hd];simp
  have D:decide ((d.length:Int)<(ns.length:Int))=true:=by rw[decide_eq_true_eq];omega
  have W:xR.wrap ((d.length:Int)+1)=((d.length+1:Nat):Int):=by rw[Zp (by omega) (by omega)];omega
  have hin:ns[d.length]?=some n:=by rw[hd,zA (zD _)];simp
  have E:=SS.idx hx hin;have V:=ZjZ o n H;have F:(ZB 1 [(0,yE H.length 0)] [.nilp]).map (xD 1 .clip)=some (.vs 1 .clip [.ptr H.length 0]):=rfl;obtain⟨x',T,w1,w2,w3,w4,w5⟩:=(u.push [.cells (J2 o n 0 false false [])]).app (by simp;omega) 8 (.vs 1 .clip [.ptr H.length 0]) [.ptr H.length 0] rfl (by simp;omega);have M:∀ (a:Nat) (cs:List AV),(H++[zB (J2 o n 0 false false [])])[a]?=some (.cells cs)->T[a]?=some (.cells cs):=w5;have z:T[H.length]?=some (.cells (J2 o n 0 false false [])):=M _ _ (by simp);have aa:H.length<T.length:=Zg z;obtain⟨H3,C,j,Y,m2,m3,m4,Z,m6,m7,m8,m9⟩:=ih (d++[n]) x' (rs++[H.length]) T (by rw[hd];simp) (by simp[I]) (by rw[zS];exact w2) w3;rw[zI,zO]at Y;refine⟨H3,C,H.length::j,?_,by rw[show rs++H.length::j=rs++[H.length]++j by simp];exact m2,by simp[m3],fun a ha=>(m4 a ha).trans ((w4 a ha).trans (zJ (by omega))),fun a cs h=>Z a cs (M a cs (ZY h _)),fun i k hi=>?_,?_,fun K hr=>?_,by omega⟩
  ·rw[LM];simp only[go_sem,D,Zfy,E,Zz,V,F,w1,Zfz,W];exact Y
  ·cases i with
   |zero =>
    simp at hi;subst hi;exact⟨H.length,rfl,Z _ _ z⟩
   |succ i=>exact m6 i k (by simpa using hi)
  ·rw[zZ];exact⟨fun h=>by have:=m8 _ h;omega,m7⟩
  ·rcases zH.1 hr with e'|h
   ·omega
   ·have:=m8 _ h;omega
section
variable {o t g:Nat}{tm:Tmp}{fs:List Fil}{n:Zm}{L:Loc}{lx c e:AV}{p:Spec}{xp:AV}{rx:AV}{rs:List Nat}
 (hm:TmpOk tm) (hcl:tm.closed=false) (hn:n∈tm.names) (hns:n∉tm.sld) (hlim:tm.limit=262144) (hgn:ZP fs n=none)
 (hsto:∀ x pk,Zr fs+x.length<=262144->pk<=262144->StoOk (sF fs n x pk))
 (hl:LocAV (.agg (L.cells lx c e)) L) (hok:LocOk L) (hs:SpecAV (.agg (p.cells xp)) p) (hks:∀ k∈p.keys,KeOk k)
 (hrx:Sl 1 rx (rs.map fun r=>yE r 0)) (hnd:rs.Nodup) (hlen:rs.length<=1048576) (hgd:g∉rs)
include hm hcl hn hns hlim hgn hsto hl hok hs hks hrx hnd hlen hgd
end
abbrev Pr:=Zm×List Zl
def YG (P:List Pr):List Fil:=P.map fun x=>⟨x.1,ZX x.2,(ZX x.2).length⟩
def ZG:List Pr->Nat
 |[]=>0
 |x::P=>Yc x.2+ZG P
theorem Zk9 (P Q:List Pr):ZG (P++Q)=ZG P+ZG Q:=by
 induction P with
 |nil=>simp[ZG]
 |cons x P j=>simp only[zN,ZG,j];omega
theorem SE (p:Pr->Bool):∀ P:List Pr,ZG (P.filter p)<=ZG P:=by
 intro P
 induction P with
 |nil=>simp[ZG]
 |cons x P j =>
  rw[zU];split
  ·simp only[ZG];omega
  ·simp only[ZG];omega
theorem Zka {P:List Pr}{x:Pr}(h:x∈P):Yc x.2<=ZG P:=by
 induction P with
 |nil=>cases h
 |cons y P j =>
  simp only[ZG];rcases zH.1 h with rfl|h
  ·omega
  ·have:=j h;omega
theorem Kb (P:List Pr):(YG P).map Fil.name=P.map (·.1):=by simp[YG]
theorem Zvt (P Q:List Pr):YG (P++Q)=YG P++YG Q:=by simp[YG]
theorem JM (P:List Pr):Zr (YG P)=ZG P:=by
 induction P with
 |nil=>rfl
 |cons x P j=>show (ZX x.2).length+Zr (YG P)=_;rw[j,QU];rfl
theorem Zvu:∀ {P:List Pr},(P.map (·.1)).Nodup->∀ {x:Pr},x∈P->ZP (YG P) x.1=some ⟨x.1,ZX x.2,(ZX x.2).length⟩:=by
 intro P
 induction P with
 |nil=>intro _ x h;cases h
 |cons y P j =>
  intro hnd x h;rw[zG,zZ]at hnd;show (if x.1=y.1 then some _ else ZP (YG P) x.1)=_;rcases zH.1 h with rfl|h
  ·rw[if_pos rfl]
  ·rw[if_neg (fun e=>hnd.1 (by rw[<-e];exact yD h))];exact j hnd.2 h
theorem Zg0 {a b:List Fil}{n:Zm}(h:n∉a.map Fil.name):ZP (a++b) n=ZP b n:=by
 induction a with
 |nil=>rfl
 |cons f a j =>
  simp only[zG,zH,not_or]at h;show (if n=f.name then some f else ZP (a++b) n)=_;rw[if_neg h.1];exact j h.2
theorem Zb9 {a b:List Fil}{n:Zm}(h:n∉a.map Fil.name):VR (a++b) n=a++VR b n:=by
 induction a with
 |nil=>rfl
 |cons f a j =>
  simp only[zG,zH,not_or]at h;show (if n=f.name then a++b else f::VR (a++b) n)=_;rw[if_neg h.1,j h.2];rfl
theorem ZnD (nm:List Zm)(a b:List Fil):X7 nm (a++b)=X7 nm a+X7 nm b:=by
 induction a with
 |nil=>simp[X7]
 |cons f a j=>simp only[zN,X7,j];omega
theorem Zrx {nm:List Zm}{a:List Fil}(h:∀ f∈a,f.name∉nm):X7 nm a=0:=by
 induction a with
 |nil=>rfl
 |cons f a j=>simp only[X7,if_neg (h f (by simp)),j fun g hg=>h g (by simp[hg])]
theorem ZoU {nm:List Zm}{a:List Fil}(h:∀ f∈a,f.name∈nm):X7 nm a=Zr a:=by
 induction a with
 |nil=>rfl
 |cons f a j=>simp only[X7,Zr,if_pos (h f (by simp)),j fun g hg=>h g (by simp[hg])]
def XM (n:Zm)(P:List Pr):List Pr:=P.filter fun x=>!(x.1==n)
theorem Zi2 {n:Zm}:∀ {P:List Pr},n∉P.map (·.1)->XM n P=P:=by
 intro P h;unfold XM;rw[yJ];intro x hx;have:x.1≠n:=fun e=>h (by rw[<-e];exact yD hx);simp[this]
theorem Zwp {n:Zm}:∀ {P:List Pr},(P.map (·.1)).Nodup->VR (YG P) n=YG (XM n P):=by
 intro P
 induction P with
 |nil=>intro _;rfl
 |cons y P j =>
  intro hnd;rw[zG,zZ]at hnd;show (if n=y.1 then YG P else _::VR (YG P) n)=_;unfold XM;rw[zU];by_cases h:y.1=n
  ·subst h;rw[if_pos rfl,if_neg (by simp)];have:=Zi2 hnd.1;unfold XM at this;rw[this]
  ·rw[if_neg (fun e=>h e.symm),if_pos (by simp[h]),j hnd.2];rfl
theorem Zou (n:Zm)(P:List Pr):WE n (P.map (·.1))=(XM n P).map (·.1):=by
 unfold WE XM;rw[List.filter_map];rfl
structure BOk (B:List Fil):Prop where
 nd:(B.map Fil.name).Nodup
 nm:∀ f∈B,TS f.name=true
 syn:∀ f∈B,f.syn<=f.text.length
 len:B.length<=1
 used:Zr B<=1000
 ne:∀ f∈B,∀ i,f.name≠ZJ i
structure XS (B:List Fil)(tm:Tmp)(s:Sto)(P:List Pr)(k:Nat):Prop where
 tmE:tm.owner=Wu/\tm.names=P.map (·.1)/\tm.limit=262144/\tm.last=k/\tm.closed=false
 sldE:∀ x∈tm.sld,∃ i,1<=i/\i<=k/\x=ZJ i
 stE:s.limit=262144/\s.peak<=262144/\s.files=B++YG P/\s.crashed=false/\s.count=0
 nd:(P.map (·.1)).Nodup
 num:∀ x∈P,∃ i,1<=i/\i<=k/\x.1=ZJ i
 kle:k<=126
 many:P.length<=42
 nk:P.length<=k
 cost:ZG P<=100000
 fit:∀ x∈P,YU x.2=true
theorem ZjT {B fs:List Fil}(hB:BOk B)(nd:(fs.map Fil.name).Nodup)(num:∀ f∈fs,∃ i,1<=i/\i<=128/\f.name=ZJ i)(syn:∀ f∈fs,f.syn<=f.text.length)(len:fs.length<=60)(used:Zr B+Zr fs<=262144)
 {s:Sto} (C:s.limit=262144) (F:s.peak<=262144) (j:s.files=B++fs) (I:s.count=0):StoOk s:=by
 refine⟨by omega,?_,by omega,?_,?_,?_,?_,by omega⟩
 ·rw[j,XQ,C];exact used
 ·rw[j];intro f u;rcases zC.1 u with h|h
  ·exact hB.nm f h
  ·obtain⟨i,D,E,e⟩:=num f h;rw[e];exact ZkB ⟨D,E⟩
 ·rw[j,zS,yY];refine⟨hB.nd,nd,fun a ha b hb e=>?_⟩;obtain⟨f,u,rfl⟩:=zW.1 ha;obtain⟨g,hg,rfl⟩:=zW.1 hb;obtain⟨i,_,_,z⟩:=num g hg;exact hB.ne f u i (e.trans z)
 ·rw[j];intro f u;rcases zC.1 u with h|h
  ·exact hB.syn f h
  ·exact syn f h
 ·rw[j,zI];have:=hB.len;omega
section
variable {B:List Fil}{tm:Tmp}{s:Sto}{P:List Pr}{k:Nat}
theorem XS.tmOk (h:XS B tm s P k):TmpOk tm:=by
 obtain⟨j,u,C,z,D⟩:=h.tmE;refine⟨by rw[j];show 4<=16;omega,by omega,?_,by have:=h.kle;omega⟩;rw[u,z,zR];exact h.nk
theorem Zmw (h:XS B tm s P k):∀ f∈YG P,∃ i,1<=i/\i<=128/\f.name=ZJ i:=by
 intro f j;obtain⟨x,hx,rfl⟩:=zW.1 j;obtain⟨i,u,z,e⟩:=h.num x hx;have:=h.kle;exact⟨i,u,by omega,e⟩
theorem Zmx (P:List Pr):∀ f∈YG P,f.syn<=f.text.length:=by
 intro f j;obtain⟨x,hx,rfl⟩:=zW.1 j;exact zD _
theorem XS.stoOk (hB:BOk B)(h:XS B tm s P k):StoOk s:=by
 obtain⟨j,u,z,D,C⟩:=h.stE;refine ZjT hB (fs:=YG P) (by rw[Kb];exact h.nd) (Zmw h) (Zmx P) (by have:=h.many;simp[YG];omega) (by rw[JM];have:=h.cost;have:=hB.used;omega) j u z C
theorem XS.notB (hB:BOk B)(i:Nat):ZJ i∉B.map Fil.name:=fun hm=>by
 obtain⟨f,j,e⟩:=zW.1 hm;exact hB.ne f j i e
theorem XS.get (hB:BOk B)(h:XS B tm s P k){x:Pr}(hx:x∈P):ZP s.files x.1=some ⟨x.1,ZX x.2,(ZX x.2).length⟩:=by
 obtain⟨i,_,_,e⟩:=h.num x hx;rw[h.stE.2.2.1,Zg0 (by rw[e];exact XS.notB hB i)];exact Zvu h.nd hx
theorem XS.used (hB:BOk B)(h:XS B tm s P k):Ud tm s=ZG P:=by
 unfold Ud;rw[h.stE.2.2.1,h.tmE.2.1,ZnD,Zrx,ZoU,JM]
 ·omega
 ·intro f j;rw[<-Kb];exact yD j
 ·intro f j hm;obtain⟨x,hx,e⟩:=zW.1 hm;obtain⟨i,_,_,u⟩:=h.num x hx;exact hB.ne f j i (by rw[<-e,u])
theorem XS.fresh (h:XS B tm s P k):ZJ (k+1)∉P.map (·.1):=fun hm=>by
 obtain⟨x,hx,e⟩:=zW.1 hm;obtain⟨i,z,C,u⟩:=h.num x hx;have hk:=h.kle;have:=Zpe (i:=i) (j:=k+1) ⟨z,by omega⟩ ⟨by omega,by omega⟩ (by rw[<-u,e]);omega
theorem XS.unsld (h:XS B tm s P k):ZJ (k+1)∉tm.sld:=fun hm=>by
 obtain⟨i,z,C,u⟩:=h.sldE _ hm;have hk:=h.kle;have:=Zpe (i:=k+1) (j:=i) ⟨by omega,by omega⟩ ⟨z,by omega⟩ u;omega
theorem XS.out (hB:BOk B)(h:XS B tm s P k):ZP (B++YG P) (ZJ (k+1))=none:=by
 rw[Zg0 (XS.notB hB _)];exact ZvD (by rw[Kb];exact h.fresh)
theorem XS.find (h:XS B tm s P k){x:Pr}(hx:x∈P):YI tm x.1=0:=by
 unfold YI;rw[if_neg (by simp[h.tmE.2.2.2.2]),if_pos (by rw[h.tmE.2.1];exact yD hx)]
theorem XS.remove (h:XS B tm s P k)(hB:BOk B){x:Pr}(hx:x∈P){sl:List Zm}(z:∀ y∈sl,y∈tm.sld) :
 XS B { tm with names:=WE x.1 tm.names,sld:=sl } { s with files:=VR s.files x.1 } (XM x.1 P) k:=by
 obtain⟨i,_,_,e⟩:=h.num x hx;obtain⟨C,D,E,F,I⟩:=h.tmE;obtain⟨K,M,O,Q,T⟩:=h.stE;have j:(XM x.1 P).Sublist P:=List.filter_sublist;have u:∀ y∈XM x.1 P,y∈P:=fun y hy=>j.subset hy;refine⟨⟨C,?_,E,F,I⟩,fun y hy=>h.sldE y (z y hy),⟨K,M,?_,Q,T⟩,h.nd.sublist (j.map _),fun y hy=>h.num y (u y hy),h.kle,?_,?_,?_,fun y hy=>h.fit y (u y hy)⟩
 ·show WE x.1 tm.names=_;rw[D,Zou]
 ·show VR s.files x.1=_;rw[O,Zb9 (by rw[e];exact XS.notB hB i),Zwp h.nd]
 ·have:=j.length_le;have:=h.many;omega
 ·have:=j.length_le;have:=h.nk;omega
 ·have:=SE (fun y=>!(y.1==x.1)) P;have:=h.cost;unfold XM;omega
theorem XS.nd1 (h:XS B tm s P k)(l:List Zl):((P++[(ZJ (k+1),l)]).map (·.1)).Nodup:=by
 rw[zS,yY];refine⟨h.nd,by simp,fun a ha b hb e=>?_⟩;simp only[zG,yX,zE]at hb;subst hb;exact h.fresh (e ▸ ha)
theorem XS.stoX (h:XS B tm s P k)(hB:BOk B)(hm:P.length<42)(hk:k<126){x:Zm}{j pk:Nat}(F:j<=x.length)(hx:Zr (B++YG P)+x.length<=262144)(I:pk<=262144){s':Sto}
 (C:s'.limit=262144) (K:s'.peak=pk) (D:s'.files=B++YG P++[⟨ZJ (k+1),x,j⟩]) (E:s'.count=0):StoOk s':=by
 rw[XQ,JM]at hx;refine ZjT hB (fs:=YG P++[⟨ZJ (k+1),x,j⟩]) ?_ ?_ ?_ ?_ ?_ C (by omega) (by rw[D,zF]) E
 ·rw[zS,Kb];have:=h.nd1 [];rw[zS]at this;exact this
 ·intro f z;rcases zC.1 z with u|u
  ·exact Zmw h f u
  ·rw[zE.1 u];exact⟨k+1,by omega,by omega,rfl⟩
 ·intro f z;rcases zC.1 z with u|u
  ·exact Zmx P f u
  ·rw[zE.1 u];exact F
 ·simp[YG];omega
 ·rw[XQ,JM];show Zr B+(ZG P+(x.length+0))<=_;omega
theorem XS.add (h:XS B tm s P k){l:List Zl}(u:YU l=true)(hk:k<126)(hm:P.length<42)(hc:ZG P+Yc l<=100000){pk:Nat}(C:pk<=262144){z:Tmp}{s':Sto}
 (M:z={ tm with last:=tm.last+1,names:=tm.names++[ZJ (k+1)],sld:=ZgA tm.sld (ZJ (k+1)) }) (hs:s'=⟨262144,pk,B++YG P++[⟨ZJ (k+1),ZX l,(ZX l).length⟩],false,0⟩) :
 XS B z s' (P++[(ZJ (k+1),l)]) (k+1):=by
 subst M hs;obtain⟨E,F,I,Q,K⟩:=h.tmE;refine⟨⟨E,?_,I,?_,K⟩,?_,⟨rfl,C,?_,rfl,rfl⟩,h.nd1 l,fun x hx=>?_,by omega,by simp;omega,by have:=h.nk;simp;omega,by rw[Zk9];simp only[ZG];omega,fun x hx=>?_⟩
 ·show tm.names++[ZJ (k+1)]=_;rw[F];simp
 ·show tm.last+1=k+1;omega
 ·intro x hx;have hx:x∈ZgA tm.sld (ZJ (k+1)):=hx
  have:x∈tm.sld\/x=ZJ (k+1):=by
   unfold ZgA at hx;split at hx
   ·exact .inl hx
   ·rcases zC.1 hx with j|j
    ·exact .inl j
    ·exact .inr (zE.1 j)
  rcases this with j|j
  ·obtain⟨i,D,O,e⟩:=h.sldE x j;exact⟨i,D,by omega,e⟩
  ·exact⟨k+1,by omega,zD _,j⟩
 ·show B++YG P++[_]=_;rw[Zvt,zF];rfl
 ·rcases zC.1 hx with j|j
  ·obtain⟨i,D,O,e⟩:=h.num x j;exact⟨i,D,by omega,e⟩
  ·rw[zE.1 j];exact⟨k+1,by omega,zD _,rfl⟩
 ·rcases zC.1 hx with j|j
  ·exact h.fit x j
  ·rw[zE.1 j];exact u
theorem XS.tm1 (h:XS B tm s P k)(hk:k<126):TmpOk { tm with last:=tm.last+1,names:=tm.names++[ZJ (k+1)] }:=by
 obtain⟨j,u,C,z,D⟩:=h.tmE;refine⟨by show tm.owner.length<=16;rw[j];show 4<=16;omega,by show tm.limit<=_;omega,?_,by show tm.last+1<=_;omega⟩;show (tm.names++[ZJ (k+1)]).length<=tm.last+1;have:=h.nk;rw[u,zI,zR,z];simp;omega
end
theorem AllD.cost {L:Loc}{p:Spec}{last:Zm}{has:Bool}{ds j:List Rd}{out:List Zl}(h:AllD L p last has ds out j):Yc out<=Qx ds:=by
 induction h with
 |done h=>simp[Yc]
 |more h k C =>
  obtain⟨z,u⟩:=h.cost;have:=u _ rfl;simp only[Yc]at this ⊢;omega
theorem Ziw (f:Zl->Zl->Int):∀ (n:Nat) (rest:List (List Zl)),∀ s∈V8 f n rest,s∈rest.flatten:=by
 intro n
 induction n with
 |zero=>intro rest s hs;cases hs
 |succ n C =>
  intro rest s hs
  cases hg:XX f rest 0 none with
  |none=>rw[NK hg]at hs;cases hs
  |some p =>
   obtain⟨k,a⟩:=p;have hb:=ZvW f rest [] none (fun k a e=>(by cases e)) (fun _ l hl=>(by cases hl));rw[yO,yH]at hb;obtain⟨t,u⟩:=hb.1 k a hg;rw[Fo hg]at hs;have j:(rest.getD k []).drop 1=t:=by rw[yB,u];rfl
   rw[j]at hs;rcases zH.1 hs with e|hs
   ·exact zV.2 ⟨_,yG u,by simp[e]⟩
   ·obtain⟨l,hl,z⟩:=zV.1 (C _ s hs);rcases List.mem_or_eq_of_mem_set hl with h|h
    ·exact zV.2 ⟨l,h,z⟩
    ·subst h;exact zV.2 ⟨_,yG u,by simp[z]⟩
theorem Ziv {L:Loc}{p:Spec}{ls:List (List Zl)}:∀ s∈QI L p ls,s∈ls.flatten:=by
 intro s hs;unfold QI Ox at hs;split at hs
 ·exact hs
 ·split at hs
  ·rcases ZkD _ _ s hs with h|h
   ·cases h
   ·exact Ziw _ _ _ s h
  ·exact Ziw _ _ _ s hs
theorem ZhY (G:List Pr):Yc (G.map (·.2)).flatten=ZG G:=by
 induction G with
 |nil=>rfl
 |cons x G j=>rw[zG,zK,HZ,j];rfl
theorem Zqr {L:Loc}{p:Spec}{G:List Pr}(h:∀ x∈G,YU x.2=true):YU (QI L p (G.map (·.2)))=true:=by
 unfold YU;rw[yZ];intro s hs;obtain⟨l,hl,j⟩:=zV.1 (Ziv s hs);obtain⟨x,hx,rfl⟩:=zW.1 hl;exact yZ.1 (h x hx) s j
section
variable {o t:Nat}{A:List Nat}{a q:AV}{L:Loc}{p:Spec}(ha:LocAV a L)(hok:LocOk L)(hsm:LocSm L)(hq:SpecAV q p)(hks:∀ k∈p.keys,KeOk k)(hkl:p.keys.length<=1048576)
 {B:List Fil} (hB:BOk B) {tm:Tmp} {s:Sto} {P:List Pr} {k:Nat} (hX:XS B tm s P k) (hk:k<126) (hmn:P.length<42)
 {xn:AV} {G:List Pr} (hG:∀ x∈G,x∈P) (hG5:G.length<=64) (hx:SS xn (G.map (·.1))) (hcG:ZG P+ZG G<=100000)
include ha hok hsm hq hks hkl hB hX hk hmn hG hG5 hx hcG
end
theorem Zkb:∀ (l:List Zl),(∀ s∈l,s.length<=200)->Yc l<=l.length*206:=by
 intro l
 induction l with
 |nil=>intro _;exact zD _
 |cons s l u =>
  intro h;have z:=h s (by simp);have C:=u fun t j=>h t (by simp[j]);simp only[Yc,zQ];omega
theorem ZqO (f:Zl->Zl->Int):∀ (n:Nat) (rest:List (List Zl)),(V8 f n rest).length<=n:=by
 intro n
 induction n with
 |zero=>intro rest;exact zD _
 |succ n j =>
  intro rest
  cases hg:XX f rest 0 none with
  |none=>rw[NK hg];simp
  |some p =>
   obtain⟨k,a⟩:=p;rw[Fo hg];have:=j (rest.set k ((rest.getD k []).drop 1));rw[zQ];omega
theorem ZqP (L:Loc)(p:Spec)(ls:List (List Zl)):(QI L p ls).length<=WL ls:=by
 have h:=ZqO (Y0 L p) (WL ls) ls;have k:=ZkC (g:=Wp L p) (V8 (Y0 L p) (WL ls) ls) [];unfold QI Ox;split
 ·rw[ZiV];exact zD _
 ·split
  ·simp at k;omega
  ·exact h
def ZZ:List Pr->Nat
 |[]=>0
 |x::P=>x.2.length+ZZ P
theorem Kg (P Q:List Pr):ZZ (P++Q)=ZZ P+ZZ Q:=by
 induction P with
 |nil=>simp[ZZ]
 |cons x P j=>simp only[zN,ZZ,j];omega
theorem Zoy {P Q:List Pr}(h:P.Perm Q):ZZ P=ZZ Q:=by
 induction h with
 |nil=>rfl
 |cons x _ z=>simp only[ZZ,z]
 |swap x y l=>simp only[ZZ];omega
 |trans _ _ j u=>exact j.trans u
theorem Zei (G:List Pr):WL (G.map (·.2))=ZZ G:=by
 induction G with
 |nil=>rfl
 |cons x G j=>show x.2.length+WL (G.map (·.2))=_;rw[j];rfl
def ShortP (P:List Pr):Prop:=∀ x∈P,∀ s∈x.2,s.length<=200
theorem ShortP.cost {P:List Pr}(h:ShortP P):ZG P<=ZZ P*206:=by
 induction P with
 |nil=>simp[ZG]
 |cons x P j =>
  have u:=Zkb x.2 (h x (by simp));have z:=j fun y hy=>h y (by simp[hy]);simp only[ZG,ZZ,xA];omega
structure Stt where
 r:Int
 m:Int
 y:Int
 k:Int
def W4 (o:Nat)(L:Loc)(lx c e:AV)(p:Spec)(xp x:AV)(st:Stt):List AV :=
 .ptr o 0::(L.cells lx c e++(p.cells xp++[x,J xS st.r,J xS st.m,J xS st.y,J xS st.k]))
section
variable {o:Nat}{L:Loc}{lx c e:AV}{p:Spec}{xp x:AV}{st:Stt}
theorem EN:(W4 o L lx c e p xp x st).length=17:=rfl
theorem ZjS {H:Hp}{g:Nat}(h:H[g]?=some (.cells (W4 o L lx c e p xp x st))):Z3 true 6 (.ptr g 1) H=some (.agg (L.cells lx c e)):=by
 rw[Yv h];rfl
theorem Zha {H:Hp}{g:Nat}(h:H[g]?=some (.cells (W4 o L lx c e p xp x st))):Z3 true 5 (.ptr g 7) H=some (.agg (p.cells xp)):=by
 rw[Yv h];rfl
def SrAt (H:Hp)(g o:Nat)(A:List Nat)(L:Loc)(lx c e:AV)(p:Spec)(xp:AV)(R:List Pr)(st:Stt)(S:List Nat):Prop :=
 ∃ x,H[g]?=some (.cells (W4 o L lx c e p xp x st))/\NmAt H x (R.map (·.1))/\(∀ a∈g::ZI x,a∉A)/\(g::ZI x).Nodup/\S=g::ZI x
theorem NmAt.lt {H:Hp}{x:AV}{l:List Zm}(h:NmAt H x l):∀ a∈ZI x,a<H.length:=by
 intro a ha;rcases h with ⟨e,_⟩|⟨t,e,j,u⟩
 ·rw[e]at ha;cases ha
 ·rw[j]at ha;rw[zE.1 ha];exact Zg u
theorem SrAt.stp {H H':Hp}{g:Nat}{A A' S C:List Nat}{R:List Pr}(h:SrAt H g o A L lx c e p xp R st S)(hs:Stp C H H')(z:∀ a∈S,a∉C)(I:∀ a∈A',a∈A\/H.length<=a):SrAt H' g o A' L lx c e p xp R st S:=by
 obtain⟨x,u,j,D,E,rfl⟩:=h;refine⟨x,hs.get u (z g (by simp)),j.frame fun a ha=>hs.at' a (j.lt a ha) (z a (by simp[ha])),fun a ha F=>?_,E,rfl⟩
 have hl:a<H.length:=by
  rcases zH.1 ha with e|ha
  ·rw[e];exact Zg u
  ·exact j.lt a ha
 rcases I a F with k|k
 ·exact D a ha k
 ·omega
theorem SrAt.off {H:Hp}{g:Nat}{A S:List Nat}{R:List Pr}(h:SrAt H g o A L lx c e p xp R st S):∀ a∈S,a∉A:=by
 obtain⟨x,_,_,j,_,rfl⟩:=h;exact j
theorem SrAt.lt {H:Hp}{g:Nat}{A S:List Nat}{R:List Pr}(h:SrAt H g o A L lx c e p xp R st S):∀ a∈S,a<H.length:=by
 obtain⟨x,j,u,_,_,rfl⟩:=h;intro a ha;rcases zH.1 ha with e|ha
 ·rw[e];exact Zg j
 ·exact u.lt a ha
end
theorem Zq6 {x:AV}{l:List Zl}(hx:SS x l)(z:We l)(hl:l.length<=1048576)(C H:Hp):∀ (r d:List Zl),l=d++r ->
 Gw (J xS (W5 cS d)) x (J xS (l.length:Int)) (J xS (d.length:Int)) C H=some (J xS (W5 cS l),H):=by
 intro r
 induction r with
 |nil =>
  intro d hd;rw[zM]at hd;subst hd;have j:decide ((l.length:Int)<(l.length:Int))=false:=by simp
  rw[Mb];simp only[go_sem,j,ZdU]
 |cons s r E =>
  intro d hd;have hlen:l.length=d.length+(r.length+1):=by rw[hd];simp
  have j:decide ((d.length:Int)<(l.length:Int))=true:=by rw[decide_eq_true_eq];omega
  have hin:l[d.length]?=some s:=by rw[hd,zA (zD _)];simp
  have u:=SS.idx hx hin;have hs:s.length<=1048576:=z s (yG hin);have hb:=ZfW d fun y hy=>z y (by rw[hd];simp[hy]);have D:(d.length:Int)*1048592<=1048576*1048592:=Int.mul_le_mul_of_nonneg_right (by omega) (by omega);have F:xR.wrap ((s.length:Int)+16)=(s.length:Int)+16:=Zp (by omega) (by omega);have I:xR.wrap (W5 cS d+((s.length:Int)+16))=W5 cS (d++[s]):=by rw[Zp (by omega) (by omega),ZdF];rfl
  have K:xR.wrap ((d.length:Int)+1)=((d++[s]).length:Int):=by rw[Zp (by omega) (by omega)];simp
  rw[Mb];simp only[go_sem,j,ZdV,u,Zz,F,I,ZdW,K];exact E (d++[s]) (by rw[hd];simp)
theorem Zq5 {x:AV}{l:List Zl}(hx:SS x l)(z:We l)(hl:l.length<=1048576)(H:Hp):Zh PQ [x] H=some (J xS (W5 cS l),H):=by
 obtain⟨C,u,j⟩:=SS.closed hx [] 0 7;refine U2 (args':=[C]) (H1:=[]) (by rw[yK,u];rfl) ?_ rfl;rw[Zf2];unfold IL;have hn:=SS.len j 9;simp only[go_sem,hn];exact Zq6 j z hl [] [] l [] rfl
section
variable {o g t:Nat}{L:Loc}{lx c e:AV}{p:Spec}{xp:AV}{B:List Fil}{tm:Tmp}{s:Sto}{P R:List Pr}{k:Nat}{A S:List Nat}{st:Stt}{H:Hp}
end
def Ri (L:Loc)(p:Spec)(k:Nat)(c:List Zl):Pr:=(ZJ (k+1),ZO L p c)
def wP (L:Loc)(p:Spec):List Pr->Nat->List (List Zl)->List Pr
 |P,_,[]=>P
 |P,k,c::r=>wP L p (P++[Ri L p k c]) (k+1) r
def wT (L:Loc)(p:Spec):List Pr->Nat->Stt->List (List Zl)->Stt
 |_,_,st,[]=>st
 |P,k,st,c::r=>wT L p (P++[Ri L p k c]) (k+1) ⟨st.r+1,st.m,max st.y (W5 cS c),max st.k (ZG (P++[Ri L p k c]):Int)⟩ r
theorem Zz9 (L:Loc)(p:Spec):∀ (r:List (List Zl)) (P:List Pr) (k:Nat),(wP L p P k r).length=P.length+r.length:=by
 intro r
 induction r with
 |nil=>intro P k;simp[wP]
 |cons c r j=>intro P k;simp only[wP,j];simp;omega
theorem Zza (L:Loc)(p:Spec):∀ (r:List (List Zl)) (P:List Pr) (k:Nat),(wP L p P k r).map (·.2)=P.map (·.2)++r.map (ZO L p):=by
 intro r
 induction r with
 |nil=>intro P k;simp[wP]
 |cons c r j=>intro P k;simp only[wP,j];simp[Ri]
theorem ZrF {L:Loc}{p:Spec}{k:Nat}{c:List Zl}(h:∀ s∈c,s.length<=200):∀ s∈(Ri L p k c).2,s.length<=200:=fun s hs=>h s (AC L p c s hs)
section
variable {o g t:Nat}{L:Loc}{lx cl e:AV}{p:Spec}{xp:AV}{B:List Fil}(hB:BOk B)
 (hl:LocAV (.agg (L.cells lx cl e)) L) (hok:LocOk L) (hs:SpecAV (.agg (p.cells xp)) p) (hks:∀ k∈p.keys,KeOk k)
 {x13:AV} {cs:List (List Zl)} (hx:LsV x13 cs) (hcl:cs.length<=40) (hcs:∀ c∈cs,c.length<=40/\∀ s∈c,s.length<=200)
include hB hl hok hs hks hx hcl hcs
end
def Of:List Pr->List Pr->List Pr
 |[],P=>P
 |x::G,P=>Of G (XM x.1 P)
theorem Zsw {n:Zm}{P:List Pr}{x:Pr}:x∈XM n P↔x∈P/\x.1≠n:=by
 unfold XM;rw[xF];simp
theorem Zq9 {x:Pr}{Q:List Pr}(h:((x::Q).map (·.1)).Nodup):XM x.1 (x::Q)=Q:=by
 rw[zG,zZ]at h;unfold XM;rw[zU,if_neg (by simp)];exact Zi2 h.1
theorem Zoc:∀ (G P Q:List Pr),(P.map (·.1)).Nodup->P.Perm (G++Q)->(Of G P).Perm Q:=by
 intro G
 induction G with
 |nil=>intro P Q _ h;exact h
 |cons x G z =>
  intro P Q hnd h;refine z _ Q (hnd.sublist (List.filter_sublist.map _)) ?_;have j:(XM x.1 P).Perm (XM x.1 (x::(G++Q))):=h.filter _;have u:XM x.1 (x::(G++Q))=G++Q:=Zq9 ((h.map (·.1)).nodup_iff.1 hnd);rw[u]at j;exact j
def gM (L:Loc)(p:Spec)(k:Nat)(G:List Pr):Pr:=(ZJ (k+1),QI L p (G.map (·.2)))
def gN (L:Loc)(p:Spec)(k:Nat)(G:List Pr):Pr:=match G with
 |[x]=>x
 |G=>gM L p k G
def gP (L:Loc)(p:Spec)(k:Nat)(G P:List Pr):List Pr:=match G with
 |[_]=>P
 |G=>Of G (P++[gM L p k G])
def gK (k:Nat)(G:List Pr):Nat:=match G with
 |[_]=>k
 |_=>k+1
def gT (L:Loc)(p:Spec)(k:Nat)(G P:List Pr)(st:Stt):Stt:=match G with
 |[_]=>st
 |G=>⟨st.r,st.m+1,st.y,max st.k (ZG (P++[gM L p k G]):Int)⟩
section
variable {o g t:Nat}{L:Loc}{lx cl e:AV}{p:Spec}{xp:AV}{B:List Fil}(hB:BOk B)
include hB
variable (hl:LocAV (.agg (L.cells lx cl e)) L)(hok:LocOk L)(hsm:LocSm L)(hs:SpecAV (.agg (p.cells xp)) p)(hks:∀ k∈p.keys,KeOk k)(hkl:p.keys.length<=1048576)
include hl hok hsm hs hks hkl
end
abbrev iv (n:Nat):AV:=J xS (n:Int)
abbrev IS (x:AV)(l:List Nat):Prop:=Sl 1 x (l.map iv)
def ApI (H:Hp)(a:AV)(l:List Nat):Prop:=a=.nils/\l=[]\/∃ t e,a=.vs 1 (.own t e) (l.map iv)/\H[t]?=some (.tok e)
theorem ApI.is {H:Hp}{a:AV}{l:List Nat}(h:ApI H a l):IS a l:=by
 rcases h with ⟨rfl,rfl⟩|⟨t,e,rfl,_⟩
 ·exact .inl ⟨rfl,rfl⟩
 ·exact .inr ⟨_,rfl⟩
theorem IS.cell {x:AV}{l:List Nat}(h:IS x l):x.cells=[x]/\x.known=true:=by
 rcases h with ⟨rfl,_⟩|⟨t,rfl⟩ <;> exact⟨rfl,rfl⟩
theorem IS.len {x:AV}{l:List Nat}(h:IS x l)(e:Nat):Zk (.slice e) x=some (J xS (l.length:Int)):=by
 rcases h with ⟨rfl,h⟩|⟨t,rfl⟩
 ·have:l=[]:=by simpa using h
  subst this;rfl
 ·simp[Zk]
theorem ApI.app {H:Hp}{a:AV}{l:List Nat}(h:ApI H a l)(n:Nat)(hl:l.length<=1048576) :
 ∃ (a':AV) (H':Hp),Y9 1 8 a (.vs 1 .clip [iv n]) H=some (a',H')/\ApI H' a' (l++[n])/\∀ (o e:Nat) (C:List AV),H[o]?=some (yA e C)->H'[o]?=some (yA e C):=by
 unfold Y9;have D:Go.Am.elems 1 (.vs 1 .clip [iv n]) H=some [iv n]:=rfl;rw[D];have j:Xg ((l.map iv).length+[iv n].length) 8=true:=by simp[Xg];omega
 have z:Xg [iv n].length 8=true:=rfl;rcases h with ⟨rfl,rfl⟩|⟨t,e,rfl,E⟩
 ·refine⟨.vs 1 (.own H.length 1) [iv n],H++[.tok 1],?_,.inr ⟨H.length,1,rfl,by simp⟩,fun o F C u=>ZY u _⟩;simp only[YN,z,if_true];rw[if_neg (by simp)];rfl
 ·refine⟨.vs 1 (.own t (e+1)) (l.map iv++[iv n]),H.set t (.tok (e+1)),?_,.inr ⟨t,e+1,by simp,Zq _ E⟩,fun o F C u=>?_⟩
  ·simp only[YN,j,and_self,if_true,E];rw[if_neg (by simp)];rfl
  ·refine Yd _ (fun D=>?_) u;subst D;rw[E]at u;cases u
structure EI (es:List AV)(ls:List (List Nat)):Prop where
 len:es.length=ls.length
 at':∀ (i:Nat) (l:List Nat),ls[i]?=some l->∃ e,es[i]?=some e/\IS e l
theorem EI.nil:EI [] []:=⟨rfl,fun i l h=>by simp at h⟩
theorem EI.app {z:List AV}{ls:List (List Nat)}(h:EI z ls){e:AV}{l:List Nat}(D:IS e l):EI (z++[e]) (ls++[l]):=by
 refine⟨by simp[h.len],fun j m hm=>?_⟩;by_cases C:j<ls.length
 ·rw[zJ C]at hm;rw[zJ (by rw[h.len];exact C)];exact h.at' j m hm
 ·have u:=(zY.1 hm).1;have:j=ls.length:=by simp at u;omega
  subst this;rw[zA (zD _)]at hm;simp at hm;subst hm;exact⟨e,by rw[zA (by rw[h.len];exact zD _),h.len];simp,D⟩
theorem EI.tail {e:AV}{u:List AV}{l:List Nat}{ls:List (List Nat)}(h:EI (e::u) (l::ls)):IS e l/\EI u ls:=by
 obtain⟨j,z,C⟩:=h.at' 0 l rfl;obtain rfl:e=j:=Option.some.inj z
 exact⟨C,by have:=h.len;simpa using this,fun i m hm=>by
  obtain⟨j,D,E⟩:=h.at' (i+1) m (by simpa using hm);exact⟨j,by simpa using D,E⟩⟩
theorem EI.cons {e:AV}{j:List AV}{l:List Nat}{ls:List (List Nat)}(h:IS e l)(k:EI j ls):EI (e::j) (l::ls) :=
 ⟨by simp[k.len],fun i m hm=>by
  cases i with
  |zero=>simp at hm;subst hm;exact⟨e,rfl,h⟩
  |succ i=>simpa using k.at' i m (by simpa using hm)⟩
theorem Zti (H:Hp)(n f:Nat):∀ l:List Nat,(l.map iv).mapM (Ze H n (f+1))=some (l.map iv):=by
 intro l
 induction l with
 |nil=>rfl
 |cons a l j=>rw[zG,yK,j];rfl
theorem IS.close {x:AV}{l:List Nat}(h:IS x l)(H:Hp)(n f:Nat):∃ j,Ze H n (f+2) x=some j/\IS j l:=by
 rcases h with ⟨rfl,h⟩|⟨t,rfl⟩
 ·exact⟨.nils,rfl,.inl ⟨rfl,h⟩⟩
 ·exact⟨_,by rw[Ed,Zti],.inr ⟨_,rfl⟩⟩
theorem EI.close {u:List AV}{ls:List (List Nat)}(h:EI u ls)(H:Hp)(n f:Nat):∃ j,u.mapM (Ze H n (f+2))=some j/\EI j ls:=by
 induction u generalizing ls with
 |nil =>
  have:ls=[]:=yM.1 (by rw[<-h.len];rfl);subst this;exact⟨[],rfl,EI.nil⟩
 |cons e u E =>
  cases ls with
  |nil=>have:=h.len;simp at this
  |cons l ls =>
   obtain⟨C,D⟩:=h.tail;obtain⟨z,F,I⟩:=IS.close C H n f;obtain⟨j,K,M⟩:=E D;exact⟨z::j,by rw[yK,F];simp[K],EI.cons I M⟩
def IV (x:AV)(ls:List (List Nat)):Prop:=x=.nils/\ls=[]\/∃ t j,x=.vs 1 t j/\EI j ls
theorem IV.len {x:AV}{ls:List (List Nat)}(h:IV x ls)(e:Nat):Zk (.slice e) x=some (J xS (ls.length:Int)):=by
 rcases h with ⟨rfl,rfl⟩|⟨t,j,rfl,u⟩
 ·rfl
 ·show some (AV.int .i64 (j.length:Int))=_;rw[u.len]
theorem IV.get {x:AV}{ls:List (List Nat)}(h:IV x ls){i:Nat}{l:List Nat}(hi:ls[i]?=some l):∃ a,Zo 1 x (J xS (i:Int))=some (.vp [a])/\IS a l:=by
 rcases h with ⟨rfl,rfl⟩|⟨t,C,rfl,z⟩
 ·simp at hi
 ·obtain⟨a,u,j⟩:=z.at' i l hi;refine⟨a,?_,j⟩;unfold Zo;dsimp only;rw[if_pos ⟨rfl,by omega⟩,Int.toNat_natCast,u];dsimp only;rw[j.cell.1]
theorem IS.idx {x:AV}{l:List Nat}(h:IS x l){i n:Nat}(hi:l[i]?=some n):Zo 1 x (J xS (i:Int))=some (.vp [iv n]):=Sl.idx h (c:=iv n) (by simp[hi])
def RowI (H:Hp)(x:AV)(A:List (List Nat))(k:List Nat):Prop:=∃ o e j a,x=.ws false 1 o e (A.length+1)/\H[o]?=some (.row e (j++[a]))/\EI j A/\ApI H a k
def RowA (H:Hp)(x:AV)(ls:List (List Nat)):Prop:=x=.nils/\ls=[]\/∃ o e j,x=.ws false 1 o e ls.length/\H[o]?=some (.row e j)/\EI j ls
theorem RowI.all {H:Hp}{x:AV}{A:List (List Nat)}{k:List Nat}(h:RowI H x A k):RowA H x (A++[k]):=by
 obtain⟨o,e,j,a,rfl,u,z,C⟩:=h;exact .inr ⟨o,e,j++[a],by simp,u,z.app C.is⟩
theorem RowA.close {H:Hp}{x:AV}{ls:List (List Nat)}(h:RowA H x ls):∃ C,Ze H 0 9 x=some C/\IV C ls:=by
 rcases h with ⟨rfl,rfl⟩|⟨o,e,D,rfl,E,u⟩
 ·exact⟨.nils,rfl,.inl ⟨rfl,rfl⟩⟩
 ·obtain⟨j,F,I⟩:=u.close H 0 6
  have z:Go.Am.elems 1 (.ws false 1 o e ls.length) H=some D:=by
   unfold Go.Am.elems;dsimp only;rw[if_pos ⟨rfl,.inr rfl⟩,E];dsimp only;rw[if_pos ⟨rfl,by rw[u.len];omega⟩,<-u.len,ZfV]
  exact⟨.vs 1 .no j,by rw[ZhW,if_neg (Nat.not_lt_zero _),z];dsimp only;rw[F],.inr ⟨_,j,rfl,I⟩⟩
theorem RowA.app {H:Hp}{x:AV}{ls:List (List Nat)}(h:RowA H x ls){a:AV}{k:List Nat}(ha:ApI H a k)(hl:ls.length<=1048576) :
 ∃ K H',GV false 1 24 x (.vs 1 .clip [a]) H=some (K,H')/\RowI H' K ls k:=by
 unfold GV;have D:Go.Am.elems 1 (.vs 1 .clip [a]) H=some [a]:=rfl;rw[D];dsimp only;have E:Xg 1 24=true:=rfl;have z:Xg (ls.length+1) 24=true:=by simp[Xg];omega
 rcases h with ⟨rfl,rfl⟩|⟨o,e,I,rfl,F,j⟩
 ·refine⟨.ws false 1 H.length 0 1,H++[.row 0 [a]],?_,H.length,0,[],a,rfl,by simp,EI.nil,?_⟩
  ·unfold FM;simp only[zO,E,if_true,zG,yX,zK,xB,ha.is.cell.1,zM];rw[if_neg (by simp)]
  ·exact ha.imp id fun⟨t,e,C,u⟩=>⟨t,e,C,ZY u _⟩
 ·refine⟨.ws false 1 o (e+1) (ls.length+1),H.set o (.row (e+1) (I++[a])),?_,o,e+1,I,a,rfl,Zq _ F,j,?_⟩
  ·unfold FM;simp only[zO,z,and_self,if_true,F,j.len,Nat.mul_one,zD,Zju,List.take_of_length_le (Nat.le_of_eq j.len),zG,yX,zK,xB,ha.is.cell.1,zM];rw[if_neg (by simp)]
  ·refine ha.imp id fun⟨t,M,C,u⟩=>⟨t,M,C,Yd _ (fun D=>?_) u⟩;subst D;rw[F]at u;cases u
theorem ZyW (n:Nat):(ZB 1 [(0,iv n)] [AV.int .i64 0]).map (xD 1 .clip)=some (.vs 1 .clip [iv n]):=rfl
theorem Zzo {i w:Nat}(hw:0<w):Z5 .rem (iv i) (iv w)=some (iv (i % w)):=by
 unfold Z5 XB;simp only[if_true,XF];rw[if_neg (by omega)];congr 2
section
variable {w:Nat}(hw:0<w)(hw2:w<=32)
include hw hw2
theorem Zm7 (i:Nat):cnt w i<=i:=by
 by_cases h0:i=0
 ·rw[h0,Zm8 hw];exact zD _
 ·have h:=Nat.pos_of_ne_zero h0;by_cases hc:cnt w i=0
  ·omega
  ·have j:=ZdD (w:=w) (i:=i) (q:=cnt w i-1) hw (by omega);have:cnt w i-1<=(cnt w i-1)*w:=Nat.le_mul_of_pos_right _ hw;omega
theorem ZtF {n:Nat}(hn:n<=5000)(H0:Hp):∀ (k i:Nat) (F:AV) (H:Hp),n-i=k->i<=n->(i % w=0/\RowA H F (U4 w i)\/∃ A g,U4 w i=A++[g]/\RowI H F A g) ->
 ∃ y H',FT (iv w) F (iv n) (iv i) H0 H=some (y,H')/\RowA H' y (U4 w n):=by
 intro k
 induction k with
 |zero =>
  intro i F H hk hi j;have:i=n:=by omega
  subst this;have C:decide ((i:Int)<(i:Int))=false:=by simp
  rw[C5];simp only[go_sem,C,ZgX];refine⟨_,_,rfl,?_⟩;rcases j with ⟨_,j⟩|⟨A,g,u,j⟩
  ·exact j
  ·rw[u];exact j.all
 |succ k ih =>
  intro i F H hk hi j;have C:decide ((i:Int)<(n:Int))=true:=by rw[decide_eq_true_eq];omega
  have ac:xR.wrap ((i:Int)+1)=((i+1:Nat):Int):=by rw[Zp (by omega) (by omega)];omega
  -- the last group grows
  have grow:∀ (A:List (List Nat)) (g:List Nat) (x:AV) (H:Hp),RowI H x A g->A.length<=5000->g.length<=5000->U4 w (i+1)=A++[g++[i]] ->
   ∃ y H',FS (iv w) x (iv i) (iv n) (iv i) H0 H=some (y,H')/\RowA H' y (U4 w n):=by
   intro A g x H hR hA hg u;obtain⟨o,e,I,a,rfl,k2,V,k4⟩:=hR;have W:Zk (.slice 38) (.ws false 1 o e (A.length+1))=some (J xS ((A.length+1:Nat):Int)):=rfl;have ad:xR.wrap (((A.length+1:Nat):Int)-1)=(A.length:Int):=by rw[Zp (by omega) (by omega)];omega
   have Y:Zo 1 (.ws false 1 o e (A.length+1)) (J xS (A.length:Int))=some (.wp o e (A.length*1)):=ZnG (by omega);have Z:Z3 false 1 (.wp o e (A.length*1)) H=some a:=Zpo k2 (by rw[<-V.len,zA (zD _)];simp);obtain⟨a',H1,p1,p2,p3⟩:=k4.app i (by omega);have E:=p3 o e _ k2;have hsto:=ZwP (a:=a') E p2.is.cell (i:=A.length) (by simp[V.len]);have O:(I++[a]).set A.length a'=I++[a']:=by rw[<-V.len];simp
   rw[O]at hsto
   have X:ApI (H1.set o (.row e (I++[a']))) a' (g++[i]):=by
    refine p2.imp id fun⟨t,e',q1,U⟩=>⟨t,e',q1,Yd _ (fun he=>?_) U⟩;subst he;rw[E]at U;cases U
   obtain⟨y,H',Q,T⟩:=ih (i+1) (.ws false 1 o e (A.length+1)) (H1.set o (.row e (I++[a']))) (by omega) (by omega) (.inr ⟨A,g++[i],u,o,e,I,a',rfl,Zq _ E,V,X⟩);refine⟨y,H',?_,T⟩;rw[Zh0];simp only[W,go_sem,ad,Y,Z,ZyW,p1,hsto,ZgZ,ac];exact Q
  rw[C5];simp only[go_sem,C,ZgY,Zzo hw];by_cases h0:i % w=0
  ·have hb:(((i % w:Nat):Int)==0)=true:=by rw[h0];rfl
   have ab:RowA H F (U4 w i):=by
    rcases j with ⟨_,j⟩|⟨A,g,u,j⟩
    ·exact j
    ·rw[u];exact j.all
   have hcl:=Zm7 hw hw2 i;have D:(U4 w i).length<=5000:=by rw[Zh3];omega
   obtain⟨x',H1,q1,U⟩:=ab.app (a:=.nils) (k:=[]) (.inl ⟨rfl,rfl⟩) (by omega);have K:(ZB 1 [(0,xJ)] [xJ]).map (xD 1 .clip)=some (.vs 1 .clip [.nils]):=rfl;obtain⟨y,H',Q,T⟩:=grow (U4 w i) [] x' H1 U D (by simp) (Zwe hw h0);refine⟨y,H',?_,T⟩;simp only[hb,go_sem,K,q1];exact Q
  ·have hb:(((i % w:Nat):Int)==0)=false:=by simp;omega
   obtain⟨A,g,u,aa,hg⟩:=Zwf hw h0;have D:(U4 w i).length<=i:=by rw[Zh3];exact Zm7 hw hw2 i
   rcases j with ⟨h1,_⟩|⟨A',g',M,j⟩
   ·exact absurd h1 h0
   ·rw[u]at M;have hlast:=List.append_inj' M rfl;obtain⟨rfl,z⟩:=hlast;injection z with z _;subst z;rw[u,zI]at D;obtain⟨y,H',Q,T⟩:=grow A g F H j (by omega) (by omega) aa;refine⟨y,H',?_,T⟩;simp only[hb,go_sem];exact Q
end
def AM (j:Int):Nat:=(min (max j 2) 32).toNat
theorem ZwO (j:Int):0<AM j/\AM j<=32/\((AM j:Nat):Int)=min (max j 2) 32:=by unfold AM;omega
theorem ZtE (n j:Int)(hn:n<=5000)(H:Hp):∃ y,Zh EU [J xS n,J xS j] H=some (y,H)/\IV y (U4 (AM j) n.toNat):=by
 obtain⟨C,K,M⟩:=ZwO j;have z:U4 (AM j) 0=[]:=by unfold U4;rw[Zm8 C];rfl
 obtain⟨y,H',F,I⟩:=ZtF C K (n:=n.toNat) (by omega) [] n.toNat 0 .nils [] (by omega) (by omega) (.inl ⟨by simp,.inl ⟨rfl,z⟩⟩);obtain⟨O,D,E⟩:=I.close;refine⟨O,?_,E⟩;refine Na (args':=[J xS n,J xS j]) (H1:=H') (v:=y) rfl ?_ D;rw[Zhl];unfold ZcU;have u:max n 0=((n.toNat:Nat):Int):=by omega
 simp only[go_sem,<-M,u];exact F
section
variable {w:Nat}(hw:0<w)(hw2:w<=32)
include hw hw2
end
section
variable {x y:AV}{ls:List (List Nat)}(hx:IV x ls)(hy:IV y ls)(hl:ls.length<=1048576)(hin:∀ k∈ls,k.length<=1048576)
include hx hy hl hin
end
section
variable {w n:Nat}(hw:0<w)(hw2:w<=32)(hn:n<=5000){x:AV}(hx:IV x (U4 w n)){a0:AV}
include hw hw2 hn hx
end
structure PSt where
 O:List Pr
 P:List Pr
 k:Nat
 st:Stt
def X2 (w:Nat)(R:List Pr)(q:Nat):List Pr:=(R.drop (q*w)).take w
def Zlx (L:Loc)(p:Spec)(G:List Pr)(a:PSt):PSt:=⟨a.O++[gN L p a.k G],gP L p a.k G a.P,gK a.k G,gT L p a.k G a.P a.st⟩
def YM (L:Loc)(p:Spec)(w:Nat)(R:List Pr):Nat->PSt->PSt
 |0,a=>a
 |q+1,a=>Zlx L p (X2 w R q) (YM L p w R q a)
structure PInv (w:Nat)(R:List Pr)(k0:Nat)(st0:Stt)(q:Nat)(a:PSt):Prop where
 perm:a.P.Perm (a.O++R.drop (q*w))
 kle:a.k<=k0+q
 len:a.O.length=q
 lines:ZZ a.O<=ZZ (R.take (q*w))
 short:ShortP a.O
 m:st0.m<=a.st.m/\a.st.m<=st0.m+q
 ry:a.st.r=st0.r/\a.st.y=st0.y
theorem Zmh (w:Nat)(R:List Pr)(q:Nat):R.drop (q*w)=X2 w R q++R.drop ((q+1)*w):=by
 unfold X2;rw[xA,xP,<-List.drop_drop,List.take_append_drop]
theorem ZwD (w:Nat)(R:List Pr)(q:Nat):R.take ((q+1)*w)=R.take (q*w)++X2 w R q:=by
 unfold X2;rw[xA,xP,List.take_add]
theorem ZjF {w q:Nat}{R:List Pr}(hw:2<=w)(h:q*w<R.length):X2 w R q≠[]:=by
 unfold X2;intro e;have:=congrArg List.length e;rw[yL,xC,yH]at this;omega
theorem ZmS (L:Loc)(p:Spec)(G:List Pr):(QI L p (G.map (·.2))).length<=ZZ G:=by
 rw[<-Zei];exact ZqP L p _
theorem ZvC {L:Loc}{p:Spec}{k:Nat}{G:List Pr}(h:ShortP G)(h0:G≠[]):(∀ s∈(gN L p k G).2,s.length<=200)/\(gN L p k G).2.length<=ZZ G:=by
 have j:∀ s∈(gM L p k G).2,s.length<=200:=fun s hs=>by
  obtain⟨l,hl,u⟩:=zV.1 (Ziv s hs);obtain⟨x,hx,rfl⟩:=zW.1 hl;exact h x hx s u
 match G,h0 with
 |[x],_=>exact⟨h x (by simp),by simp[gN,ZZ]⟩
 |x::y::r,_=>exact⟨j,ZmS L p (x::y::r)⟩
theorem PInv.step {L:Loc}{p:Spec}{w:Nat}{R:List Pr}{k0:Nat}{u:Stt}{q:Nat}{a:PSt}(h:PInv w R k0 u q a)(hw:2<=w)(hq:q*w<R.length)(K:ShortP R)(I:∀ l:List Zl,((a.P++[(ZJ (a.k+1),l)]).map (·.1)).Nodup) :
 PInv w R k0 u (q+1) (Zlx L p (X2 w R q) a):=by
 have h0:=ZjF hw hq;have hd:=Zmh w R q;have M:=ZwD w R q;have D:∀ x∈X2 w R q,x∈R:=fun x hx=>List.mem_of_mem_drop (List.mem_of_mem_take hx);have E:ShortP (X2 w R q):=fun x hx=>K x (D x hx);obtain⟨U,X⟩:=ZvC (L:=L) (p:=p) (k:=a.k) E h0;obtain⟨Q,W⟩:=h.m;have hk:=h.kle;have j:=h.perm;rw[hd]at j;generalize X2 w R q=G at *;refine⟨?_,?_,?_,?_,?_,?_,?_⟩
 ·match G,h0 with
  |[x],_=>show a.P.Perm (a.O++[x]++_);rw[zF];exact j
  |x::y::r,_ =>
   show (Of (x::y::r) (a.P++[gM L p a.k (x::y::r)])).Perm (a.O++[gM L p a.k (x::y::r)]++_);refine Zoc _ _ _ (I _) ?_;have V:=j.append_right [gM L p a.k (x::y::r)];refine V.trans ?_;generalize (x::y::r)=C;generalize gM L p a.k C=z;generalize R.drop ((q+1)*w)=T;rw[zF,zF,zF]
   have F:(a.O++(C++(T++[z]))).Perm (C++(a.O++(T++[z]))):=by
    have:=(yR (l₁:=a.O) (l₂:=C)).append_right (T++[z])
    rwa [zF,zF]at this
   refine F.trans (yS _ (yS _ ?_));exact yR
 ·match G,h0 with
  |[x],_=>show a.k<=_;omega
  |x::y::r,_=>show a.k+1<=_;omega
 ·show (a.O++[_]).length=_;rw[zI,h.len];rfl
 ·show ZZ (a.O++[_])<=_;rw[M,Kg,Kg];have:=h.lines;simp only[ZZ];omega
 ·intro x hx;rcases zC.1 hx with hx|hx
  ·exact h.short x hx
  ·rw[zE.1 hx];exact U
 ·match G,h0 with
  |[x],_=>exact⟨Q,by show a.st.m<=u.m+((q+1:Nat):Int);omega⟩
  |x::y::r,_=>exact⟨by show u.m<=a.st.m+1;omega,by show a.st.m+1<=u.m+((q+1:Nat):Int);omega⟩
 ·match G,h0 with
  |[x],_=>exact h.ry
  |x::y::r,_=>exact h.ry
section
variable {o g t:Nat}{L:Loc}{lx cl e:AV}{p:Spec}{xp:AV}
theorem ZqW {x:AV}{R:List Pr}(hx:SS x (R.map (·.1))){st:Stt}{N:Nat}(hgN:g<N){w q n:Nat}{T:AV}(V:IS T (TF w n q))(hn:n=R.length)(ae:q*w<=n)(ad:n<=5000)(af:w<=5000)
 (x5 M O Q:AV) (H0:Hp):∀ (r d:List Pr) (D:AV) (H:Hp),X2 w R q=d++r->NmAt H D (d.map (·.1))->(∀ a∈ZI D,N<=a)->N<=H.length->H[g]?=some (.cells (W4 o L lx cl e p xp x st)) ->
 ∃ j H',Vq (.ptr g 0) x5 D M O Q T (J xS ((TF w n q).length:Int)) (J xS (d.length:Int)) H0 H=Vn (.ptr g 0) x5 j M O Q H0 H'/\NmAt H' j ((X2 w R q).map (·.1)) /\
  (∀ a,a<N->H'[a]?=H[a]?)/\N<=H'.length:=by
 have E:(TF w n q).length=(X2 w R q).length:=by
  rw[ZxO];unfold X2;rw[yL,xC,hn]
 have ab:(X2 w R q).length<=w:=by unfold X2;rw[yL];omega
 intro r
 induction r with
 |nil =>
  intro d D H hd X W hl hg;rw[zM]at hd;have C:decide ((d.length:Int)<((TF w n q).length:Int))=false:=by rw[E,hd];simp
  refine⟨D,H,?_,by rw[hd];exact X,fun _ _=>rfl,hl⟩;rw[Gz];simp only[go_sem,C]
 |cons y r ih =>
  intro d D H hd X W hl hg;have hlen:(X2 w R q).length=d.length+(r.length+1):=by rw[hd];simp
  have C:decide ((d.length:Int)<((TF w n q).length:Int))=true:=by rw[E,decide_eq_true_eq];omega
  have F:=V.idx (ZxN (w:=w) (i:=n) (q:=q) (k:=d.length) (by omega))
  have Y:(R.map (·.1))[q*w+d.length]?=some y.1:=by
   have U:(X2 w R q)[d.length]?=some y:=by rw[hd,zA (zD _)];simp
   unfold X2 at U;rw[List.getElem?_take_of_lt (by omega),List.getElem?_drop]at U;rw[List.getElem?_map,U];rfl
  have I:=SS.idx hx Y;have aa:=ZN hg 12 (v:=x) rfl;have Z:xR.wrap ((d.length:Int)+1)=((d++[y]).length:Int):=by rw[Zp (by omega) (by omega)];simp
  have K:(ZB 1 [(0,zL y.1)] [(.str [])]).map (xD 1 .clip)=some (.vs 1 .clip [.str y.1]):=rfl;obtain⟨x9,H1,n1,n2,n3,n4,n5,n6,n7⟩:=X.app y.1 (by simp;omega);have ac:=n3.len;have u:∀ a,a<N->H1[a]?=H[a]?:=fun a ha=>n3.at' a (by omega) (fun h=>by have:=W a h;omega);obtain⟨j,H',m1,m2,m3,m4⟩:=ih (d++[y]) x9 H1 (by rw[hd];simp) (by rw[zS];exact n2) (fun a ha=>by rcases n4 a ha with h|h;exact W a h;omega) (by omega) ((u g hgN).trans hg);refine⟨j,H',?_,m2,fun a ha=>(m3 a ha).trans (u a ha),m4⟩;rw[Gz];have z:Zo 1 x (iv (q*w+d.length))=some (.vp [.str y.1]):=I;simp only[go_sem,C,El,F,Zz,zT,aa,z,K,n1,Em,Z];exact m1
variable {B:List Fil}(hB:BOk B)(hl:LocAV (.agg (L.cells lx cl e)) L)(hok:LocOk L)(hsm:LocSm L)(hs:SpecAV (.agg (p.cells xp)) p)(hks:∀ k∈p.keys,KeOk k)(hkl:p.keys.length<=1048576)
include hB hl hok hsm hs hks hkl
end
theorem ZjJ {x1:AV}{ns:List Zm}(hx:SS x1 ns)(hl:ns.length<=65536)(g o N:Nat){cs0:List AV}(F:cs0[0]?=some (.ptr o 0))(X:Hp):∀ (r d:List Zm) (Q:AV) (rs:List Nat) (H:Hp),ns=d++r->rs.length=d.length->RowN N H 1 Q (rs.map fun r=>yE r 0)->N<=H.length->H[g]?=some (.cells cs0) ->
 ∃ (H':Hp) (C:AV) (j:List Nat),WY (.ptr g 0) Q x1 (J xS (ns.length:Int)) (J xS (d.length:Int)) X H=Qc (.ptr g 0) C X H'/\RowN N H' 1 C ((rs++j).map fun r=>yE r 0)/\j.length=r.length/\(∀ a,a<N->H'[a]?=H[a]?)/\(∀ (a:Nat) (cs:List AV),H[a]?=some (.cells cs)->H'[a]?=some (.cells cs)) /\
  (∀ (i:Nat) (n:Zm),r[i]?=some n->∃ O,j[i]?=some O/\H'[O]?=some (.cells (J2 o n 0 false false [])))/\j.Nodup/\(∀ O∈j,H.length<=O)/\H.length<=H'.length:=by
 intro r
 induction r with
 |nil =>
  intro d Q rs H hd M u hN hg;rw[zM]at hd;subst hd;have D:decide ((ns.length:Int)<(ns.length:Int))=false:=by simp
  refine⟨H,Q,[],?_,by rw[zM];exact u,rfl,fun _ _=>rfl,fun _ _ h=>h,fun i n h=>by simp at h,by simp,by simp,zD _⟩;rw[KP];simp only[go_sem,D]
 |cons n r ih =>
  intro d Q rs H hd M u hN hg;have U:ns.length=d.length+(r.length+1):=by rw[hd];simp
  have D:decide ((d.length:Int)<(ns.length:Int))=true:=by rw[decide_eq_true_eq];omega
  have W:xR.wrap ((d.length:Int)+1)=((d.length+1:Nat):Int):=by rw[Zp (by omega) (by omega)];omega
  have hin:ns[d.length]?=some n:=by rw[hd,zA (zD _)];simp
  have I:=SS.idx hx hin;have V:=ZjZ o n H;have K:(ZB 1 [(0,yE H.length 0)] [.nilp]).map (xD 1 .clip)=some (.vs 1 .clip [.ptr H.length 0]):=rfl;obtain⟨x',T,w1,w2,w3,w4,w5⟩:=(u.push [.cells (J2 o n 0 false false [])]).app (by simp;omega) 8 (.vs 1 .clip [.ptr H.length 0]) [.ptr H.length 0] rfl (by simp;omega);have E:∀ (a:Nat) (cs:List AV),(H++[zB (J2 o n 0 false false [])])[a]?=some (.cells cs)->T[a]?=some (.cells cs):=w5;have z:T[H.length]?=some (.cells (J2 o n 0 false false [])):=E _ _ (by simp);have aa:H.length<T.length:=Zg z;obtain⟨H3,C,j,Y,m2,m3,m4,Z,m6,m7,m8,m9⟩:=ih (d++[n]) x' (rs++[H.length]) T (by rw[hd];simp) (by simp[M]) (by rw[zS];exact w2) w3 (E _ _ (ZY hg _));rw[zI,zO]at Y;refine⟨H3,C,H.length::j,?_,by rw[show rs++H.length::j=rs++[H.length]++j by simp];exact m2,by simp[m3],fun a ha=>(m4 a ha).trans ((w4 a ha).trans (zJ (by omega))),fun a cs h=>Z a cs (E a cs (ZY h _)),fun i k hi=>?_,?_,fun O hr=>?_,by omega⟩
  ·rw[KP];simp only[go_sem,D,MO,I,Zz,zT,ZN hg 0 F,V,K,w1,MP,W];exact Y
  ·cases i with
   |zero =>
    simp at hi;subst hi;exact⟨H.length,rfl,Z _ _ z⟩
   |succ i=>exact m6 i k (by simpa using hi)
  ·rw[zZ];exact⟨fun h=>by have:=m8 _ h;omega,m7⟩
  ·rcases zH.1 hr with e'|h
   ·omega
   ·have:=m8 _ h;omega
section
variable {o t g N:Nat}{tm:Tmp}{s:Sto}{A:List Nat}{L:Loc}{lx c e:AV}{p:Spec}{xp:AV}{rx:AV}{rs:List Nat}
 (hm:TmpOk tm) (hk:StoOk s) (hc:s.crashed=false) (h0:s.count=0)
 (hl:LocAV (.agg (L.cells lx c e)) L) (hok:LocOk L) (hs:SpecAV (.agg (p.cells xp)) p) (hks:∀ k∈p.keys,KeOk k)
 (hrx:Sl 1 rx (rs.map fun r=>yE r 0)) (hnd:rs.Nodup) (hlen:rs.length<=1048576)
 (hgA:g∉A) (hgd:g∉rs) (hgN:g<N) (hrN:∀ r∈rs,r<N) (hAN:∀ a∈A,a<N)
include hm hk hc h0 hl hok hs hks hrx hnd hlen hgA hgd hgN hrN hAN
end
section
variable {o g t:Nat}{L:Loc}{lx cl e:AV}{p:Spec}{xp:AV}{B:List Fil}(hB:BOk B)(hl:LocAV (.agg (L.cells lx cl e)) L)(hok:LocOk L)(hsm:LocSm L)(hs:SpecAV (.agg (p.cells xp)) p)(hks:∀ k∈p.keys,KeOk k)(hkl:p.keys.length<=1048576)
include hB hl hok hsm hs hks hkl
end
end Go.Am
