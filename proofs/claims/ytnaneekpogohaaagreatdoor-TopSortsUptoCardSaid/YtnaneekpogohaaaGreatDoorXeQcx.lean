/- Dividing lines into Vz -/
import Derived.Test.YtnaneekpogohaaaGreatDoorXeSmx
import Derived.Test.YtnaneekpogohaaaGreatDoorXeQbx
import Derived.Test.YtnaneekpogohaaaGreatDoorXeGPx
open Go.IntKind renaming i64->wD
open List renaming mem_append->zB,mem_cons->zC,mem_singleton->zD,getElem?_cons_zero->zF,getElem?_cons_succ->zG,getElem?_append_right->zH,length_append->zJ,mem_map_of_mem->zK,map_cons->zL,length_cons->zM,length_map->zN,append_nil->zP,flatten_cons->zQ,cons_append->zR,set->zS,append_assoc->zT,nodup_cons->zU,filter_append->zV,getElem?_append_left->zW,length_singleton->zX,mem_append_right->zY,mem_append_left->zZ,mem_of_getElem?->yA,map_append->yC,mem_map->yD,filter_cons->yF,mem_flatten->yG,pairwise_cons->yH,getElem?_map->yI,getElem?_eq_some_iff->yJ,nil_append->yL,getElem?_of_mem->yO,getD_eq_getElem?_getD->yP,flatten_append->yQ,singleton_append->yT,all_eq_true->yV,length_nil->yW,length_pos_iff->yX,filter_eq_self->yY,nodup_append->xA,getElem?_eq_getElem->xC,length_eq_zero_iff->xE,headD_cons->xG,filter_eq_nil_iff->xH,getElem?_set_ne->xI,mem_cons_of_mem->xJ,mem_of_getLast?->xK,all_cons->xM,isEmpty_cons->xO,isEmpty_nil->xP,range->xS,mapM_cons->xT,tail_cons->xU,drop_one->xW,map_map->xX
open Nat renaming le_refl->zE,zero_add->zI,add_zero->yN,reduceAdd->yU,lt_of_lt_of_le->yZ,le_trans->xF,mul_le_mul_right->xL,zero_le->wB
open Bool renaming not_false->yB,not_true->yE,false_eq_true->yK,false_and->yM,true_and->xB,and_eq_true->xD,and_false->xV,or_true->xY
open Option renaming isSome->xN,getD->xQ
open Int renaming le_refl->wA
open Go.Am.AObj renaming cells->zA,row->yS,tok->xR
open Go.Am.AV renaming str->zO,ptr->yR,agg->xZ
open List.Sublist renaming refl->wC
namespace Go.Am
set_option linter.unusedSectionVars false
set_option maxRecDepth 100000
def cS (s:Zg):Int:=(s.length:Int)+16
theorem Zfv:∀ (k:List Zg),Xg k->0<=XP cS k/\XP cS k<=(k.length:Int)*1048592:=by
 have:∀ (k:List Zg) (n:Int),Xg k->n<=k.foldl (fun n x=>n+cS x) n/\k.foldl (fun n x=>n+cS x) n<=n+(k.length:Int)*1048592:=by
  intro k
  induction k with
  |nil=>intro n _;simp
  |cons s k y =>
   intro n j;have hs:=j s (by simp);obtain⟨z,C⟩:=y (n+cS s) fun t u=>j t (by simp[u]);rw[List.foldl_cons];simp only[zM];have:cS s=(s.length:Int)+16:=rfl;constructor <;> omega
 intro k hk;have:=this k 0 hk;unfold XP;simpa using this
section
variable {mem:Int}{l:List Zg}
theorem ZlP {d:List Zg}(hd:CkOk cS mem d (Y9 cS mem d)):(Y9 cS mem d).cur.length<=d.length/\d.drop (d.length-(Y9 cS mem d).cur.length)=(Y9 cS mem d).cur:=by
 have h:=hd.flat;generalize (Y9 cS mem d)=s at h;subst h;constructor
 ·simp
 ·rw[zJ,Nat.add_sub_cancel,List.drop_append_of_le_length (zE _),List.drop_length];rfl
theorem ZsK {d:List Zg}(hd:CkOk cS mem d (Y9 cS mem d)):(Y9 cS mem d).done.length<=d.length:=by
 have h:=hd.flat;have j:=hd.ne;generalize (Y9 cS mem d)=s at h j;subst h
 have:∀ (A:List (List Zg)),(∀ k∈A,k≠[])->A.length<=A.flatten.length:=by
  intro A
  induction A with
  |nil=>intro _;simp
  |cons k A u =>
   intro h;have y:=u fun k hk=>h k (by simp[hk]);have z:0<k.length:=yX.2 (h k (by simp));simp only[zM,zQ,zJ];omega
 have:=this s.done j;simp only[zJ];omega
theorem Zlb {d r:List Zg}{i:Nat}(hi:i<=d.length):((d++r).take d.length).drop i=d.drop i:=by simp
theorem ZhB {s:Ck Zg}{x:Zg}(h:s.cur=[]\/s.cost+cS x<=mem):KX cS mem s x=⟨s.done,s.cur++[x],s.cost+cS x⟩:=by
 unfold KX;rw[if_neg]
 rintro⟨h1,h2⟩
 rcases h with h|h
 ·exact h1 h
 ·omega
theorem Zqb {s:Ck Zg}{x:Zg}(j:s.cur≠[])(u:mem<s.cost+cS x):KX cS mem s x=⟨s.done++[s.cur],[x],cS x⟩:=by
 unfold KX;rw[if_pos ⟨j,u⟩]
theorem ZwH {d:List Zg}(j:Xg d)(hd:CkOk cS mem d (Y9 cS mem d)):Xg (Y9 cS mem d).cur:=fun s hs=>j s (by
 have h:=hd.flat;rw[<-h];simp[hs])
theorem ZrJ {x:AV}(hx:SS x l)(hL:Xg l)(hl:l.length<=1048576)(H0:Hp):∀ (r d:List Zg) (x6:AV) (H:Hp),l=d++r->(∃ o,Rst o H x6 (Y9 cS mem d).done) ->
 ∃ y H',F7 (.int .i64 mem) x x6 (.int .i64 ((d.length-(Y9 cS mem d).cur.length:Nat):Int)) (.int .i64 (Y9 cS mem d).cost) x (.int .i64 (l.length:Int)) (.int .i64 (d.length:Int)) H0 H=some (y,H')/\LL H' y (J9 (Y9 cS mem l)):=by
 have hn:=SS.len hx 9;intro r
 induction r with
 |nil =>
  intro d x6 H hd ⟨o,hr⟩;rw[zP]at hd;subst hd;have hok:=ZlQ cS mem l;obtain⟨X,I⟩:=ZlP hok;have F:decide ((l.length:Int)<(l.length:Int))=false:=by simp
  rw[Sv];simp only[go_sem,F,ZgC,hn,ZgD];by_cases h0:l=[]
  ·subst h0;have T:decide ((0:Int)<((([]:List Zg).length:Nat):Int))=false:=rfl;simp only[T,go_sem];exact⟨_,_,rfl,hr.ll⟩
  ·have T:decide ((0:Int)<(l.length:Int))=true:=by have:=yX.2 h0;simp;exact this
   obtain⟨a,q1,E⟩:=hx.cut (i:=l.length-(Y9 cS mem l).cur.length) (j:=l.length) (by omega) (zE _);rw[List.take_length,I]at E
   have z:(ZA 1 [(0,a)] [AV.nils]).map (AV.vs 1 .clip)=some (.vs 1 .clip [a]):=by
    simp only[ZA,E.cell.1,E.cell.2];rfl
   obtain⟨o',x',H',p1,p2,p3,p4⟩:=hr.app E (by have:=ZsK hok;omega);simp only[T,go_sem,q1,z,p1];refine⟨_,_,rfl,?_⟩;unfold J9;rw[if_neg (Zzx cS mem h0)];exact p2.ll
 |cons s r ih =>
  intro d x6 H hd ⟨o,hr⟩;have hok:=ZlQ cS mem d;obtain⟨X,I⟩:=ZlP hok;have U:Xg d:=fun t ht=>hL t (by rw[hd];simp[ht]);have V:=Zfv _ (ZwH U hok);rw[<-hok.cost]at V;have hs:s.length<=1048576:=hL s (by rw[hd];simp);have hlen:l.length=d.length+(r.length+1):=by rw[hd];simp
  have F:decide ((d.length:Int)<(l.length:Int))=true:=by simp;omega
  have J:wD.wrap ((d.length:Int)+1)=((d.length+1:Nat):Int):=by rw[Zr (by omega) (by omega)];omega
  have Y:wD.wrap ((s.length:Int)+16)=cS s:=by rw[Zr (by omega) (by omega)];rfl
  have hcs:cS s=(s.length:Int)+16:=rfl;have K:wD.wrap ((Y9 cS mem d).cost+cS s)=(Y9 cS mem d).cost+cS s:=Zr (by omega) (by omega);have Z:wD.wrap (0+cS s)=cS s:=by rw[Zr (by omega) (by omega)];omega
  have W:l[d.length]?=some s:=by rw[hd,zH (zE _)];simp
  have M:=SS.idx hx W;have u:=fun x6 H h=>ih (d++[s]) x6 H (by rw[hd];simp) h;simp only[ZhA,zJ,zX]at u;rw[Sv];simp only[go_sem,F,ZgE,M,ZE,Y];by_cases hc:(Y9 cS mem d).cur=[]
  ·have D:decide (((d.length-(Y9 cS mem d).cur.length:Nat):Int)<(d.length:Int))=false:=by rw[hc];simp
   have C:=ZhB (mem:=mem) (s:=Y9 cS mem d) (x:=s) (.inl hc);rw[C]at u;obtain⟨y,H',O,Q⟩:=u x6 H ⟨o,hr⟩;refine⟨y,H',?_,Q⟩;simp only[D,go_sem,Fh,K,Ff,J];rw[show d.length-(Y9 cS mem d).cur.length=d.length+1-((Y9 cS mem d).cur++[s]).length by rw[hc];simp];exact O
  ·have D:decide (((d.length-(Y9 cS mem d).cur.length:Nat):Int)<(d.length:Int))=true:=by have:=yX.2 hc;simp;omega
   by_cases hm:mem<(Y9 cS mem d).cost+cS s
   ·have C:=Zqb (mem:=mem) hc hm;rw[C]at u;obtain⟨a,q1,E⟩:=hx.cut (i:=d.length-(Y9 cS mem d).cur.length) (j:=d.length) (by omega) (by omega);rw[hd,Zlb (by omega),I]at E
    have z:(ZA 1 [(0,a)] [AV.nils]).map (AV.vs 1 .clip)=some (.vs 1 .clip [a]):=by
     simp only[ZA,E.cell.1,E.cell.2];rfl
    obtain⟨o',x',H1,p1,p2,p3,p4⟩:=hr.app E (by have:=ZsK hok;omega);obtain⟨y,H',O,Q⟩:=u x' H1 ⟨o',p2⟩;refine⟨y,H',?_,Q⟩;simp only[D,go_sem,K,decide_eq_true hm,q1,z,p1,Fh,Z,Ff,J];exact O
   ·have C:=ZhB (mem:=mem) (s:=Y9 cS mem d) (x:=s) (.inr (by omega));rw[C]at u;obtain⟨y,H',O,Q⟩:=u x6 H ⟨o,hr⟩;refine⟨y,H',?_,Q⟩;simp only[D,go_sem,K,decide_eq_false hm,Fh,Ff,J];rw[show d.length-(Y9 cS mem d).cur.length=d.length+1-((Y9 cS mem d).cur++[s]).length by simp];exact O
theorem ZiF {x:AV}(hx:SS x l)(F:Xg l)(hl:l.length<=1048576)(H:Hp):∃ y,Ze Rh [x,.int .i64 mem] H=some (y,H)/\LsV y (J9 (Y9 cS mem l)):=by
 obtain⟨x1,D,E⟩:=SS.closed hx [] 0 7;obtain⟨M,C,j⟩:=Ln E hl [];obtain⟨y,H',I,J⟩:=ZrJ (mem:=mem) j F hl [] l [] .nils [] rfl ⟨0,.inl ⟨rfl,.inl rfl⟩⟩;obtain⟨K,u,z⟩:=J.close0;refine⟨K,?_,z⟩;refine Pq (args':=[x1,.int .i64 mem]) (H1:=H') (v:=y) (by rw[xT,D];rfl) ?_ u;rw[Zh1];unfold Zco;simp only[C,go_sem,SS.len j 9];exact I
end
theorem Zgh {l:List Fil}{n:Zo}(h:ZQ l n=none)(f:Fil)(j:f.name=n):ZQ (l++[f]) n=some f:=by
 induction l with
 |nil=>simp[ZQ,j]
 |cons g l u =>
  unfold ZQ at h;split at h
  ·cases h
  ·rename_i hn;rw[zR,ZQ,if_neg hn];exact u h
theorem ZgT {l:List Fil}{n:Zo}(h:ZQ l n=none)(f:Fil)(j:f.name=n)(u:Fil->Fil):Fy (l++[f]) n u=l++[u f]:=by
 induction l with
 |nil=>simp[Fy,j]
 |cons g l y =>
  unfold ZQ at h;split at h
  ·cases h
  ·rename_i hn;rw[zR,Fy,if_neg hn,y h];rfl
section
variable {tm:Tmp}{s:Sto}{n:Zo}
theorem Zz9 (hc:s.crashed=false)(h0:s.count=0)(hcl:tm.closed=false)(hn:n=U5 tm.owner (tm.last+1))(hb:F5 n=true)(hg:ZQ s.files n=none)(j:s.files.length<64) :
 Tl tm s=((n,0),({ tm with last:=tm.last+1,names:=tm.names++[n] },{ s with files:=s.files++[⟨n,[],0⟩] })):=by
 subst hn;unfold Tl;rw[if_neg (by simp[hcl])]
 have:s.create (U5 tm.owner (tm.last+1))=(0,{ s with files:=s.files++[⟨U5 tm.owner (tm.last+1),[],0⟩] }):=by
  unfold Sto.create;rw[JJ hc h0,if_neg (by simp[hc]),if_neg (by simp[hb]),hg];dsimp only;rw[if_neg (by omega)]
 rw[this];rfl
theorem Zux {fs:List Fil}(hc:s.crashed=false)(h0:s.count=0)(hcl:tm.closed=false)(hn:n∈tm.names)(hs:n∉tm.sld)(j:s.files=fs++[⟨n,[],0⟩])(hg:ZQ fs n=none){l:List Zo}(u:YZ l=true)(hl:Zs fs+Y1 l<=s.limit)(D:Zs fs+Y1 l<=tm.limit) :
 GM tm s n l=(0,{ s with files:=fs++[⟨n,ZP l,0⟩],peak:=max s.peak (Zs fs+Y1 l) }):=by
 have z:Zs s.files=Zs fs:=by rw[j,W9];simp[Zs]
 have y:Yg tm n=0:=by unfold Yg;rw[if_neg (by simp[hcl]),if_pos hn]
 have C:=ZaH tm.names s.files;unfold GM;rw[if_neg (by simp[y]),if_neg hs,if_neg (by simp[u]),if_neg (by unfold Ul;omega)];unfold Sto.append;rw[JJ hc h0,if_neg (by simp[hc]),j,Zgh hg _ rfl];dsimp only;rw[<-j,z,W2,if_neg (by omega),j,ZgT hg _ rfl];rfl
theorem Zne {fs:List Fil}{x:Zo}{k:Nat}(hc:s.crashed=false)(h0:s.count=0)(hcl:tm.closed=false)(hn:n∈tm.names)(j:s.files=fs++[⟨n,x,k⟩])(hg:ZQ fs n=none) :
 Tm tm s n=(0,({ tm with sld:=Oz tm.sld n },{ s with files:=fs++[⟨n,x,x.length⟩] })):=by
 have y:Yg tm n=0:=by unfold Yg;rw[if_neg (by simp[hcl]),if_pos hn]
 have u:s.sync n=(0,{ s with files:=fs++[⟨n,x,x.length⟩] }):=by
  unfold Sto.sync;rw[JJ hc h0,if_neg (by simp[hc]),j,Zgh hg _ rfl];dsimp only;rw[ZgT hg _ rfl]
 unfold Tm;rw[if_neg (by simp[y]),u];rfl
end
theorem SysAt.frame {H H':Hp}{o t:Nat}{tm:Tmp}{s:Sto}{A:List Nat}(h:SysAt H o t tm s A)(u:∀ a∈A,H'[a]?=H[a]?):SysAt H' o t tm s A:=by
 obtain⟨B,S,⟨D,j,E,sl,y,rfl⟩,z,C,rfl⟩:=h;exact⟨_,S,⟨D,j,E,sl,y.frame fun a ha=>u a (by simp only[zB];exact .inl ha),rfl⟩,z.frame fun a ha=>u a (by simp[ha]),C,rfl⟩
theorem NH (L:Loc)(p:Spec)(l:List Zg):∀ s∈ZJ L p l,s∈l:=by
 intro s hs;unfold ZJ at hs;split at hs
 ·exact hs
 ·split at hs
  ·rcases Zks _ _ s hs with h|h
   ·cases h
   ·exact (Hv L p l).2 s h
  ·exact (Hv L p l).2 s hs
theorem ZsN (t:Tok)(l:List AV)(H:Hp):Ey [.vs 1 t l] H=(match Tj l with
 |some _=>if l=[] then some (.vs 1 .no [],H) else if l.length<=1099511627776 then some (.ws false 1 H.length 0 l.length,H++[.row 0 l]) else none
 |none=>none):=rfl
theorem ZvV (o e n q:Nat)(H:Hp):OT [.ws false 1 o e n,.fn (.func 96) [] [.ptr q 0]] H=(match H[o]? with
 |some (.row e' l)=>match Tj l with
  |some ls=>match H[q]? with
   |some (.cells [.str nm])=>if e'=e/\n=l.length/\o≠q/\l.length<=1099511627776 then some (.vs 1 (.own o (e+2)) ((Wp nm ls).map zO),H.set o (.tok (e+2))) else none
   |_=>none
  |none=>none
 |_=>none):=rfl
theorem Zi0 {H:Hp}{o t j z:Nat}{nx:AV}{sl:List (Zo×Nat)}{tm:Tmp}(h:TmAt H o t j z nx sl tm)(hm:TmpOk tm)(n:Zo)(U:tm.names≠[]) :
 ∃ (H':Hp) (Z:AV) (y:List (Zo×Nat)),forgetE.run [.ptr o 0,.str n] H=some (.tuple [],H')/\TmAt H' o t j z Z y { tm with names:=Wp n tm.names,sld:=y.map (·.1) }/\Stp (o::j::ZG nx) H H'/\(∀ a∈ZG Z,H.length<=a)/\(∀ x∈y.map (·.1),x∈sl.map (·.1)):=by
 have T:=h.lt;have al:o<H.length:=T o (by simp);have ag:j<H.length:=T j (by simp);have F:o≠j:=fun e=>by have:=h.nd;simp[e]at this
 have hkl:=hm.len;have ak:=hm.last
 obtain⟨u,e,rfl,hu⟩:∃ u e,nx=.vs 1 (.own u e) (tm.names.map zO)/\H[u]?=some (.tok e):=by
  rcases h.names with ⟨_,e⟩|h
  ·exact absurd e U
  ·exact h
 have V:tm.names.map zO≠[]:=fun e=>U (List.map_eq_nil_iff.1 e);have ac:(H++[zA [.str n]])[o]?=some (.cells [.ptr t 0,.str tm.owner,.vs 1 (.own u e) (tm.names.map zO),.map j,.int .i64 (tm.limit:Int),.int .i64 (tm.last:Int),.bool tm.closed]):=Yl h.cells _;have l2:=ZW ac 2 (v:=.vs 1 (.own u e) (tm.names.map zO)) rfl;have ae:(H++[zA [.str n]]).length=H.length+1:=by simp
 have hcl:cloneE.run [.vs 1 (.own u e) (tm.names.map zO)] (H++[zA [.str n]])=some (.ws false 1 (H.length+1) 0 tm.names.length,H++[zA [.str n]]++[yS 0 (tm.names.map zO)]):=by
  rw[show cloneE.run=Ey from rfl];rw[ZsN,ZiH];dsimp only;rw[if_neg V,zN,if_pos (by omega),ae]
 have hr:(H++[zA [.str n]]++[yS 0 (tm.names.map zO)])[H.length+1]?=some (.row 0 (tm.names.map zO)):=by
  rw[zH (by simp)];simp
 have hq:(H++[zA [.str n]]++[yS 0 (tm.names.map zO)])[H.length]?=some (.cells [.str n]):=by
  rw[zW (by simp)];simp
 have Q:delE.run [.ws false 1 (H.length+1) 0 tm.names.length,.fn (.func 96) [] [.ptr H.length 0]] (H++[zA [.str n]]++[yS 0 (tm.names.map zO)]) =
  some (.vs 1 (.own (H.length+1) 2) ((Wp n tm.names).map zO),(H++[zA [.str n]]++[yS 0 (tm.names.map zO)]).set (H.length+1) (xR 2)):=by
  rw[show delE.run=OT from rfl];rw[ZvV,hr];dsimp only;rw[ZiH,hq];dsimp only;rw[if_pos ⟨rfl,by rw[zN],by omega,by rw[zN];omega⟩]
 have C:Stp [] H ((H++[zA [.str n]]++[yS 0 (tm.names.map zO)]).set (H.length+1) (xR 2)):=⟨by simp,fun i hi _=>by
  rw[xI (by omega),zW (by simp;omega),zW hi]⟩
 have W:((H++[zA [.str n]]++[yS 0 (tm.names.map zO)]).set (H.length+1) (xR 2))[H.length]?=some (.cells [.str n]):=Yn _ (by omega) hq;have Y:((H++[zA [.str n]]++[yS 0 (tm.names.map zO)]).set (H.length+1) (xR 2))[H.length+1]?=some (.tok 2):=Zt _ hr;generalize ai:(H++[zA [.str n]]++[yS 0 (tm.names.map zO)]).set (H.length+1) (.tok 2)=K at Q C W Y;have O:=C.get h.cells (by simp);have af:K[j]?=some (.map (sl.map VI) z):=(C.at' j ag (by simp)).trans h.map;have s2:=Qb O 2 (v:=.vs 1 (.own (H.length+1) 2) ((Wp n tm.names).map zO)) rfl rfl (by simp);have E:=Zt (zA (zS [.ptr t 0,.str tm.owner,.vs 1 (.own u e) (tm.names.map zO),.map j,.int .i64 (tm.limit:Int),.int .i64 (tm.last:Int),.bool tm.closed] 2 (.vs 1 (.own (H.length+1) 2) ((Wp n tm.names).map zO)))) O;have D:=Yn (zA (zS [.ptr t 0,.str tm.owner,.vs 1 (.own u e) (tm.names.map zO),.map j,.int .i64 (tm.limit:Int),.int .i64 (tm.last:Int),.bool tm.closed] 2 (.vs 1 (.own (H.length+1) 2) ((Wp n tm.names).map zO)))) F af;have X:=Yn (zA (zS [.ptr t 0,.str tm.owner,.vs 1 (.own u e) (tm.names.map zO),.map j,.int .i64 (tm.limit:Int),.int .i64 (tm.last:Int),.bool tm.closed] 2 (.vs 1 (.own (H.length+1) 2) ((Wp n tm.names).map zO)))) (show o≠H.length by omega) W;have I:=Yn (zA (zS [.ptr t 0,.str tm.owner,.vs 1 (.own u e) (tm.names.map zO),.map j,.int .i64 (tm.limit:Int),.int .i64 (tm.last:Int),.bool tm.closed] 2 (.vs 1 (.own (H.length+1) 2) ((Wp n tm.names).map zO)))) (show o≠H.length+1 by omega) Y;have M:Stp [o] K (K.set o (.cells (zS [.ptr t 0,.str tm.owner,.vs 1 (.own u e) (tm.names.map zO),.map j,.int .i64 (tm.limit:Int),.int .i64 (tm.last:Int),.bool tm.closed] 2 (.vs 1 (.own (H.length+1) 2) ((Wp n tm.names).map zO))))):=Stp.set _ _ (by simp);generalize aj:K.set o (.cells (zS [.ptr t 0,.str tm.owner,.vs 1 (.own u e) (tm.names.map zO),.map j,.int .i64 (tm.limit:Int),.int .i64 (tm.last:Int),.bool tm.closed] 2 (.vs 1 (.own (H.length+1) 2) ((Wp n tm.names).map zO))))=H4 at s2 E D X I M;have l3:=ZW E 3 (v:=.map j) rfl;have lq:=ZW X 0 (v:=.str n) rfl
 obtain⟨J,y,d1,d2,d3,d4⟩:∃ (J:Hp) (y:List (Zo×Nat)),QI .string (.map j) (.str n) H4=some (.tuple [],J)/\J[j]?=some (.map (y.map VI) z)/\Stp [j] H4 J/\(∀ x∈y.map (·.1),x∈sl.map (·.1)):=by
  have ad:Wa .string (.str n)=true:=rfl;unfold QI;dsimp only;rw[D];dsimp only;rw[if_pos ad];rcases Zga sl n 0 with ⟨_,hf⟩|⟨a,p,b,rfl,_,_,hf⟩
  ·rw[hf];exact⟨_,sl,rfl,Zt _ D,Stp.set _ _ (by simp),fun _ h=>h⟩
  ·rw[hf];dsimp only;refine⟨_,a++b,rfl,?_,Stp.set _ _ (by simp),fun x hx=>by simp only[yC,zL,zB,zC]at hx ⊢;rcases hx with h|h;exact .inl h;exact .inr (.inr h)⟩;rw[Zt _ D,zI,yC,zL,show a.length=(a.map VI).length by simp,Zde,yC]
 have aa:Stp (o::j::ZG (.vs 1 (.own u e) (tm.names.map zO))) H J:=by
  have x1:Stp (o::j::ZG (.vs 1 (.own u e) (tm.names.map zO))) H K:=C.mono fun a ha=>by cases ha
  have x2:=x1.trans M (fun _ h=>h) fun a ha=>.inl (by rw[zD.1 ha];simp);exact x2.trans d3 (fun _ h=>h) fun a ha=>.inl (by rw[zD.1 ha];simp)
 refine⟨J,.vs 1 (.own (H.length+1) 2) ((Wp n tm.names).map zO),y,?_,⟨d3.get E (by simpa using F),.inr ⟨_,_,rfl,(d3.at' _ (Zh I) (by simp;omega)).trans I⟩,d2,rfl,?_⟩,aa,fun a ha=>?_,d4⟩
 ·rw[ZqM];unfold Fg.F_tempfile_owned_forget;have ab:ZO (.str n) H=some (.ptr H.length 0,H++[.cells [.str n]]):=FS rfl;have ah:Z3 false 1 (.ptr o 2) (H++[zA [zO n]])=some (.vs 1 (.own u e) (tm.names.map zO)):=l2;simp only[ab,go_sem,zI,ah,hcl,Q,s2,l3,lq,d1]
 ·have:H.length+1≠o/\H.length+1≠j:=by omega
  simp[ZG,F,Ne.symm this.1,Ne.symm this.2]
 ·simp[ZG]at ha;omega
theorem ZA3 {l:List Fil}{n m:Zo}(h:m≠n):ZQ (Vc l n) m=ZQ l m:=by
 induction l with
 |nil=>rfl
 |cons f l u =>
  rw[Vc];split
  ·rename_i j;rw[ZQ,if_neg (by rw[<-j];exact h)]
  ·rw[ZQ,ZQ,u]
theorem Zz4 (l:List Fil)(n:Zo):List.Sublist (Vc l n) l:=by
 induction l with
 |nil=>exact wC _
 |cons f l j =>
  rw[Vc];split
  ·exact List.sublist_cons_self _ _
  ·exact j.cons_cons _
theorem Zx9 (l:List Fil)(n:Zo):Zs (Vc l n)<=Zs l:=by
 induction l with
 |nil=>exact zE _
 |cons f l j =>
  rw[Vc];split
  ·simp only[Zs];omega
  ·simp only[Zs];omega
theorem ZAr {s:Sto}(hk:StoOk s)(n:Zo):StoOk { s with files:=Vc s.files n }:=by
 have hs:=Zz4 s.files n;have z:=Zx9 s.files n;have u:=hk.used;have y:=hk.len;exact⟨hk.limit,by show Zs (Vc s.files n)<=s.limit;omega,hk.peak,fun f j=>hk.name f (hs.subset j),hk.nd.sublist (hs.map _),fun f j=>hk.syn f (hs.subset j),by have:=hs.length_le;show (Vc s.files n).length<=64;omega,hk.count⟩
theorem ZqX {n:Zo}{ns:List Zo}(h:(n::ns).Nodup):Wp n (n::ns)=ns:=by
 unfold Wp;rw[List.filter_cons_of_neg (by simp)];rw[yY];intro m hm;have:m≠n:=fun e=>(zU.1 h).1 (e ▸ hm);simp[this]
theorem Zqg {o t:Nat}(H0:Hp):∀ (k:Nat) (tm:Tmp) (s:Sto) (A:List Nat) (H:Hp),tm.names.length=k->SysAt H o t tm s A->TmpOk tm->StoOk s->s.crashed=false->s.count=0->tm.names.Nodup->(∀ n∈tm.names,ZQ s.files n≠none)->tm.closed=false ->
 ∃ H' A' W s',WN (.ptr o 0) H0 H=some (.int .i64 0,H')/\SysRes H H' o t W s' A A'/\TmpOk W/\StoOk s'/\W.closed=true/\s'.crashed=false/\s'.count=0/\s'={ s with files:=tm.names.foldl Vc s.files }:=by
 intro k
 induction k with
 |zero =>
  intro tm s A H hn h hm hk hc h0 hnd hf hcl;have ad:tm.names=[]:=xE.1 hn;have h':=h;obtain⟨B,S,⟨j,D,z,sl,u,rfl⟩,h2,Y,rfl⟩:=h;have l2:=ZW u.cells 2 (v:=z) rfl;have Q:=SS.len u.names.ss 9;have T:decide ((0:Int)<(tm.names.length:Int))=false:=by rw[ad];rfl
  have s6:=Qb u.cells 6 (v:=.bool true) rfl rfl (by simp);have g6:=Zt (zA (zS [.ptr t 0,.str tm.owner,z,.map j,.int .i64 (tm.limit:Int),.int .i64 (tm.last:Int),.bool tm.closed] 6 (.bool true))) u.cells;have Z:Stp [o] H (H.set o (.cells (zS [.ptr t 0,.str tm.owner,z,.map j,.int .i64 (tm.limit:Int),.int .i64 (tm.last:Int),.bool tm.closed] 6 (.bool true)))):=Stp.set _ _ (by simp);generalize aw:H.set o (.cells (zS [.ptr t 0,.str tm.owner,z,.map j,.int .i64 (tm.limit:Int),.int .i64 (tm.last:Int),.bool tm.closed] 6 (.bool true)))=H1 at s6 g6 Z;have ae:=u.nd
  have ag:∀ a∈j::ZG z,a∉[o]:=fun a ha hx=>by
   rw[zD.1 hx]at ha;exact (zU.1 ae).1 ha
  have J:=u.lt;have ap:o∉S:=Y o (by simp);refine⟨H1,(o::j::ZG z)++S,{ tm with closed:=true },s,?_,⟨⟨o::j::ZG z,S,⟨j,D,z,sl,⟨g6,u.names.frame fun a ha=>Z.at' a (J a (by simp[ha])) (ag a (by simp[ha])),(Z.at' j (J j (by simp)) (ag j (by simp))).trans u.map,u.sld,u.nd⟩,rfl⟩,h2.stp Z (fun a ha hx=>ap (by rw[zD.1 hx]at ha;exact ha)),Y,rfl⟩,Z.mono fun a ha=>by rw[zD.1 ha];simp,fun a ha=>.inl ha⟩,⟨hm.owner,hm.limit,hm.len,hm.last⟩,hk,rfl,hc,h0,by rw[ad];rfl⟩;rw[JW];simp only[go_sem,zI,l2,Q,T,My,s6]
 |succ k ih =>
  intro tm s A H hn h hm hk hc h0 hnd hf hcl
  obtain⟨n,ns,y⟩:∃ n ns,tm.names=n::ns:=by
   cases hx:tm.names with
   |nil=>rw[hx]at hn;cases hn
   |cons n ns=>exact⟨n,ns,rfl⟩
  have au:=h;obtain⟨B,S,⟨j,D,z,sl,u,rfl⟩,h2,Y,rfl⟩:=h;have l2:=ZW u.cells 2 (v:=z) rfl;have l0:=ZW u.cells 0 (v:=.ptr t 0) rfl;have Q:=SS.len u.names.ss 9;have al:=SS.idx u.names.ss (i:=0) (s:=n) (by rw[y];rfl);have T:decide ((0:Int)<(tm.names.length:Int))=true:=by rw[hn];simp
  have hgn:ZQ s.files n≠none:=hf n (by rw[y];simp);obtain⟨f,ak⟩:=Option.ne_none_iff_exists'.1 hgn
  have ah:s.remove n=(0,{ s with files:=Vc s.files n }):=by
   unfold Sto.remove;rw[JJ hc h0,if_neg (by simp[hc]),ak]
  obtain⟨H1,X,r1,K⟩:=Zhn h2 hk n;rw[ah]at r1 K;have aq:=SysAt.store (o:=o) (tm:=tm) ⟨j,D,z,sl,u,rfl⟩ Y K;have ai:TmAt H1 o t j D z sl tm:=u.frame fun a ha=>K.stp.at' a (u.lt a ha) (Y a ha);obtain⟨H2,F,I,q1,q2,q3,q4,_⟩:=Zi0 ai hm n (by rw[y];simp);have am:Wp n tm.names=ns:=by rw[y]at hnd ⊢;exact ZqX hnd
  rw[am]at q2;have M:=K.at'.lt
  have O:∀ a∈o::j::ZG z,a∉X:=fun a ha hs=>by
   rcases K.own a hs with C|C
   ·exact Y a ha C
   ·have:=u.lt a ha;omega
  have U:StoreAt H2 t { s with files:=Vc s.files n } X:=K.at'.stp q3 fun a ha hx=>O a hx ha;have ay:=q3.len
  have aj:∀ a∈o::j::ZG F,a∉X:=fun a ha hs=>by
   rcases zC.1 ha with e|ha
   ·exact O a (by simp[e]) hs
   rcases zC.1 ha with e|ha
   ·exact O a (by simp[e]) hs
   ·have:=q4 a ha;have:=M a hs;omega
  have V:SysAt H2 o t { tm with names:=ns,sld:=I.map (·.1) } { s with files:=Vc s.files n } ((o::j::ZG F)++X):=⟨_,X,⟨j,D,F,I,q2,rfl⟩,U,aj,rfl⟩;have hlen:=hm.len;have hnl:ns.length=k:=by rw[y]at hn;simpa using hn
  have an:TmpOk { tm with names:=ns,sld:=I.map (·.1) }:=⟨hm.owner,hm.limit,by show ns.length<=tm.last;omega,hm.last⟩;have af:ns.Nodup:=by rw[y]at hnd;exact (zU.1 hnd).2
  obtain⟨H3,A3,ar,s3,m1,m2,m3,m4,m5,m6,m7,m8⟩:=ih { tm with names:=ns,sld:=I.map (·.1) } { s with files:=Vc s.files n } _ H2 hnl V an (ZAr hk n) hc h0 af (fun m ac=>by
   have ao:m≠n:=fun e=>by rw[y]at hnd;exact (zU.1 hnd).1 (e ▸ ac)
   show ZQ (Vc s.files n) m≠none;rw[ZA3 ao];exact hf m (by rw[y];simp[ac])) hcl
  have ax:=K.stp.len
  have E:∀ a∈(o::j::ZG F)++X,a∈(o::j::ZG z)++S\/H.length<=a:=fun a ha=>by
   rcases zB.1 ha with C|C
   ·rcases zC.1 C with e|C
    ·exact .inl (by simp[e])
    rcases zC.1 C with e|C
    ·exact .inl (by simp[e])
    ·have:=q4 a C;exact .inr (by omega)
   ·rcases K.own a C with k2|k2
    ·exact .inl (by simp[k2])
    ·exact .inr k2
  have aa:Stp ((o::j::ZG z)++S) H H2:=aq.stp.trans q3 (fun _ h=>h) fun a ha=>.inl (zZ _ ha);have e0:((0:Int) != 0)=false:=rfl;refine⟨H3,A3,ar,s3,?_,⟨m2.at',aa.trans m2.stp (fun _ h=>h) E,fun a ha=>?_⟩,m3,m4,m5,m6,m7,by rw[m8,y];rfl⟩
  ·have ab:Zn 1 z (.int .i64 0)=some (.vp [.str n]):=al;rw[JW];simp only[go_sem,zI,l2,Q,T,Mz,ab,ZE,l0,r1,e0,MA,q1];exact m1
  ·rcases m2.own a ha with C|C
   ·exact E a C
   ·have:=aa.len;exact .inr (by omega)
theorem Zs5 {o t:Nat}{tm:Tmp}{s:Sto}{A:List Nat}{H:Hp}(h:SysAt H o t tm s A)(hm:TmpOk tm)(hk:StoOk s)(hc:s.crashed=false)(h0:s.count=0)(hnd:tm.names.Nodup)(C:∀ n∈tm.names,ZQ s.files n≠none)(hcl:tm.closed=false) :
 ∃ H' A' j s',WZ [.ptr o 0] H=some (.int .i64 0,H')/\SysRes H H' o t j s' A A'/\TmpOk j/\StoOk s'/\j.closed=true/\s'.crashed=false/\s'.count=0/\s'={ s with files:=tm.names.foldl Vc s.files }:=by
 obtain⟨H',A',j,s',m⟩:=Zqg (o:=o) (t:=t) H tm.names.length tm s A H rfl h hm hk hc h0 hnd C hcl;refine⟨H',A',j,s',?_,m.2⟩;obtain⟨B,S,⟨I,y,J,sl,z,rfl⟩,E,F,rfl⟩:=h;have u:Ys (.pointer 124) .eql (.ptr o 0) .nilp=some (.bool false):=rfl;have D:=ZW z.cells 6 (v:=.bool false) (by rw[hcl];rfl);rw[Lf];unfold D9;simp only[u,go_sem,Mw,zI,D,Mx];exact m.1
theorem Zpx {H:Hp}{o t:Nat}{tm:Tmp}{s:Sto}{A:List Nat}(h:SysAt H o t tm s A)(hm:TmpOk tm)(hk:StoOk s)(hc:s.crashed=false)(h0:s.count=0){n:Zo}(hf:Yg tm n=0)(W:tm.names≠[]){f:Fil}(hg:ZQ s.files n=some f) :
 ∃ H' A' sl,UG [.ptr o 0,.str n] H=some (.int .i64 0,H')/\SysRes H H' o t { tm with names:=Wp n tm.names,sld:=sl } { s with files:=Vc s.files n } A A'/\(∀ x∈sl,x∈tm.sld):=by
 obtain⟨B,S,⟨I,u,Y,sl,y,rfl⟩,h2,Q,rfl⟩:=h;have U:=EU y hm n;have e0:(Yg tm n != 0)=false:=by rw[hf];rfl
 have ez:((0:Int) != 0)=false:=rfl;have l0:=ZW y.cells 0 (v:=.ptr t 0) rfl
 have K:s.remove n=(0,{ s with files:=Vc s.files n }):=by
  unfold Sto.remove;rw[JJ hc h0,if_neg (by simp[hc]),hg]
 obtain⟨H1,J,r1,j⟩:=Zhn h2 hk n;rw[K]at r1 j;have X:=SysAt.store (o:=o) (tm:=tm) ⟨I,u,Y,sl,y,rfl⟩ Q j;have O:TmAt H1 o t I u Y sl tm:=y.frame fun a ha=>j.stp.at' a (y.lt a ha) (Q a ha);obtain⟨Z,E,M,q1,q2,q3,q4,q5⟩:=Zi0 O hm n W;have z:=j.at'.lt
 have C:∀ a∈o::I::ZG Y,a∉J:=fun a ha hs=>by
  rcases j.own a hs with F|F
  ·exact Q a ha F
  ·have:=y.lt a ha;omega
 have D:StoreAt Z t { s with files:=Vc s.files n } J:=j.at'.stp q3 fun a ha hx=>C a hx ha
 have T:∀ a∈o::I::ZG E,a∉J:=fun a ha hs=>by
  rcases zC.1 ha with e|ha
  ·exact C a (by simp[e]) hs
  rcases zC.1 ha with e|ha
  ·exact C a (by simp[e]) hs
  ·have:=q4 a ha;have:=z a hs;omega
 have V:=j.stp.len;have aa:H.length<=H1.length:=V;refine⟨Z,(o::I::ZG E)++J,M.map (·.1),?_,⟨⟨_,J,⟨I,u,E,M,q2,rfl⟩,D,T,rfl⟩,X.stp.trans q3 (fun _ h=>h) fun a ha=>.inl (zZ _ ha),fun a ha=>?_⟩,fun x hx=>by rw[<-y.sld];exact q5 x hx⟩
 ·rw[M0];unfold GR;simp only[U,go_sem,e0,NR,zI,l0,r1,ez,NS,q1]
 ·rcases zB.1 ha with k|k
  ·rcases zC.1 k with e|k
   ·exact .inl (by simp[e])
   rcases zC.1 k with e|k
   ·exact .inl (by simp[e])
   ·have:=q4 a k;exact .inr (by omega)
  ·rcases j.own a k with F|F
   ·exact .inl (zY _ F)
   ·exact .inr F
def Zgw:Zo:=[115,111,114,116]
def Y4 (i:Nat):Zo:=U5 Zgw i
theorem ZzU:((xS 128).all fun i=>F5 (Y4 (i+1)))=true:=by kernel_rfl
theorem ZzT:((xS 128).all fun i=>(xS 128).all fun j=>i==j || !(Y4 (i+1)==Y4 (j+1)))=true:=by kernel_rfl
theorem Zpa {i j:Nat}(hi:1<=i/\i<=128)(u:1<=j/\j<=128)(h:Y4 i=Y4 j):i=j:=by
 have:=Va (Va ZzT (i:=i-1) (by omega)) (i:=j-1) (by omega);rw[show i-1+1=i by omega,show j-1+1=j by omega,h]at this;simp only[beq_self_eq_true,yE,Bool.or_false,beq_iff_eq]at this;omega
theorem Zkq {i:Nat}(hi:1<=i/\i<=128):F5 (Y4 i)=true:=by
 have:=Va ZzU (i:=i-1) (by omega)
 rwa [show i-1+1=i by omega]at this
def JU (L:Loc)(lx c e:AV)(p:Spec)(xp:AV)(ok:Bool)(rx:AV)(last:Zo)(has:Bool):List AV:=L.cells lx c e++p.cells xp++[.bool ok,rx,.str last,.bool has]
def Uw (L:Loc)(p:Spec)(a b:Zg):Bool:=(ZI p==0)&&decide (ZL L p a b<0)
section
variable {H:Hp}{g b:Nat}{L:Loc}{lx c e:AV}{p:Spec}{xp:AV}{rx:AV}{last:Zo}{has ok:Bool}
theorem ZmR (hg:H[g]?=some (.cells (JU L lx c e p xp ok rx last has))):Z3 true 6 (.ptr g 0) H=some (.agg (L.cells lx c e)):=by
 rw[YE hg];simp[Go.Am.apart,JU,Loc.cells]
theorem ZjA (hg:H[g]?=some (.cells (JU L lx c e p xp ok rx last has))):Z3 true 5 (.ptr g 6) H=some (.agg (p.cells xp)):=by
 rw[YE hg];simp[Go.Am.apart,JU,Loc.cells,Spec.cells]
variable (hg:H[g]?=some (.cells (JU L lx c e p xp (ZI p==0) rx last has)))(hb:H[b]?=some (.cells [.ptr g 0]))
 (hl:LocAV (.agg (L.cells lx c e)) L) (hok:LocOk L) (hs:SpecAV (.agg (p.cells xp)) p) (hks:∀ k∈p.keys,KeOk k)
include hg hb hl hok hs hks
theorem ZwI (x y:Zg)(hx:x.length<=1048576)(D:y.length<=1048576):QE [.str x,.str y,.ptr b 0] H=some (.bool (Uw L p x y),H):=by
 have z:=ZW hb 0 (v:=.ptr g 0) rfl;have j:=ZW hg 11 (v:=.bool (ZI p==0)) rfl;have C:=Zap hl hok hs hks x y hx D H;rw[Ee];unfold FJ Uw
 cases u:ZI p==0 with
 |false=>rw[u]at j;simp only[z,go_sem,zI,j];rfl
 |true=>rw[u]at j;simp only[z,go_sem,zI,j,ZmR hg,ZjA hg,C];rfl
end
theorem Zsh (p:AV)(a c:AV)(H:Hp):Yd cfg (Z9 cfg) (.fn (.func 128) [] [p]) [a,c] H=QE [a,c,p] H:=by kernel_rfl
def KW (lt:Zg->Zg->Bool)(i:Nat)(x:List Zg)(b:Option (Nat×Zg)):Option (Nat×Zg):=match x with
 |[]=>b
 |a::_=>match b with
  |none=>some (i,a)
  |some (j,c)=>if lt a c then some (i,a) else some (j,c)
def RG (lt:Zg->Zg->Bool):List (List Zg)->Nat->Option (Nat×Zg)->Option (Nat×Zg)
 |[],_,b=>b
 |x::r,i,b=>RG lt r (i+1) (KW lt i x b)
def Kj:Option (Nat×Zg)->List AV
 |none=>[.str [],.int .i64 0,.bool false]
 |some (k,a)=>[.str a,.int .i64 (k:Int),.bool true]
theorem Zu6 {H:Hp}{w:Nat}{lt:Zg->Zg->Bool}{o:Option (Nat×Zg)}{fv:AV}(hw:H[w]?=some (.cells (Kj o)))(a:Zg)(i:Nat)(r:List Zg)
 (z:∀ k c,o=some (k,c)->Yd cfg (Z9 cfg) fv [.str a,.str c] H=some (.bool (lt a c),H)) :
 ∃ H',WT [.ptr w 0,.int .i64 (i:Int),.str a,fv] H=some (.tuple [],H')/\Stp [w] H H'/\H'[w]?=some (.cells (Kj (KW lt i (a::r) o))):=by
 have j:(X5 [(0,1,.str a),(1,1,.int .i64 (i:Int)),(2,1,.bool true)] [(.str []),(.int .i64 0),(.bool false)]).map xZ=some (.agg [.str a,.int .i64 (i:Int),.bool true]):=rfl
 have C:∀ u:Option (Nat×Zg),H[w]?=some (.cells (Kj u))->Zf 3 (.ptr w 0) (.agg [.str a,.int .i64 (i:Int),.bool true]) H=some (.tuple [],H.set w (.cells [.str a,.int .i64 (i:Int),.bool true])):=fun u h=>by
  have hlen:(Kj u).length=3:=by rcases u with _|⟨k,c⟩ <;> rfl
  refine (VU (v:=.agg [.str a,.int .i64 (i:Int),.bool true]) h rfl rfl (by rw[hlen];show 0+3<=3;omega)).trans ?_
  have:splice (Kj u) 0 [zO a,.int .i64 (i:Int),.bool true]=[zO a,.int .i64 (i:Int),.bool true]:=by
   rcases u with _|⟨k,c⟩ <;> rfl
  rw[show (xZ [.str a,.int .i64 (i:Int),.bool true]).cells=[zO a,.int .i64 (i:Int),.bool true] from rfl,this]
 have hs:=C o hw;have g:=Zt (zA [zO a,.int .i64 (i:Int),.bool true]) hw;rw[R9];unfold QG
 cases o with
 |none =>
  have y:=ZW hw 2 (v:=.bool false) rfl;exact⟨_,by simp only[go_sem,zI,y,yB,j,hs],Stp.set _ _ (by simp),g⟩
 |some q =>
  obtain⟨k,c⟩:=q;have y:=ZW hw 2 (v:=.bool true) rfl;have D:=ZW hw 0 (v:=.str c) rfl;have hc:=z k c rfl
  cases hb:lt a c with
  |true =>
   rw[hb]at hc;refine⟨_,by simp only[go_sem,zI,y,D,yE,hc,j,hs];rfl,Stp.set _ _ (by simp),?_⟩;rw[g];simp only[KW,hb,if_true,Kj]
  |false =>
   rw[hb]at hc;refine⟨H,by simp only[go_sem,zI,y,D,yE,hc],Stp.refl _ _,?_⟩;rw[hw];simp only[KW,hb,yK,if_false]
structure Rd where
 r:Nat
 n:Zo
 text:Zo
 rest:List Zo
structure RdAt (H:Hp)(o:Nat)(tm:Tmp)(s:Sto)(A:List Nat)(d:Rd):Prop where
 rdr:Rdr H d.r o d.n d.text d.rest
 out:d.r∉A
 fit:YZ d.rest=true
 len:d.text.length<=262144
 file:(Yg tm d.n=0/\∃ f,ZQ s.files d.n=some f/\f.text=d.text)\/(Yg tm d.n=5/\d.rest=[])
theorem RdAt.frame {H H':Hp}{o:Nat}{tm:Tmp}{s:Sto}{A:List Nat}{d:Rd}(h:RdAt H o tm s A d)(j:H'[d.r]?=H[d.r]?):RdAt H' o tm s A d:=⟨h.rdr.frame j,h.out,h.fit,h.len,h.file⟩
theorem RdAt.lt {H:Hp}{o:Nat}{tm:Tmp}{s:Sto}{A:List Nat}{d:Rd}(h:RdAt H o tm s A d):d.r<H.length:=by
 obtain⟨c,hc⟩:=h.rdr.cells;exact Zh hc
section
variable {H:Hp}{o t:Nat}{tm:Tmp}{s:Sto}{A:List Nat}(h:SysAt H o t tm s A)(hm:TmpOk tm)(hk:StoOk s)(hc:s.crashed=false)(h0:s.count=0){d:Rd}(hd:RdAt H o tm s A d)
include h hm hk hc h0 hd
theorem ZjQ:∃ H',V8 [.ptr d.r 0] H=some (.tuple [.str (d.rest.headD []),.bool (!d.rest.isEmpty),.int .i64 0],H')/\SysAt H' o t tm s A/\Stp (d.r::A) H H'/\RdAt H' o tm s A d /\
 (d.rest=[]/\(∃ p,H'[d.r]?=some (.cells (VX o d.n p false true [])))\/∃ l q p,H'[d.r]?=some (.cells (VX o d.n (p++YV l).length true false l))/\d.rest=l::q/\d.text=p++YV l++ZP q):=by
 have u:=hd.file;rcases hd.file with ⟨E,f,y,F⟩|⟨E,y⟩
 ·have j:=hd.rdr;rw[<-F]at j;obtain⟨H1,I,Z,q3,Q⟩:=Zv0 h hm hk j hd.out E hc h0 y hd.fit (by rw[F];exact hd.len);refine⟨H1,I,Z,q3,⟨?_,hd.out,hd.fit,hd.len,u⟩,?_⟩
  ·rcases Q with ⟨e,p,g⟩|⟨l,q,p,g,e,D⟩
   ·exact .inr (.inl ⟨e,p,g⟩)
   ·exact .inl ⟨l,q,p,g,e,by rw[<-F];exact D⟩
  ·rw[<-F];exact Q
 ·have z:Ys (.pointer 150) .eql (.ptr d.r 0) .nilp=some (.bool false):=rfl;rw[FK];unfold KS;have U:=hd.rdr;rcases hd.rdr with ⟨l,q,p,j,e,D⟩|⟨_,p,j⟩|⟨p,j,D⟩
  ·rw[y]at e;cases e
  ·have M:=ZW j 3 (v:=.bool false) rfl;have O:=ZW j 4 (v:=.bool true) rfl;refine⟨H,?_,h,Stp.refl _ _,hd,.inl ⟨y,p,j⟩⟩;rw[y];simp only[go_sem,zI,z,X7,M,O,yE,yB,X8];rfl
  ·have M:=ZW j 3 (v:=.bool false) rfl;have O:=ZW j 4 (v:=.bool false) rfl;have W:=ZW j 0 (v:=.ptr o 0) rfl;have X:=ZW j 1 (v:=.str d.n) rfl;have Y:=ZW j 2 (v:=.int .i64 (p.length:Int)) rfl;have I:=Zsa h hm hk d.n (by rw[E];decide) (p.length:Int);rw[E]at I;have T:((5:Int)==0)=false:=rfl;have J:((5:Int)==5)=true:=rfl;have s4:=Qb j 4 (v:=.bool true) rfl rfl (by simp);have K:=Zt (zA (zS (VX o d.n p.length false false []) 4 (.bool true))) j;have V:=ZW K 3 (v:=.bool false) rfl;refine⟨H.set d.r (.cells (zS (VX o d.n p.length false false []) 4 (.bool true))),?_,h.stp (C:=[d.r]) (Stp.set _ _ (by simp)) (fun a ha=>by simp;exact fun e=>hd.out (e ▸ ha)),Stp.set _ _ (by simp),⟨.inr (.inl ⟨y,p.length,K⟩),hd.out,hd.fit,hd.len,u⟩,.inl ⟨y,p.length,K⟩⟩;rw[y];simp only[go_sem,zI,z,X7,M,O,W,X,Y,I,zF,zG,T,J,s4,X8,V,yB];rfl
theorem Zs7:∃ H',KM [.ptr d.r 0] H=some (.tuple [.str (d.rest.headD []),.bool (!d.rest.isEmpty),.int .i64 0],H')/\SysAt H' o t tm s A/\Stp (d.r::A) H H'/\RdAt H' o tm s A { d with rest:=d.rest.tail }:=by
 obtain⟨H1,z,M,O,W,V⟩:=ZjQ h hm hk hc h0 hd
 have j:YZ d.rest.tail=true:=by
  have:=hd.fit
  cases U:d.rest with
  |nil=>rfl
  |cons a b =>
   rw[U]at this;simp only[YZ,xM,xD]at this;exact this.2
 have hfl:(Yg tm d.n=0/\∃ f,ZQ s.files d.n=some f/\f.text=d.text)\/(Yg tm d.n=5/\d.rest.tail=[]):=hd.file.imp id fun⟨a,b⟩=>⟨a,by rw[b];rfl⟩;rw[Ii];unfold Ng;rcases V with ⟨e,p,y⟩|⟨l,q,p,y,e,F⟩
 ·refine⟨H1,?_,M,O,⟨.inr (.inl ⟨by show d.rest.tail=[];rw[e];rfl,p,y⟩),hd.out,j,hd.len,hfl⟩⟩;rw[e]at z ⊢;simp only[z,go_sem,zF,zG,xP,yE,DD]
 ·have Q:=Qb y 3 (v:=.bool false) rfl rfl (by simp);have K:=Zt (zA (zS (VX o d.n (p++YV l).length true false l) 3 (.bool false))) y;have I:=Qb K 5 (v:=.str []) rfl rfl (by simp);have C:=Zt (zA (zS (zS (VX o d.n (p++YV l).length true false l) 3 (.bool false)) 5 (.str []))) K;generalize D:H1.set d.r (.cells (zS (VX o d.n (p++YV l).length true false l) 3 (.bool false)))=T at Q I C;generalize E:T.set d.r (.cells (zS (zS (VX o d.n (p++YV l).length true false l) 3 (.bool false)) 5 (.str [])))=J at I C
  have u:Stp [d.r] H1 J:=by
   rw[<-E,<-D];exact (Stp.set _ _ (by simp)).trans (Stp.set _ _ (by simp)) (fun _ h=>h) fun _ h=>.inl h
  refine⟨J,?_,M.stp u (fun a ha=>by simp;exact fun e=>hd.out (e ▸ ha)),O.trans (u.mono (B:=d.r::A) fun a ha=>by rw[zD.1 ha];simp) (fun _ h=>h) (fun _ h=>.inl h),⟨.inr (.inr ⟨p++YV l,C,by show d.text=_++ZP d.rest.tail;rw[e];exact F⟩),hd.out,j,hd.len,hfl⟩⟩;rw[e]at z ⊢;simp only[z,go_sem,zF,zG,xO,yB,xG,zI,Q,I,DD]
end
def rdV (d:Rd):AV:=.ptr d.r 0
section
variable {o t g b w:Nat}{tm:Tmp}{s:Sto}{A:List Nat}{L:Loc}{lx c e:AV}{p:Spec}{xp:AV}{rx:AV}{last:Zo}{has:Bool}{ds:List Rd}{N:Nat}
 (hm:TmpOk tm) (hk:StoOk s) (hc:s.crashed=false) (h0:s.count=0)
 (hl:LocAV (.agg (L.cells lx c e)) L) (hok:LocOk L) (hs:SpecAV (.agg (p.cells xp)) p) (hks:∀ k∈p.keys,KeOk k)
 (hrx:Sl 1 rx (ds.map rdV)) (hnd:(ds.map Rd.r).Nodup) (hlen:ds.length<=1048576)
 (hgA:g∉A) (hbA:b∉A) (hwA:w∉A) (hgd:g∉ds.map Rd.r) (hbd:b∉ds.map Rd.r) (hwd:w∉ds.map Rd.r) (hgw:g≠w) (hbw:b≠w)
include hm hk hc h0 hl hok hs hks hrx hnd hlen hgA hbA hwA hgd hbd hwd hgw hbw
theorem ZuN (H0:Hp):∀ (q d:List Rd) (M:Option (Nat×Zg)) (H:Hp),ds=d++q->SysAt H o t tm s A->(∀ x∈ds,RdAt H o tm s A x)->(∀ k a,M=some (k,a)->a.length<=1048576) ->
 H[g]?=some (.cells (JU L lx c e p xp (ZI p==0) rx last has))->H[b]?=some (.cells [.ptr g 0])->H[w]?=some (.cells (Kj M)) ->
 ∃ H',VK (.ptr b 0) (.ptr w 0) (.fn (.func 128) [] [.ptr b 0]) (.int .i64 0) rx (.int .i64 (ds.length:Int)) (.int .i64 (d.length:Int)) H0 H=Wt (.ptr b 0) (.ptr w 0) (.int .i64 0) H0 H' /\
  SysAt H' o t tm s A/\Stp (w::ds.map Rd.r++A) H H'/\(∀ x∈ds,RdAt H' o tm s A x)/\H'[w]?=some (.cells (Kj (RG (Uw L p) (q.map Rd.rest) d.length M))):=by
 intro q
 induction q with
 |nil =>
  intro d M H hd D z ho hg hb hw;rw[zP]at hd;subst hd;have E:decide ((ds.length:Int)<(ds.length:Int))=false:=by simp
  refine⟨H,?_,D,Stp.refl _ _,z,hw⟩;rw[UJ];simp only[go_sem,E]
 |cons x q ih =>
  intro d M H hd D z ho hg hb hw;have ad:ds.length=d.length+(q.length+1):=by rw[hd];simp
  have E:decide ((d.length:Int)<(ds.length:Int))=true:=by rw[decide_eq_true_eq];omega
  have aa:wD.wrap ((d.length:Int)+1)=((d.length+1:Nat):Int):=by rw[Zr (by omega) (by omega)];omega
  have F:x∈ds:=by rw[hd];simp
  have ab:x.r∈ds.map Rd.r:=zK F;have ac:(ds.map rdV)[d.length]?=some (rdV x):=by rw[yI,hd,zH (zE _)];simp
  have I:Zn 1 rx (.int .i64 (d.length:Int))=some (.vp [.ptr x.r 0]):=Sl.idx hrx ac;obtain⟨H1,p1,p2,p3,p4,_⟩:=ZjQ D hm hk hc h0 (z x F)
  have keep:∀ a,a∉ds.map Rd.r->a∉A->∀ v,H[a]?=some v->H1[a]?=some v:=fun a h1 h2 v hv=>p3.get hv fun h=>by
   rcases zC.1 h with e|h
   ·exact h1 (e ▸ ab)
   ·exact h2 h
  have T:=keep g hgd hgA _ hg;have Q:=keep b hbd hbA _ hb;have J:=keep w hwd hwA _ hw
  have C:∀ y∈ds,RdAt H1 o tm s A y:=fun y K=>by
   by_cases e:y.r=x.r
   ·have:y=x:=by
     obtain⟨i,hi⟩:=yO K;obtain⟨j,hj⟩:=yO F;have h1:(ds.map Rd.r)[i]?=some x.r:=by rw[yI,hi,<-e];rfl
     have h2:(ds.map Rd.r)[j]?=some x.r:=by rw[yI,hj];rfl
     have:=(List.getElem?_inj (Zh h1) hnd).1 (h1.trans h2.symm);subst this;rw[hi]at hj;injection hj
    rw[this];exact p4
   ·exact (z y K).frame (p3.at' y.r (z y K).lt fun h=>by
     rcases zC.1 h with u|h
     ·exact e u
     ·exact (z y K).out h)
  have X:Stp (w::ds.map Rd.r++A) H H1:=p3.mono fun a ha=>by
   rcases zC.1 ha with u|h
   ·subst u;simp[ab]
   ·simp[h]
  have e0:((0:Int) != 0)=false:=rfl
  cases Y:x.rest with
  |nil =>
   rw[Y]at p1;obtain⟨V,m1,m2,m3,m4,m5⟩:=ih (d++[x]) M H1 (by rw[hd];simp) p2 C ho T Q J;rw[zJ,zX]at m1 m5;refine⟨V,?_,m2,X.trans m3 (fun _ h=>h) (fun _ h=>.inl h),m4,?_⟩
   ·rw[UJ];simp only[go_sem,E,Bk,I,ZE,p1,zF,zG,e0,xP,yE,Bm,Bl,aa];exact m1
   ·rw[zL,Y];exact m5
  |cons a rr =>
   rw[Y]at p1
   have O:a.length<=1048576:=by
    have:=(z x F).fit;rw[Y]at this;simp only[YZ,xM,xD,decide_eq_true_eq]at this;omega
   obtain⟨V,r1,r2,r3⟩:=Zu6 (lt:=Uw L p) (fv:=.fn (.func 128) [] [.ptr b 0]) J a d.length rr (fun k c' u=>by
    rw[Zsh];exact ZwI T Q hl hok hs hks a c' O (ho k c' u))
   have k2:∀ i,i≠w->∀ v,H1[i]?=some v->V[i]?=some v:=fun i hi v hv=>r2.get hv (by simpa using hi);have U:SysAt V o t tm s A:=p2.stp r2 fun i hi=>by simp;exact fun u=>hwA (u ▸ hi)
   have Z:∀ y∈ds,RdAt V o tm s A y:=fun y K=>(C y K).frame (r2.at' y.r (C y K).lt (by simp;exact fun u=>hwd (u ▸ zK K)))
   obtain⟨H3,m1,m2,m3,m4,m5⟩:=ih (d++[x]) (KW (Uw L p) d.length (a::rr) M) V (by rw[hd];simp) U Z (fun k c' u=>by
    unfold KW at u;rcases M with _|⟨j,c2⟩
    ·injection u with u;injection u with e1 W;subst W;exact O
    ·dsimp only at u;split at u
     ·injection u with u;injection u with e1 W;subst W;exact O
     ·injection u with u;injection u with e1 W;subst W;exact ho j _ rfl) (k2 g hgw _ T) (k2 b hbw _ Q) r3
   rw[zJ,zX]at m1 m5;refine⟨H3,?_,m2,(X.trans (r2.mono fun i hi=>by rw[zD.1 hi];simp) (fun _ h=>h) (fun _ h=>.inl h)).trans m3 (fun _ h=>h) (fun _ h=>.inl h),m4,?_⟩
   ·rw[UJ];simp only[go_sem,E,Bk,I,ZE,p1,zF,zG,e0,xO,yB,Bm,xG,r1,Bl,aa];exact m1
   ·rw[zL,Y];exact m5
end
theorem Zyb (lt:Zg->Zg->Bool):∀ (r P:List (List Zg)) (b:Option (Nat×Zg)),(∀ k a,b=some (k,a)->∃ t,P[k]?=some (a::t))->∀ k a,RG lt r P.length b=some (k,a)->∃ t,(P++r)[k]?=some (a::t):=by
 intro r
 induction r with
 |nil=>intro P b h k a e;rw[zP];exact h k a e
 |cons x r C =>
  intro P b h k a e
  have:=C (P++[x]) (KW lt P.length x b) (fun k a e=>by
   have old:∀ k a,b=some (k,a)->∃ t,(P++[x])[k]?=some (a::t):=fun k a e=>by
    obtain⟨t,z⟩:=h k a e;exact⟨t,by rw[zW (Zh z)];exact z⟩
   have new:∀ c t,x=c::t->∃ t,(P++[x])[P.length]?=some (c::t):=fun c t e=>⟨t,by rw[zH (zE _)];simp[e]⟩
   cases x with
   |nil=>exact old k a e
   |cons c t =>
    cases b with
    |none=>injection e with e;injection e with u y;subst u y;exact new c t rfl
    |some q =>
     obtain⟨j,D⟩:=q;unfold KW at e;dsimp only at e;split at e
     ·injection e with e;injection e with u y;subst u y;exact new c t rfl
     ·exact old k a e) k a (by rw[zJ,zX];exact e)
  rwa [zT,yT]at this
section
variable {o t g:Nat}{tm:Tmp}{s:Sto}{A:List Nat}{L:Loc}{lx c e:AV}{p:Spec}{xp:AV}{rx:AV}{last:Zo}{has:Bool}{ds:List Rd}
 (hm:TmpOk tm) (hk:StoOk s) (hc:s.crashed=false) (h0:s.count=0)
 (hl:LocAV (.agg (L.cells lx c e)) L) (hok:LocOk L) (hs:SpecAV (.agg (p.cells xp)) p) (hks:∀ k∈p.keys,KeOk k)
 (hrx:Sl 1 rx (ds.map rdV)) (hnd:(ds.map Rd.r).Nodup) (hlen:ds.length<=1048576)
 (hgA:g∉A) (hgd:g∉ds.map Rd.r)
include hm hk hc h0 hl hok hs hks hrx hnd hlen hgA hgd
theorem Znr {H:Hp}(J:SysAt H o t tm s A)(O:∀ x∈ds,RdAt H o tm s A x)(hg:H[g]?=some (.cells (JU L lx c e p xp (ZI p==0) rx last has))) :
 ∃ H' res,Uo [.ptr g 0] H=some (res,H')/\SysAt H' o t tm s A/\Stp (ds.map Rd.r++A) H H' /\
  (RG (Uw L p) (ds.map Rd.rest) 0 none=none/\res=.tuple [.str [],.bool false,.int .i64 0]/\(∀ x∈ds,RdAt H' o tm s A x) \/
   ∃ P x Q a r,ds=P++x::Q/\x.rest=a::r/\RG (Uw L p) (ds.map Rd.rest) 0 none=some (P.length,a)/\res=.tuple [.str a,.bool true,.int .i64 0]/\∀ y∈P++{ x with rest:=r }::Q,RdAt H' o tm s A y):=by
 have an:=Zh hg
 have ah:∀ x∈ds.map Rd.r,x<H.length:=fun x hx=>by
  obtain⟨y,F,rfl⟩:=yD.1 hx;exact (O y F).lt
 have W:ZO (.ptr g 0) H=some (.ptr H.length 0,H++[.cells [.ptr g 0]]):=FS rfl;have al:(H++[zA [yR g 0]]).length=H.length+1:=by simp
 have gb:((H++[zA [yR g 0]])++[zA (Kj none)])[H.length]?=some (.cells [.ptr g 0]):=by simp
 have gw:((H++[zA [yR g 0]])++[zA (Kj none)])[H.length+1]?=some (.cells (Kj none)):=by
  rw[zH (by simp)];simp
 have E:Stp [] H ((H++[zA [yR g 0]])++[zA (Kj none)]):=by rw[zT];exact Stp.push _ _
 have K:=E.get hg (by simp);have T:=J.stp E (by simp);have aa:∀ x∈ds,RdAt ((H++[zA [yR g 0]])++[zA (Kj none)]) o tm s A x:=fun x hx=>(O x hx).frame (E.at' _ (O x hx).lt (by simp));have nA:∀ i,H.length<=i->i∉A:=fun i hi h=>by have:=J.lt i h;omega
 have nD:∀ i,H.length<=i->i∉ds.map Rd.r:=fun i hi h=>by have:=ah i h;omega
 obtain⟨H1,p1,p2,p3,p4,U⟩:=ZuN (b:=H.length) (w:=H.length+1) hm hk hc h0 hl hok hs hks hrx hnd hlen hgA (nA _ (zE _)) (nA _ (by omega)) hgd (nD _ (zE _)) (nD _ (by omega)) (by omega) (by omega) H ds [] none _ rfl T aa (fun _ _ h=>by cases h) K gb gw
 have ai:=p3.get K (fun h=>by
  rcases zC.1 h with I|h
  ·omega
  ·rcases zB.1 h with h|h
   ·exact hgd h
   ·exact hgA h)
 have af:=p3.get gb (fun h=>by
  rcases zC.1 h with I|h
  ·omega
  ·rcases zB.1 h with h|h
   ·exact nD _ (zE _) h
   ·exact nA _ (zE _) h)
 have V:Stp (ds.map Rd.r++A) H H1:=⟨xF E.len p3.len,fun a ha hn=>(p3.at' a (yZ ha E.len) (fun h=>by
  rcases zC.1 h with I|h
  ·omega
  ·exact hn h)).trans (E.at' a ha (by simp))⟩
 have l0:=ZW gb 0 (v:=.ptr g 0) rfl;have ad:=ZW K 12 (v:=rx) rfl;have Z:=Sl.len hrx 130;rw[zN]at Z;have lb:=ZW af 0 (v:=.ptr g 0) rfl;have ae:=ZW ai 12 (v:=rx) rfl;have e0:((0:Int) != 0)=false:=rfl
 have D:Uo [.ptr g 0] H=Wt (.ptr H.length 0) (.ptr (H.length+1) 0) (.int .i64 0) H H1:=by
  have ag:Kj none=[.str [],.int .i64 0,.bool false]:=rfl;rw[ag]at l0 ad p1;rw[Ae];unfold Tq;simp only[W,go_sem,al,l0,zI,ad,Z];exact p1
 rw[yW]at U
 cases j:RG (Uw L p) (ds.map Rd.rest) 0 none with
 |none =>
  rw[j]at U;have l2:=ZW U 2 (v:=.bool false) rfl;refine⟨H1,_,?_,p2,V,.inl ⟨rfl,rfl,p4⟩⟩;rw[D,Bj];simp only[go_sem,e0,zI,l2,yB]
 |some q =>
  obtain⟨k,a⟩:=q;obtain⟨r,M⟩:=Zyb (Uw L p) (ds.map Rd.rest) [] none (fun _ _ h=>by cases h) k a j;rw[yL,yI]at M
  obtain⟨x,hx,ac⟩:∃ x,ds[k]?=some x/\x.rest=a::r:=by
   cases Y:ds[k]? with
   |none=>rw[Y]at M;cases M
   |some x=>rw[Y]at M;injection M with M;exact⟨x,rfl,M⟩
  have hkl:=Zh hx
  have C:ds=ds.take k++x::ds.drop (k+1):=by
   have h1:=xC hkl;rw[hx]at h1;injection h1 with h1;rw[h1,<-List.drop_eq_getElem_cons hkl,List.take_append_drop]
  have ak:(ds.take k).length=k:=by rw[List.length_take];omega
  rw[j]at U;have l2:=ZW U 2 (v:=.bool true) rfl;have l1:=ZW U 1 (v:=.int .i64 (k:Int)) rfl;have ab:x∈ds:=yA hx;have aj:(ds.map rdV)[k]?=some (rdV x):=by rw[yI,hx];rfl
  have X:Zn 1 rx (.int .i64 (k:Int))=some (.vp [.ptr x.r 0]):=Sl.idx hrx aj;obtain⟨H2,n1,n2,n3,n4⟩:=Zs7 p2 hm hk hc h0 (p4 x ab);rw[ac]at n1 n4
  refine⟨H2,_,?_,n2,V.trans (n3.mono (B:=ds.map Rd.r++A) fun i hi=>by
   rcases zC.1 hi with I|hi
   ·subst I;exact zB.2 (.inl (zK ab))
   ·exact zB.2 (.inr hi)) (fun _ h=>h) (fun _ h=>.inl h),.inr ⟨ds.take k,x,ds.drop (k+1),a,r,C,ac,by rw[ak],rfl,fun y F=>?_⟩⟩
  ·rw[D,Bj];simp only[go_sem,e0,zI,l2,yE,Co,lb,ae,l1,X,ZE,n1,zF,zG,Cp,xG]
  ·have u:∀ z∈ds,z.r≠x.r->RdAt H2 o tm s A z:=fun z hz am=>(p4 z hz).frame (n3.at' z.r (p4 z hz).lt fun h=>by
    rcases zC.1 h with I|h
    ·exact am I
    ·exact (p4 z hz).out h)
   rw[C,yC,zL,xA,zU]at hnd;obtain⟨_,⟨d1,_⟩,d2⟩:=hnd;rcases zB.1 F with F|F
   ·exact u y (List.mem_of_mem_take F) (d2 y.r (zK F) x.r (by simp))
   ·rcases zC.1 F with I|F
    ·subst I;exact n4
    ·exact u y (List.mem_of_mem_drop F) fun I=>d1 (by rw[<-I];exact zK F)
end
def Y7:List Rd->Nat
 |[]=>0
 |d::r=>d.rest.length+Y7 r
theorem V7 (A B:List Rd):Y7 (A++B)=Y7 A+Y7 B:=by
 induction A with
 |nil=>simp[Y7]
 |cons x A j=>simp only[zR,Y7,j];omega
def Jz (L:Loc)(p:Spec)(last:Zo)(has:Bool)(a:Zg):Bool:=(has&&(ZI p==0)&&p.uniq)&&(XR L p last a==0)
inductive NextD (lt:Zg->Zg->Bool)(same:Zg->Bool):List Rd->Option Zg->List Rd->Prop
 |done {ds:List Rd} (h:RG lt (ds.map Rd.rest) 0 none=none):NextD lt same ds none ds
 |skip {P Q:List Rd} {x:Rd} {a:Zg} {r:List Zg} {z:Option Zg} {ds':List Rd} (hx:x.rest=a::r) (h:RG lt ((P++x::Q).map Rd.rest) 0 none=some (P.length,a)) (hs:same a=true) (k:NextD lt same (P++{ x with rest:=r }::Q) z ds'):NextD lt same (P++x::Q) z ds'
 |give {P Q:List Rd} {x:Rd} {a:Zg} {r:List Zg} (hx:x.rest=a::r) (h:RG lt ((P++x::Q).map Rd.rest) 0 none=some (P.length,a)) (hs:same a=false):NextD lt same (P++x::Q) (some a) (P++{ x with rest:=r }::Q)
section
variable {o t g:Nat}{tm:Tmp}{s:Sto}{A:List Nat}{L:Loc}{lx c e:AV}{p:Spec}{xp:AV}{rx:AV}{last:Zo}{has:Bool}{rs:List Nat}
 (hm:TmpOk tm) (hk:StoOk s) (hc:s.crashed=false) (h0:s.count=0)
 (hl:LocAV (.agg (L.cells lx c e)) L) (hok:LocOk L) (hs:SpecAV (.agg (p.cells xp)) p) (hks:∀ k∈p.keys,KeOk k)
 (hrx:Sl 1 rx (rs.map fun r=>yR r 0)) (hnd:rs.Nodup) (hlen:rs.length<=1048576)
 (hgA:g∉A) (hgd:g∉rs) (hlast:last.length<=1048576)
include hm hk hc h0 hl hok hs hks hrx hnd hlen hgA hgd hlast
theorem Zrd (H0:Hp):∀ (n:Nat) (ds:List Rd) (H:Hp),Y7 ds<=n->ds.map Rd.r=rs->SysAt H o t tm s A->(∀ x∈ds,RdAt H o tm s A x)->H[g]?=some (.cells (JU L lx c e p xp (ZI p==0) rx last has)) ->
 ∃ H' z D,Ws (.ptr g 0) H0 H=some (.tuple [.str (z.getD []),.bool z.isSome,.int .i64 0],H')/\NextD (Uw L p) (Jz L p last has) ds z D/\SysAt H' o t tm s A/\Stp (g::rs++A) H H'/\D.map Rd.r=rs/\(∀ x∈D,RdAt H' o tm s A x) /\
  H'[g]?=some (.cells (match z with|none=>JU L lx c e p xp (ZI p==0) rx last has|some a=>JU L lx c e p xp (ZI p==0) rx a true)):=by
 intro n
 induction n with
 |zero =>
  intro ds H hn u F K hg;have E:Sl 1 rx (ds.map rdV):=by rw[<-u,xX]at hrx;exact hrx
  obtain⟨H1,res,p1,p2,U,p4⟩:=Znr hm hk hc h0 hl hok hs hks E (by rw[u];exact hnd) (by rw[<-u,zN]at hlen;exact hlen) hgA (by rw[u];exact hgd) F K hg;rw[u]at U;rcases p4 with ⟨q1,rfl,X⟩|⟨P,x,Q,a,r,rfl,W,_⟩
  ·refine⟨H1,none,ds,?_,.done q1,p2,U.mono fun i hi=>by simp at hi ⊢;exact .inr hi,u,X,U.get hg fun h=>(zB.1 h).elim hgd hgA⟩;rw[WK];simp only[p1,go_sem,zF,zG,yB];rfl
  ·rw[V7,Y7,W,zM]at hn;omega
 |succ n ih =>
  intro ds H hn u F K hg;have E:Sl 1 rx (ds.map rdV):=by rw[<-u,xX]at hrx;exact hrx
  obtain⟨H1,res,p1,p2,U,p4⟩:=Znr hm hk hc h0 hl hok hs hks E (by rw[u];exact hnd) (by rw[<-u,zN]at hlen;exact hlen) hgA (by rw[u];exact hgd) F K hg;rw[u]at U;have j:=U.get hg fun h=>(zB.1 h).elim hgd hgA;have M:Stp (g::rs++A) H H1:=U.mono fun i hi=>by simp at hi ⊢;exact .inr hi
  rcases p4 with ⟨q1,rfl,X⟩|⟨P,x,Q,a,r,rfl,W,X,rfl,q5⟩
  ·refine⟨H1,none,ds,?_,.done q1,p2,M,u,X,j⟩;rw[WK];simp only[p1,go_sem,zF,zG,yB];rfl
  ·have ae:a.length<=1048576:=by
    have:=(K x (by simp)).fit;rw[W]at this;simp only[YZ,xM,xD,decide_eq_true_eq]at this;omega
   have T:(P++{ x with rest:=r }::Q).map Rd.r=rs:=by rw[<-u];simp
   have I:=ZW j 14 (v:=.bool has) rfl;have C:=ZW j 11 (v:=.bool (ZI p==0)) rfl;have l9:=ZW j 9 (v:=.bool p.uniq) rfl;have aa:=ZW j 13 (v:=.str last) rfl;have Z:=Hx hl hok hs hks last a hlast ae H1
   have J:Ju (.ptr g 0) (.str a) H0 H1=if Jz L p last has a then Ws (.ptr g 0) H0 H1 else Jv (.ptr g 0) (.str a) H0 H1:=by
    rw[Cl];unfold Jz
    cases has with
    |false=>simp only[go_sem,zI,yN,I,yM,yK,if_false]
    |true =>
     cases Y:ZI p==0 with
     |false =>
      rw[Y]at C;simp only[go_sem,zI,yN,I,C,xB,yM,yK,if_false]
     |true =>
      rw[Y]at C
      cases hu:p.uniq with
      |false =>
       rw[hu]at l9;simp only[go_sem,zI,yN,yU,I,C,l9,xB,yM,yK,if_false]
      |true =>
       rw[hu]at l9
       cases he:XR L p last a==0 with
       |true=>simp only[go_sem,zI,yN,yU,I,C,l9,aa,ZmR j,ZjA j,Z,he,xB,if_true]
       |false=>simp only[go_sem,zI,yN,yU,I,C,l9,aa,ZmR j,ZjA j,Z,he,xB,yK,if_false]
   cases hsm:Jz L p last has a with
   |true =>
    rw[hsm,if_pos rfl]at J
    obtain⟨H2,z,D,m1,m2,m3,m4,m5,m6,m7⟩:=ih (P++{ x with rest:=r }::Q) H1 (by
     rw[V7,Y7,W,zM]at hn;rw[V7,Y7];show Y7 P+(r.length+Y7 Q)<=n;omega) T p2 q5 j
    refine⟨H2,z,D,?_,.skip W X hsm m2,m3,M.trans m4 (fun _ h=>h) (fun _ h=>.inl h),m5,m6,m7⟩;rw[WK];simp only[p1,go_sem,zF,zG,yE,J];exact m1
   |false =>
    rw[hsm,if_neg (by simp)]at J;have ab:=Qb j 14 (v:=.bool true) rfl rfl (by simp[JU,Loc.cells,Spec.cells]);have g2:=Zt (zA (zS (JU L lx c e p xp (ZI p==0) rx last has) 14 (.bool true))) j;have V:=Qb g2 13 (v:=.str a) rfl rfl (by simp[JU,Loc.cells,Spec.cells]);have g3:=Zt (zA (zS (zS (JU L lx c e p xp (ZI p==0) rx last has) 14 (.bool true)) 13 (.str a))) g2;generalize ac:H1.set g (.cells (zS (JU L lx c e p xp (ZI p==0) rx last has) 14 (.bool true)))=H2 at ab g2 V g3;generalize ad:H2.set g (.cells (zS (zS (JU L lx c e p xp (ZI p==0) rx last has) 14 (.bool true)) 13 (.str a)))=H3 at V g3
    have O:Stp [g] H1 H3:=by
     rw[<-ad,<-ac];exact (Stp.set _ _ (by simp)).trans (Stp.set _ _ (by simp)) (fun _ h=>h) fun _ h=>.inl h
    refine⟨H3,some a,_,?_,.give W X hsm,p2.stp O (fun i hi=>by simp;exact fun e'=>hgA (e' ▸ hi)),M.trans (O.mono (B:=g::rs++A) fun i hi=>by rw[zD.1 hi];simp) (fun _ h=>h) (fun _ h=>.inl h),T,fun y hy=>(q5 y hy).frame (O.at' y.r (q5 y hy).lt (by
     have:y.r∈rs:=by rw[<-T];exact zK hy
     simp;exact fun e'=>hgd (e' ▸ this))),g3⟩
    rw[WK];simp only[p1,go_sem,zF,zG,yE,J,Cn,zI,ab,V];rfl
end
theorem Ns {k bytes:Nat}{x:AV}{l:List AV}(h:Sl k x l)(hl:l.length<=1048576)(hb:bytes<=64)(H:Hp) :
 ∃ j T,Ym k bytes .nils x H=some (j,H++T)/\Sl k j l/\j.cells=[j]/\j.known=true:=by
 have u:elems k x H=some l:=by
  rcases h with ⟨rfl,rfl⟩|⟨tok,rfl⟩
  ·rfl
  ·simp[elems]
 unfold Ym;rw[u];by_cases hn:l=[]
 ·subst hn;exact⟨.nils,[],by simp[Yv],.inl ⟨rfl,rfl⟩,rfl,rfl⟩
 ·have y:YD l.length bytes=true:=by
   have:l.length*(bytes+1)<=1048576*65:=Nat.mul_le_mul hl (by omega);simp only[YD,decide_eq_true_eq];omega
  exact⟨.vs k (.own H.length l.length) l,[.tok l.length],by simp only[Yv,hn,if_false,y,if_true],.inr ⟨_,rfl⟩,rfl,rfl⟩
structure LocSm (L:Loc):Prop where
 w:L.w.length<=1048576
 cls:L.cls.length<=1048576
 els:L.els.length<=1048576
theorem ZnZ {a:AV}{L:Loc}(h:LocAV a L)(hsm:LocSm L)(H:Hp):∃ a',Ze Gf [a] H=some (a',H)/\LocAV a' L:=by
 obtain⟨a1,h1,h2⟩:=h.close [] 0 5;obtain⟨lx,c,e,rfl,ac,hc,he⟩:=h2
 suffices hs:∃ Z H1,Gf [.agg (L.cells lx c e)] []=some (Z,H1)/\LocAV Z L by
  obtain⟨Z,H1,U,r2⟩:=hs;obtain⟨a3,r3,V⟩:=r2.close H1 0 5;exact⟨a3,Pq (args':=[.agg (L.cells lx c e)]) (by simp[h1]) U r3,V⟩
 obtain⟨j,W,p1,p2,p3,p4⟩:=Ns ac (by rw[zN];exact hsm.w) (bytes:=8) (by omega) [zA (L.cells lx c e),.cells [(.str []),.nils,(.str []),(.str []),.nils,.nils]];have g0:([zA (L.cells lx c e),.cells [(.str []),.nils,(.str []),(.str []),.nils,.nils]]++W)[0]?=some (.cells (L.cells lx c e)):=by simp
 have E:([zA (L.cells lx c e),.cells [(.str []),.nils,(.str []),(.str []),.nils,.nils]]++W)[1]?=some (.cells [(.str []),.nils,(.str []),(.str []),.nils,.nils]):=by simp
 generalize ae:[zA (L.cells lx c e),.cells [(.str []),.nils,(.str []),(.str []),.nils,.nils]]++W=H1 at p1 g0 E;have s1:=Qb g0 1 (v:=j) p3 p4 (by simp[Loc.cells]);have g1:(H1.set 0 (.cells (L.cells j c e)))[0]?=some (.cells (L.cells j c e)):=Zt _ g0;have F:(H1.set 0 (.cells (L.cells j c e)))[1]?=some (.cells [(.str []),.nils,(.str []),(.str []),.nils,.nils]):=Yn _ (by decide) E;have O:Zf 1 (.ptr 0 1) j H1=some (.tuple [],H1.set 0 (.cells (L.cells j c e))):=s1;generalize af:H1.set 0 (.cells (L.cells j c e))=Q at O g1 F;obtain⟨c',X,q1,q2,q3,q4⟩:=Ns hc (by rw[zN];exact hsm.cls) (bytes:=48) (by omega) Q;have g2:(Q++X)[0]?=some (.cells (L.cells j c e)):=Yl g1 _;have I:(Q++X)[1]?=some (.cells [(.str []),.nils,(.str []),(.str []),.nils,.nils]):=Yl F _;generalize ag:Q++X=z at q1 g2 I;have s2:Zf 1 (.ptr 0 4) c' z=some (.tuple [],z.set 0 (.cells (L.cells j c' e))):=Qb g2 4 (v:=c') q3 q4 (by simp[Loc.cells]);have g3:(z.set 0 (.cells (L.cells j c' e)))[0]?=some (.cells (L.cells j c' e)):=Zt _ g2;have J:(z.set 0 (.cells (L.cells j c' e)))[1]?=some (.cells [(.str []),.nils,(.str []),(.str []),.nils,.nils]):=Yn _ (by decide) I;generalize ah:z.set 0 (.cells (L.cells j c' e))=T at s2 g3 J;obtain⟨u,Y,U,r2,r3,V⟩:=Ns he (by rw[zN];exact hsm.els) (bytes:=24) (by omega) T;have g4:(T++Y)[0]?=some (.cells (L.cells j c' e)):=Yl g3 _;have K:(T++Y)[1]?=some (.cells [(.str []),.nils,(.str []),(.str []),.nils,.nils]):=Yl J _;generalize ai:T++Y=C at U g4 K;have s3:Zf 1 (.ptr 0 5) u C=some (.tuple [],C.set 0 (.cells (L.cells j c' u))):=Qb g4 5 (v:=u) r3 V (by simp[Loc.cells]);have g5:(C.set 0 (.cells (L.cells j c' u)))[0]?=some (.cells (L.cells j c' u)):=Zt _ g4;have y:(C.set 0 (.cells (L.cells j c' u)))[1]?=some (.cells [(.str []),.nils,(.str []),(.str []),.nils,.nils]):=Yn _ (by decide) K;generalize aj:C.set 0 (.cells (L.cells j c' u))=D at s3 g5 y;have ab:Z3 true 6 (.ptr 0 0) D=some (.agg (L.cells j c' u)):=by rw[YE g5];simp[Go.Am.apart,Loc.cells]
 have ad:Zf 6 (.ptr 1 0) (.agg (L.cells j c' u)) D=some (.tuple [],D.set 1 (.cells (L.cells j c' u))):=by
  have aa:(xZ (L.cells j c' u)).known=true:=by simp[AV.known,Loc.cells,p4,q4,V]
  refine (VU (v:=.agg (L.cells j c' u)) y aa rfl (by show 0+6<=6;omega)).trans ?_;rfl
 have g6:=Zt (zA (L.cells j c' u)) y;have M:Z3 true 6 (.ptr 1 0) (D.set 1 (.cells (L.cells j c' u)))=some (.agg (L.cells j c' u)):=by rw[YE g6];simp[Go.Am.apart,Loc.cells]
 have la:=ZW (show ([zA (L.cells lx c e),.cells [(.str []),.nils,(.str []),(.str []),.nils,.nils]])[0]?=some (.cells (L.cells lx c e)) from rfl) 1 (v:=lx) rfl;have lb:=ZW g1 4 (v:=c) rfl;have lc:=ZW g3 5 (v:=e) rfl;refine⟨_,D.set 1 (.cells (L.cells j c' u)),?_,⟨j,c',u,rfl,p2,q2,r2⟩⟩;rw[ZeJ];unfold Ih;simp only[Yf,go_sem,yL,zR,yW,zM,zI,yN,la,p1,O,lb,q1,s2,lc,U,s3,ab,ad,M]
theorem Zlr {a q rx:AV}{L:Loc}{p:Spec}{rs:List Nat}(ha:LocAV a L)(hsm:LocSm L)(hq:SpecAV q p)(hkl:p.keys.length<=1048576)(hrx:Sl 1 rx (rs.map fun r=>yR r 0))(ab:rs.length<=1048576)(H:Hp) :
 ∃ H' g lx c e xp j,PY [a,q,rx] H=some (.ptr g 0,H')/\H'[g]?=some (.cells (JU L lx c e p xp (ZI p==0) j [] false))/\LocAV (.agg (L.cells lx c e)) L/\SpecAV (.agg (p.cells xp)) p/\Sl 1 j (rs.map fun r=>yR r 0)/\Stp [] H H'/\H.length<=g:=by
 have aj:=ha;obtain⟨lx,c,e,rfl,aa,hc,he⟩:=ha;obtain⟨xp,rfl,ae⟩:=hq;have Y:(H++[zA (L.cells lx c e)]).length=H.length+1:=by simp
 have g1:((H++[zA (L.cells lx c e)])++[zA (p.cells xp)])[H.length]?=some (.cells (L.cells lx c e)):=by simp
 have g2:((H++[zA (L.cells lx c e)])++[zA (p.cells xp)])[H.length+1]?=some (.cells (p.cells xp)):=by
  rw[zH (by simp)];simp
 have l0:=ZW g2 0 (v:=xp) rfl;obtain⟨u,T,q1,q2,q3,q4⟩:=Ns ae (by rw[zN];exact hkl) (bytes:=40) (by omega) ((H++[zA (L.cells lx c e)])++[zA (p.cells xp)]);have g3:=Yl g1 T;have U:=Yl g2 T;have C:Stp [] H (((H++[zA (L.cells lx c e)])++[zA (p.cells xp)])++T):=by rw[zT,zT];exact Stp.push _ _
 generalize ag:((H++[zA (L.cells lx c e)])++[zA (p.cells xp)])++T=I at q1 g3 U C;have s0:Zf 1 (.ptr (H.length+1) 0) u I=some (.tuple [],I.set (H.length+1) (.cells (p.cells u))):=Qb U 0 (v:=u) q3 q4 (by simp[Spec.cells]);have g5:(I.set (H.length+1) (.cells (p.cells u)))[H.length]?=some (.cells (L.cells lx c e)):=Yn _ (by omega) g3;have g6:(I.set (H.length+1) (.cells (p.cells u)))[H.length+1]?=some (.cells (p.cells u)):=Zt _ U;have D:Stp [H.length+1] I (I.set (H.length+1) (.cells (p.cells u))):=Stp.set _ _ (by simp);generalize ah:I.set (H.length+1) (.cells (p.cells u))=M at s0 g5 g6 D;have O:=fun k=>IC g6 k;have g7:(M.set (H.length+1) .dead)[H.length]?=some (.cells (L.cells lx c e)):=Yn _ (by omega) g5;have E:Stp [H.length+1] M (M.set (H.length+1) .dead):=Stp.set _ _ (by simp);generalize ai:M.set (H.length+1) .dead=z at O g7 E;have Z:Z3 true 6 (.ptr H.length 0) z=some (.agg (L.cells lx c e)):=by rw[YE g7];simp[Go.Am.apart,Loc.cells]
 obtain⟨a',r1,y,c',K,rfl,r2,r3,r4⟩:=ZnZ (a:=.agg (L.cells lx c e)) ⟨lx,c,e,rfl,aa,hc,he⟩ hsm z;have F:SpecAV (.agg (p.cells u)) p:=⟨u,rfl,q2⟩;have ac:XE true 5 (.vp (p.cells u))=some (.agg (p.cells u)):=by simp[XE,Z3,Go.Am.apart,Spec.cells]
 have ad:Z3 true 5 (.vp (p.cells u)) z=some (.agg (p.cells u)):=Xl 5 (p.cells u) rfl z;have X:=Gl F z;obtain⟨j,Q,u1,u2,u3,u4⟩:=Ns hrx (by rw[zN];exact ab) (bytes:=8) (by omega) z
 have J:(X5 [(0,6,.agg (L.cells y c' K)),(6,5,.agg (p.cells u)),(11,1,.bool (ZI p==0)),(12,1,j)] [(.str []),.nils,(.str []),(.str []),.nils,.nils,.nils,(.int .i64 0),(.int .i64 0),(.bool false),(.bool false),(.bool false),.nils,(.str []),(.bool false)]).map xZ=some (.agg (JU L y c' K p u (ZI p==0) j [] false)):=by
  have h3:j.cells.length=1:=by rw[u3];rfl
  have hr:j=.nils\/∃ tok l,j=.vs 1 tok l:=by
   rcases u2 with ⟨h,_⟩|⟨tok,h⟩
   ·exact .inl h
   ·exact .inr ⟨tok,_,h⟩
  rcases hr with h|⟨tok,l,h⟩ <;> subst h <;> rfl
 have W:Stp [] H ((z++Q)++[.cells (JU L y c' K p u (ZI p==0) j [] false)]):=by
  have V:Stp [] H M:=⟨xF C.len D.len,fun i hi hn=>(D.at' i (yZ hi C.len) (by simp;omega)).trans (C.at' i hi hn)⟩;have h2:Stp [] H z:=⟨xF V.len E.len,fun i hi hn=>(E.at' i (yZ hi V.len) (by simp;omega)).trans (V.at' i hi hn)⟩;refine h2.trans (B:=[]) ?_ (fun _ h=>h) (fun _ h=>by cases h);rw[zT];exact Stp.push _ _
 have af:H.length<=z.length:=by
  have:=C.len;have:=D.len;have:=E.len;omega
 refine⟨(z++Q)++[.cells (JU L y c' K p u (ZI p==0) j [] false)],(z++Q).length,y,c',K,u,j,?_,by simp,⟨y,c',K,rfl,r2,r3,r4⟩,F,u2,W,by simp;omega⟩;rw[Zj3];unfold Zfk;simp only[Yf,go_sem,Y,zI,l0,q1,s0,O,Z,r1,ac,ad,X,u1,J]
theorem NextD.less {lt:Zg->Zg->Bool}{same:Zg->Bool}{ds j:List Rd}{z:Option Zg}(h:NextD lt same ds z j):Y7 j<=Y7 ds/\∀ a,z=some a->Y7 j<Y7 ds:=by
 induction h with
 |done h=>exact⟨zE _,fun a e=>by cases e⟩
 |skip hx h hs k C =>
  obtain⟨y,u⟩:=C;rw[V7,Y7]at y u ⊢;rw[hx,zM];dsimp only at y u;exact⟨by omega,fun a e=>by have:=u a e;omega⟩
 |give hx h hs =>
  rw[V7,Y7,V7,Y7,hx,zM];dsimp only;exact⟨by omega,fun a e=>by omega⟩
section
variable {o t g:Nat}{tm:Tmp}{s:Sto}{A:List Nat}{L:Loc}{lx c e:AV}{p:Spec}{xp:AV}{rx:AV}{last:Zo}{has:Bool}{rs:List Nat}
 (hm:TmpOk tm) (hk:StoOk s) (hc:s.crashed=false) (h0:s.count=0)
 (hl:LocAV (.agg (L.cells lx c e)) L) (hok:LocOk L) (hs:SpecAV (.agg (p.cells xp)) p) (hks:∀ k∈p.keys,KeOk k)
 (hrx:Sl 1 rx (rs.map fun r=>yR r 0)) (hnd:rs.Nodup) (hlen:rs.length<=1048576)
 (hgA:g∉A) (hgd:g∉rs) (hlast:last.length<=1048576)
include hm hk hc h0 hl hok hs hks hrx hnd hlen hgA hgd hlast
theorem CG {ds:List Rd}{H:Hp}(F:ds.map Rd.r=rs)(y:SysAt H o t tm s A)(C:∀ x∈ds,RdAt H o tm s A x)(hg:H[g]?=some (.cells (JU L lx c e p xp (ZI p==0) rx last has))) :
 ∃ H' z j,Un [.ptr g 0] H=some (.tuple [.str (z.getD []),.bool z.isSome,.int .i64 0],H')/\NextD (Uw L p) (Jz L p last has) ds z j/\SysAt H' o t tm s A/\Stp (g::rs++A) H H'/\j.map Rd.r=rs/\(∀ x∈j,RdAt H' o tm s A x) /\
  H'[g]?=some (.cells (match z with|none=>JU L lx c e p xp (ZI p==0) rx last has|some a=>JU L lx c e p xp (ZI p==0) rx a true)):=by
 have u:Ys (.pointer 153) .eql (.ptr g 0) .nilp=some (.bool false):=rfl;obtain⟨H',z,j,D,E⟩:=Zrd hm hk hc h0 hl hok hs hks hrx hnd hlen hgA hgd hlast H (Y7 ds) ds H (zE _) F y C hg;refine⟨H',z,j,?_,E⟩;rw[Ad];unfold Tp;simp only[u,go_sem,Cj];exact D
end
inductive AllD (L:Loc)(p:Spec):Zo->Bool->List Rd->List Zg->List Rd->Prop
 |done {last:Zo} {has:Bool} {ds ds':List Rd} (h:NextD (Uw L p) (Jz L p last has) ds none ds'):AllD L p last has ds [] ds'
 |more {last:Zo} {has:Bool} {ds ds' ds2:List Rd} {a:Zg} {out:List Zg} (h:NextD (Uw L p) (Jz L p last has) ds (some a) ds') (k:AllD L p a true ds' out ds2):AllD L p last has ds (a::out) ds2
theorem NextD.mem {lt:Zg->Zg->Bool}{same:Zg->Bool}{ds u:List Rd}{z:Option Zg}(h:NextD lt same ds z u):∀ a,z=some a->∃ x∈ds,a∈x.rest:=by
 induction h with
 |done h=>exact fun a e=>by cases e
 |@skip P Q x a r z u hx h hs k D =>
  intro b e;obtain⟨y,j,hb⟩:=D b e;rcases zB.1 j with j|j
  ·exact⟨y,by simp[j],hb⟩
  ·rcases zC.1 j with C|j
   ·subst C;exact⟨x,by simp,by rw[hx];exact xJ _ hb⟩
   ·exact⟨y,by simp[j],hb⟩
 |@give P Q x a r hx h hs =>
  intro b e;injection e with e;subst e;exact⟨x,by simp,by rw[hx];simp⟩
section
variable {o t g n N:Nat}{tm:Tmp}{s:Sto}{A:List Nat}{L:Loc}{lx c e:AV}{p:Spec}{xp:AV}{rx:AV}{rs:List Nat}
 (hm:TmpOk tm) (hk:StoOk s) (hc:s.crashed=false) (h0:s.count=0)
 (hl:LocAV (.agg (L.cells lx c e)) L) (hok:LocOk L) (hs:SpecAV (.agg (p.cells xp)) p) (hks:∀ k∈p.keys,KeOk k)
 (hrx:Sl 1 rx (rs.map fun r=>yR r 0)) (hnd:rs.Nodup) (hlen:rs.length<=1048576)
 (hgA:g∉A) (hgd:g∉rs) (hn:n<=65536) (hgN:g<N) (hrN:∀ r∈rs,r<N) (hAN:∀ a∈A,a<N)
include hm hk hc h0 hl hok hs hks hrx hnd hlen hgA hgd hn hgN hrN hAN
end
section
variable {α:Type}{f:α->α->Int}
def Strict (f:α->α->Int)(l:List α):Prop:=l.Pairwise fun a b=>f a b<0
theorem Strict.srt {l:List α}(h:Strict f l):Df f l:=List.Pairwise.imp (fun h=>by omega) h
variable (h:Cm f)
include h
theorem Zdd {x y z:α}(j:YP f x y=true)(u:YP f y z=true):YP f x z=true:=by
 rw[h.eqv_iff]at *;have a:=h.tr x y z (by omega) (by omega);have b:=h.tr2 x y z (by omega) (by omega);omega
theorem Zg6 {x y:α}(j:YP f x y=true):YP f y x=true:=by
 rw[h.eqv_iff]at *;have:=h.sym x y;omega
theorem Ze6 (out:List α)(x:α):Jy f out x=true↔∃ y,out.getLast?=some y/\f y x=0:=by
 unfold Jy
 cases out.getLast? with
 |none=>simp
 |some y=>simp
theorem Zku:∀ (l out:List α),Strict f out->(∀ a∈out,∀ b∈l,f a b<=0)->Df f l ->
 Strict f (VN f out l)/\∀ x,(VN f out l).filter (YP f x)=if out.filter (YP f x)=[] then (l.filter (YP f x)).take 1 else out.filter (YP f x):=by
 intro l
 induction l with
 |nil =>
  intro out hs _ _;refine⟨hs,fun x=>?_⟩;show out.filter (YP f x)=_;split
  ·rename_i h0;rw[h0];rfl
  ·rfl
 |cons a l Z =>
  intro out hs hc hl;have D:=yH.1 hl;unfold VN
  cases J:Jy f out a with
  |true =>
   obtain⟨y,hy,E⟩:=(Ze6 h out a).1 J;have F:y∈out:=xK hy;obtain⟨W,X⟩:=Z out hs (fun b hb c j=>hc b hb c (by simp[j])) D.2;refine⟨W,fun x=>?_⟩;rw[if_pos rfl,X];split
   ·rename_i h0
    have:YP f x a=false:=by
     cases u:YP f x a with
     |false=>rfl
     |true =>
      have K:YP f a y=true:=Zg6 h ((h.eqv_iff y a).2 E);have:=Zdd h u K;have hm:y∈out.filter (YP f x):=List.mem_filter.2 ⟨F,this⟩;rw[h0]at hm;cases hm
    rw[yF,this];rfl
   ·rfl
  |false =>
   have z:∀ b∈out,f b a<0:=fun b hb=>by
    cases hg:out.getLast? with
    |none=>rw[List.getLast?_eq_none_iff.1 hg]at hb;cases hb
    |some y =>
     have F:y∈out:=xK hg
     have E:f y a<0:=by
      have h1:=hc y F a (by simp)
      have Y:f y a≠0:=fun e=>by
       have:=(Ze6 h out a).2 ⟨y,hg,e⟩;rw[J]at this;cases this
      omega
     have M:f b y<=0:=by
      obtain⟨i,hi⟩:=yO hb;obtain⟨Q,I⟩:=yJ.1 hi;rw[List.getLast?_eq_getElem?]at hg;obtain⟨T,C⟩:=yJ.1 hg;by_cases O:i=out.length-1
      ·subst O;rw[I]at C;rw[C,h.self];exact wA _
      ·have:=List.pairwise_iff_getElem.1 hs i (out.length-1) Q T (by omega);rw[I,C]at this;omega
     exact h.le_lt M E
   have U:Strict f (out++[a]):=List.pairwise_append.2 ⟨hs,List.pairwise_singleton _ _,fun b hb c j=>by rw[zD.1 j];exact z b hb⟩
   obtain⟨W,X⟩:=Z (out++[a]) U (fun b hb c j=>by
    rcases zB.1 hb with hb|hb
    ·exact hc b hb c (by simp[j])
    ·rw[zD.1 hb];exact D.1 c j) D.2
   refine⟨by simpa using W,fun x=>?_⟩;rw[if_neg (by decide),X,zV]
   cases u:YP f x a with
   |false=>simp[yF,u]
   |true =>
    have h0:out.filter (YP f x)=[]:=by
     rw[xH];intro b hb V;have h1:=z b hb;have Y:=Zdd h (Zg6 h V) u;rw[h.eqv_iff]at Y;omega
    rw[h0];simp[yF,u]
end
section
variable {L:Loc}{p:Spec}(hv:ZI p=0)
include hv
theorem ZiQ:Zy p=p:=by
 unfold Zy;rw[if_neg (by simp[hv])]
theorem ZrI (l:List Zg):ZJ L p l=if p.uniq then VN (ZL L p) [] (Pz (ZL L p) l) else Pz (ZL L p) l:=by
 unfold ZJ;rw[if_neg (by simp[hv])]
 cases j:p.uniq with
 |false=>rfl
 |true =>
  have:XR L p=ZL L p:=funext fun a=>funext fun b=>(AM (by rw[ZiQ hv,j,xY]) a b).symm;rw[this]
theorem Sw (l:List Zg):Df (ZL L p) (ZJ L p l)/\(p.uniq=true->Strict (ZL L p) (ZJ L p l))/\∀ x,(ZJ L p l).filter (YP (ZL L p) x)=if p.uniq then (l.filter (YP (ZL L p) x)).take 1 else l.filter (YP (ZL L p) x):=by
 have hc:=HL L p;obtain⟨u,z⟩:=Zmu hc l [] List.Pairwise.nil
 have j:∀ x,(Pz (ZL L p) l).filter (YP (ZL L p) x)=l.filter (YP (ZL L p) x):=fun x=>by
  rw[show Pz (ZL L p) l=l.foldl (AF (ZL L p)) [] from rfl,z];rfl
 rw[ZrI hv]
 cases D:p.uniq with
 |false=>exact⟨u,fun h=>(by cases h),j⟩
 |true =>
  obtain⟨y,C⟩:=Zku hc (Pz (ZL L p) l) [] List.Pairwise.nil (fun a ha=>by cases ha) u;refine⟨y.srt,fun _=>y,fun x=>?_⟩;rw[if_pos rfl,if_pos rfl,C];show (if ([]:List Zg)=[] then _ else _)=_;rw[if_pos rfl,j]
end
section
variable {α:Type}{f:α->α->Int}
def YO (f:α->α->Int):List (List α)->Nat->Option (Nat×α)->Option (Nat×α)
 |[],_,b=>b
 |x::r,i,b=>YO f r (i+1) (match x with
  |[]=>b
  |a::_=>match b with
   |none=>some (i,a)
   |some (j,c)=>if 0<f c a then some (i,a) else some (j,c))
theorem Zaa (f:α->α->Int)(r:List (List α))(i:Nat)(b:Option (Nat×α)):YO f ([]::r) i b=YO f r (i+1) b:=(Eq.refl _).trans (Eq.refl _)
theorem AG (f:α->α->Int)(a:α)(t:List α)(r:List (List α))(i:Nat):YO f ((a::t)::r) i none=YO f r (i+1) (some (i,a)):=(Eq.refl _).trans (Eq.refl _)
theorem N8 (f:α->α->Int)(a:α)(t:List α)(r:List (List α))(i j:Nat)(c:α):YO f ((a::t)::r) i (some (j,c))=YO f r (i+1) (if 0<f c a then some (i,a) else some (j,c)):=(Eq.refl _).trans (Eq.refl _)
def XK (f:α->α->Int):Nat->List (List α)->List α
 |0,_=>[]
 |n+1,rest=>match YO f rest 0 none with
  |none=>[]
  |some (k,a)=>a::XK f n (rest.set k ((rest.getD k []).drop 1))
theorem N9 {f:α->α->Int}{n:Nat}{rest:List (List α)}(h:YO f rest 0 none=none):XK f (n+1) rest=[]:=by rw[XK,h]
theorem K5 {f:α->α->Int}{n:Nat}{rest:List (List α)}{k:Nat}{a:α}(h:YO f rest 0 none=some (k,a)):XK f (n+1) rest=a::XK f n (rest.set k ((rest.getD k []).drop 1)):=by rw[XK,h]
def Yr:List (List α)->Nat
 |[]=>0
 |x::r=>x.length+Yr r
theorem ZuR (A B:List (List α)):Yr (A++B)=Yr A+Yr B:=by
 induction A with
 |nil=>simp[Yr]
 |cons x A j=>simp only[zR,Yr,j];omega
theorem LT (A:List (List α)):A.flatten.length=Yr A:=by
 induction A with
 |nil=>rfl
 |cons x A j=>simp[Yr,j]
def Zpn (f:α->α->Int)(P:List (List α)):Option (Nat×α)->Prop
 |none=>∀ l∈P,l=[]
 |some (k,a)=>∃ A t B,P=A++(a::t)::B/\A.length=k/\(∀ l∈A,∀ c,l.head?=some c->0<f c a)/\(∀ l∈B,∀ c,l.head?=some c->f a c<=0)
theorem Zgl (f:α->α->Int):∀ (r P:List (List α)) (b:Option (Nat×α)),(∀ k a,b=some (k,a)->∃ t,P[k]?=some (a::t))->(b=none->∀ l∈P,l=[]) ->
 (∀ k a,YO f r P.length b=some (k,a)->∃ t,(P++r)[k]?=some (a::t))/\(YO f r P.length b=none->∀ l∈P++r,l=[]):=by
 intro r
 induction r with
 |nil=>intro P b y z;rw[zP];exact⟨y,z⟩
 |cons x r J =>
  intro P b y z
  have grow:∀ b',(∀ k a,b'=some (k,a)->∃ t,(P++[x])[k]?=some (a::t))->(b'=none->∀ l∈P++[x],l=[])->(∀ k a,YO f r (P.length+1) b'=some (k,a)->∃ t,(P++x::r)[k]?=some (a::t))/\(YO f r (P.length+1) b'=none->∀ l∈P++x::r,l=[]):=fun b' F I=>by
   have:=J (P++[x]) b' F I
   rwa [zJ,zX,zT,yT]at this
  have old:∀ k a,b=some (k,a)->∃ t,(P++[x])[k]?=some (a::t):=fun k a e=>by
   obtain⟨t,C⟩:=y k a e;exact⟨t,by rw[zW (yJ.1 C).1];exact C⟩
  cases x with
  |nil =>
   rw[Zaa];refine grow b old fun e l hl=>?_;rcases zB.1 hl with hl|hl
   ·exact z e l hl
   ·exact zD.1 hl
  |cons a t =>
   have u:∀ k a',some (P.length,a)=some (k,a')->∃ K,(P++[a::t])[k]?=some (a'::K):=fun k a' e=>by
    injection e with e;injection e with D E;subst D E;exact⟨t,by rw[zH (zE _)];simp⟩
   cases b with
   |none =>
    rw[AG];exact grow _ u fun e=>(by cases e)
   |some q =>
    obtain⟨j,c⟩:=q;rw[N8];split
    ·exact grow _ u fun e=>(by cases e)
    ·exact grow _ old fun e=>(by cases e)
variable (h:Cm f)
include h
theorem Zop:∀ (r P:List (List α)) (b:Option (Nat×α)),Zpn f P b->Zpn f (P++r) (YO f r P.length b):=by
 intro r
 induction r with
 |nil=>intro P b hb;rw[zP];exact hb
 |cons x r F =>
  intro P b hb
  have grow:∀ b',Zpn f (P++[x]) b'->Zpn f (P++x::r) (YO f r (P.length+1) b'):=fun b' C=>by
   have:=F (P++[x]) b' C
   rwa [zJ,zX,zT,yT]at this
  cases x with
  |nil =>
   rw[Zaa];refine grow b ?_
   cases b with
   |none =>
    intro l hl;rcases zB.1 hl with hl|hl
    ·exact hb l hl
    ·exact zD.1 hl
   |some q =>
    obtain⟨k,a⟩:=q;obtain⟨A,t,B,rfl,hk,y,z⟩:=hb;refine⟨A,t,B++[[]],by simp,hk,y,fun l hl c hc=>?_⟩;rcases zB.1 hl with hl|hl
    ·exact z l hl c hc
    ·rw[zD.1 hl]at hc;cases hc
  |cons a t =>
   cases b with
   |none =>
    rw[AG];refine grow _ ⟨P,t,[],rfl,rfl,fun l hl c hc=>?_,fun l hl=>(by cases hl)⟩;rw[hb l hl]at hc;cases hc
   |some q =>
    obtain⟨j,c⟩:=q;rw[N8];obtain⟨A,E,B,rfl,hk,y,z⟩:=hb;split
    ·rename_i D;have u:f a c<0:=by have:=h.sym c a;omega
     refine grow _ ⟨A++(c::E)::B,t,[],rfl,rfl,fun l hl d hd=>?_,fun l hl=>(by cases hl)⟩;have key:f a d<0->0<f d a:=fun hd=>by have:=h.sym d a;omega
     rcases zB.1 hl with hl|hl
     ·have I:=y l hl d hd;have J:f c d<0:=by have:=h.sym d c;omega
      exact key (h.lt_le u (by omega))
     ·rcases zC.1 hl with rfl|hl
      ·injection hd with hd;subst hd;exact key u
      ·exact key (h.lt_le u (z l hl d hd))
    ·rename_i D;refine grow _ ⟨A,E,B++[a::t],by simp,hk,y,fun l hl d hd=>?_⟩;rcases zB.1 hl with hl|hl
     ·exact z l hl d hd
     ·rw[zD.1 hl]at hd;injection hd with hd;subst hd;omega
theorem Zij:∀ (n:Nat) (rest:List (List α)),Yr rest<=n->(∀ l∈rest,Df f l) ->
 Df f (XK f n rest)/\(∀ y∈XK f n rest,y∈rest.flatten)/\∀ x,(XK f n rest).filter (YP f x)=rest.flatten.filter (YP f x):=by
 intro n
 induction n with
 |zero =>
  intro rest K _;have h0:rest.flatten=[]:=xE.1 (by rw[LT];omega);exact⟨List.Pairwise.nil,fun y j=>(by cases j),fun x=>by rw[h0];rfl⟩
 |succ n Z =>
  intro rest K hs;have hb:=Zop h rest [] none (fun l hl=>(by cases hl));rw[yL,yW]at hb
  cases F:YO f rest 0 none with
  |none =>
   rw[F]at hb
   have h0:rest.flatten=[]:=by
    rw[List.flatten_eq_nil_iff];exact hb
   rw[N9 F];exact⟨List.Pairwise.nil,fun y j=>(by cases j),fun x=>by rw[h0]⟩
  |some q =>
   obtain⟨k,a⟩:=q;rw[F]at hb;obtain⟨A,t,B,rfl,hk,V,W⟩:=hb;rw[K5 F]
   have E:(A++(a::t)::B).set k (((A++(a::t)::B).getD k []).drop 1)=A++t::B:=by
    subst hk;rw[yP,zH (zE _)];simp
   rw[E];have D:Df f (a::t):=hs _ (by simp)
   have J:∀ l∈A++t::B,Df f l:=fun l hl=>by
    rcases zB.1 hl with hl|hl
    ·exact hs l (by simp[hl])
    ·rcases zC.1 hl with rfl|hl
     ·exact (yH.1 D).2
     ·exact hs l (by simp[hl])
   obtain⟨X,U,Y⟩:=Z (A++t::B) (by rw[ZuR]at K ⊢;simp only[Yr,zM]at K ⊢;omega) J
   have T:∀ y∈A.flatten,f a y<0:=fun y j=>by
    obtain⟨l,hl,u⟩:=yG.1 j
    cases l with
    |nil=>cases u
    |cons c O =>
     have z:=V _ hl c rfl;have Q:f a c<0:=by have:=h.sym c a;omega
     rcases zC.1 u with e|e
     ·rw[e];exact Q
     ·exact h.lt_le Q ((yH.1 (hs (c::O) (by simp[hl]))).1 y e)
   have C:∀ y∈(A++t::B).flatten,f a y<=0:=fun y j=>by
    rw[yQ,zQ]at j;rcases zB.1 j with j|j
    ·have:=T y j;omega
    ·rcases zB.1 j with j|j
     ·exact (yH.1 D).1 y j
     ·obtain⟨l,hl,u⟩:=yG.1 j
      cases l with
      |nil=>cases u
      |cons c O =>
       have z:=W _ hl c rfl;rcases zC.1 u with e|e
       ·rw[e];exact z
       ·exact h.le_trans z ((yH.1 (hs (c::O) (by simp[hl]))).1 y e)
   refine⟨yH.2 ⟨fun y j=>C y (U y j),X⟩,fun y j=>?_,fun x=>?_⟩
   ·rcases zC.1 j with e|e
    ·rw[e];simp
    ·have:=U y e;rw[yQ,zQ]at this ⊢;rcases zB.1 this with h|h
     ·simp[h]
     ·rcases zB.1 h with h|h
      ·simp[h]
      ·exact zY _ (zY _ h)
   ·rw[yF,Y,yQ,yQ,zQ,zQ,zV,zV,zV,zV,yF]
    cases hx:YP f x a with
    |false=>simp
    |true =>
     have I:A.flatten.filter (YP f x)=[]:=by
      rw[xH];intro y j M;have z:=Zdd h (Zg6 h hx) M;rw[h.eqv_iff]at z;have:=T y j;omega
     rw[I];simp
end
section
variable {L:Loc}{p:Spec}(hv:ZI p=0)
include hv
def T9 (L:Loc)(p:Spec)(ls:List (List Zg)):List Zg :=
 if p.uniq then VN (XR L p) [] (XK (ZL L p) (Yr ls) ls) else XK (ZL L p) (Yr ls) ls
theorem ZfB (ls:List (List Zg)):T9 L p (ls.map (ZJ L p))=ZJ L p ls.flatten:=by
 have hc:=HL L p
 obtain⟨y,_,z⟩:=Zij hc (Yr (ls.map (ZJ L p))) (ls.map (ZJ L p)) (zE _) (fun l hl=>by
  obtain⟨k,_,rfl⟩:=yD.1 hl;exact (Sw hv k).1)
 obtain⟨C,I,D⟩:=Sw (L:=L) hv ls.flatten;unfold T9
 cases j:p.uniq with
 |false =>
  rw[if_neg (by decide)];refine ZgO hc _ _ y C fun x=>?_;rw[z,D,j,if_neg (by decide)]
  have:∀ ls:List (List Zg),(ls.map (ZJ L p)).flatten.filter (YP (ZL L p) x)=ls.flatten.filter (YP (ZL L p) x):=by
   intro ls
   induction ls with
   |nil=>rfl
   |cons l ls u =>
    rw[zL,zQ,zQ,zV,zV,u,(Sw hv l).2.2,j,if_neg (by decide)]
  exact this ls
 |true =>
  have hg:XR L p=ZL L p:=funext fun a=>funext fun b=>(AM (by rw[ZiQ hv,j,xY]) a b).symm;rw[if_pos rfl,hg];obtain⟨E,F⟩:=Zku hc _ [] List.Pairwise.nil (fun a ha=>by cases ha) y;refine ZgO hc _ _ E.srt C fun x=>?_;rw[F,D,j,if_pos rfl];show (if ([]:List Zg)=[] then _ else _)=_;rw[if_pos rfl,z]
  have:∀ ls:List (List Zg),((ls.map (ZJ L p)).flatten.filter (YP (ZL L p) x)).take 1=(ls.flatten.filter (YP (ZL L p) x)).take 1:=by
   intro ls
   induction ls with
   |nil=>rfl
   |cons l ls u =>
    rw[zL,zQ,zQ,zV,zV,(Sw hv l).2.2,j,if_pos rfl]
    cases hl:l.filter (YP (ZL L p) x) with
    |nil=>simpa using u
    |cons a r=>simp
  exact this ls
end
theorem Aq {lt:Zg->Zg->Bool}{f:Zg->Zg->Int}(u:∀ a c,lt a c=decide (0<f c a)):∀ (r:List (List Zg)) (i:Nat) (b:Option (Nat×Zg)),RG lt r i b=YO f r i b:=by
 intro r
 induction r with
 |nil=>intro i b;rfl
 |cons x r y =>
  intro i b;rw[RG,y]
  cases x with
  |nil=>rfl
  |cons a t =>
   cases b with
   |none=>rfl
   |some q =>
    obtain⟨j,c⟩:=q;rw[N8];show YO f r (i+1) (if lt a c=true then some (i,a) else some (j,c))=_;rw[u];simp only[decide_eq_true_eq]
theorem LU (ds:List Rd):Yr (ds.map Rd.rest)=Y7 ds:=by
 induction ds with
 |nil=>rfl
 |cons d ds j=>rw[zL,Yr,j,Y7]
theorem Zpf (P Q:List Rd)(x:Rd)(r:List Zg):((P++x::Q).map Rd.rest).set P.length ((((P++x::Q).map Rd.rest).getD P.length []).drop 1)=(P++{ x with rest:=x.rest.drop 1 }::Q).map Rd.rest:=by
 have h:(P++x::Q).map Rd.rest=P.map Rd.rest++x.rest::Q.map Rd.rest:=by simp
 rw[h,yP,zH (by simp)];simp
theorem NextD.merge {f:Zg->Zg->Int}{lt:Zg->Zg->Bool}(u:∀ a c,lt a c=decide (0<f c a)){same:Zg->Bool}{ds j:List Rd}{z:Option Zg}(h:NextD lt same ds z j):∀ n,Y7 ds<=n ->
 ∃ y m,XK f n (ds.map Rd.rest)=y++(match z with|none=>[]|some a=>a::XK f m (j.map Rd.rest))/\(∀ b∈y,same b=true)/\(∀ a,z=some a->same a=false)/\Y7 j<=m:=by
 induction h with
 |@done ds h =>
  intro n hn;rw[Aq u]at h;refine⟨[],n,?_,fun b hb=>(by cases hb),fun a e=>(by cases e),hn⟩
  cases n with
  |zero=>rfl
  |succ n=>rw[N9 h];rfl
 |@skip P Q x a r z j hx h hs k I =>
  intro n hn;rw[Aq u]at h;rw[V7,Y7,hx,zM]at hn
  cases n with
  |zero=>omega
  |succ n =>
   obtain⟨y,m,C,D,E,F⟩:=I n (by rw[V7,Y7];show Y7 P+(r.length+Y7 Q)<=n;omega);refine⟨a::y,m,?_,fun b hb=>?_,E,F⟩
   ·rw[K5 h,Zpf P Q x r,hx,xW,xU,C];rfl
   ·rcases zC.1 hb with e|e
    ·rw[e];exact hs
    ·exact D b e
 |@give P Q x a r hx h hs =>
  intro n hn;rw[Aq u]at h;rw[V7,Y7,hx,zM]at hn
  cases n with
  |zero=>omega
  |succ n =>
   refine⟨[],n,?_,fun b hb=>(by cases hb),fun b e=>(by injection e with e;rw[<-e];exact hs),by rw[V7,Y7];show Y7 P+(r.length+Y7 Q)<=n;omega⟩;rw[K5 h,Zpf P Q x r,hx,xW,xU];rfl
def GE (same:Zo->Bool->Zg->Bool):Zo->Bool->List Zg->List Zg
 |_,_,[]=>[]
 |last,has,a::l=>if same last has a=true then GE same last has l else a::GE same a true l
theorem Zio {same:Zo->Bool->Zg->Bool}{last:Zo}{has:Bool}(r:List Zg):∀ j:List Zg,(∀ b∈j,same last has b=true)->GE same last has (j++r)=GE same last has r:=by
 intro j
 induction j with
 |nil=>intro _;rfl
 |cons b j u =>
  intro h;rw[zR,GE,if_pos (h b (by simp))];exact u fun c hc=>h c (by simp[hc])
theorem Zin {same:Zo->Bool->Zg->Bool}(h:∀ a b c,same a b c=false):∀ (l:List Zg) (last:Zo) (has:Bool),GE same last has l=l:=by
 intro l
 induction l with
 |nil=>intro _ _;rfl
 |cons a l j=>intro last has;rw[GE,if_neg (by rw[h];decide),j]
theorem Zro {L:Loc}{p:Spec}(hv:ZI p=0)(u:p.uniq=true):∀ (l out:List Zg) (last:Zo) (has:Bool),(has=false/\out=[]\/has=true/\out.getLast?=some last)->VN (XR L p) out l=out++GE (Jz L p) last has l:=by
 intro l
 induction l with
 |nil=>intro out last has _;rw[GE,zP];rfl
 |cons a l j =>
  intro out last has h;rw[VN,GE]
  have hs:Jy (XR L p) out a=Jz L p last has a:=by
   unfold Jy Jz;rcases h with ⟨rfl,rfl⟩|⟨rfl,h⟩
   ·rfl
   ·rw[h,hv,u];rfl
  rw[hs]
  cases hsm:Jz L p last has a with
  |true=>rw[if_pos rfl,if_pos rfl];exact j out last has h
  |false =>
   rw[if_neg (by decide),if_neg (by decide),j (out++[a]) a true (.inr ⟨rfl,by simp⟩),zT];rfl
section
variable {L:Loc}{p:Spec}
theorem AllD.once {f:Zg->Zg->Int}(u:∀ a c,Uw L p a c=decide (0<f c a)){last:Zo}{has:Bool}{ds j:List Rd}{out:List Zg}(h:AllD L p last has ds out j):∀ n,Y7 ds<=n->out=GE (Jz L p) last has (XK f n (ds.map Rd.rest)):=by
 induction h with
 |@done last has ds j h =>
  intro n hn;obtain⟨C,m,y,z,D,E⟩:=NextD.merge u h n hn;rw[y,Zio _ C z];rfl
 |@more last has ds j F a out h k I =>
  intro n hn;obtain⟨C,m,y,z,D,E⟩:=NextD.merge u h n hn;rw[y,Zio _ C z];show _=GE (Jz L p) last has (a::XK f m (j.map Rd.rest));rw[GE,D a rfl,if_neg (by decide),<-I m E]
theorem Zzg:Cm (fun _ _:Zg=>(0:Int)):=by
 constructor <;> intros <;> first|rfl|simp|omega
def Wr (L:Loc)(p:Spec)(ls:List (List Zg)):List Zg:=if (ZI p != 0)=true then ls.flatten else T9 L p ls
theorem AllD.merge {ds z:List Rd}{out:List Zg}(h:AllD L p [] false ds out z):out=Wr L p (ds.map Rd.rest):=by
 unfold Wr
 cases hc:ZI p != 0 with
 |true =>
  rw[if_pos rfl];have y:(ZI p==0)=false:=by simpa using hc
  have j:∀ a c,Uw L p a c=decide (0<(fun _ _:Zg=>(0:Int)) c a):=fun a c=>by unfold Uw;rw[y];rfl
  have u:=h.once j (Y7 ds) (zE _);rw[Zin (fun a b c=>by unfold Jz;rw[y,xV,yM,yM])]at u
  obtain⟨_,_,I⟩:=Zij Zzg (Y7 ds) (ds.map Rd.rest) (by rw[LU];exact zE _) (fun l _=>by
   unfold Df;exact List.pairwise_of_forall (fun _ _=>wA _))
  have D:=I [];have e:YP (fun _ _:Zg=>(0:Int)) []=fun _=>true:=rfl;have E:∀ l:List Zg,l.filter (fun _=>true)=l:=fun l=>yY.2 fun _ _=>rfl;rw[e,E,E]at D;rw[u,D]
 |false =>
  rw[if_neg (by decide)];have hv:ZI p=0:=by simpa using hc
  have C:=HL L p
  have j:∀ a c,Uw L p a c=decide (0<ZL L p c a):=fun a c=>by
   unfold Uw;rw[hv];have:=C.sym c a;show decide _=decide _;rw[decide_eq_decide];omega
  have u:=h.once j (Y7 ds) (zE _);unfold T9;rw[LU]
  cases F:p.uniq with
  |false =>
   rw[if_neg (by decide),u];exact Zin (fun a b c=>by unfold Jz;rw[F,xV,yM]) _ _ _
  |true =>
   rw[if_pos rfl,u,Zro hv F _ [] [] false (.inl ⟨rfl,rfl⟩)];rfl
theorem ZdZ (ls:List (List Zg)):Wr L p (ls.map (ZJ L p))=ZJ L p ls.flatten:=by
 unfold Wr
 cases hc:ZI p != 0 with
 |true =>
  have h:∀ l,ZJ L p l=l:=fun l=>by unfold ZJ;rw[hc,if_pos rfl]
  have j:ZJ L p=id:=funext h;rw[if_pos rfl,j,List.map_id];rfl
 |false=>rw[if_neg (by decide)];exact ZfB (by simpa using hc) ls
end
theorem Zwo {l:List Fil}{n:Zo}(h:n∉l.map Fil.name):ZQ l n=none:=by
 induction l with
 |nil=>rfl
 |cons f l j =>
  rw[zL,zC]at h;rw[ZQ,if_neg fun e=>h (.inl e),j fun e=>h (.inr e)]
def Fd:List Nat->List Zo->List (List Zg)->List Rd
 |r::rs,n::ns,l::ls=>⟨r,n,ZP l,l⟩::Fd rs ns ls
 |_,_,_=>[]
theorem Zuo:∀ (rs:List Nat) (ns:List Zo) (ls:List (List Zg)),rs.length=ns.length->ns.length=ls.length->(Fd rs ns ls).map Rd.r=rs/\(Fd rs ns ls).map Rd.rest=ls:=by
 intro rs
 induction rs with
 |nil =>
  intro ns ls j u
  cases ns with
  |nil =>
   cases ls with
   |nil=>exact⟨rfl,rfl⟩
   |cons l ls=>cases u
  |cons n ns=>cases j
 |cons r rs C =>
  intro ns ls j u
  cases ns with
  |nil=>cases j
  |cons n ns =>
   cases ls with
   |nil=>cases u
   |cons l ls =>
    obtain⟨y,z⟩:=C ns ls (by simpa using j) (by simpa using u);rw[Fd,zL,zL,y,z];exact⟨rfl,rfl⟩
theorem Zgy:∀ (rs:List Nat) (ns:List Zo) (ls:List (List Zg)),∀ x∈Fd rs ns ls,∃ (i:Nat) (r:Nat) (n:Zo) (l:List Zg),rs[i]?=some r/\ns[i]?=some n/\ls[i]?=some l/\x=⟨r,n,ZP l,l⟩:=by
 intro rs
 induction rs with
 |nil=>intro ns ls x hx;simp[Fd]at hx
 |cons r rs C =>
  intro ns ls x hx
  cases ns with
  |nil=>simp[Fd]at hx
  |cons n ns =>
   cases ls with
   |nil=>simp[Fd]at hx
   |cons l ls =>
    rw[Fd]at hx;rcases zC.1 hx with e|h
    ·exact⟨0,r,n,l,rfl,rfl,rfl,e⟩
    ·obtain⟨i,F,E,D,j,u,y,z⟩:=C ns ls x h;exact⟨i+1,F,E,D,by simpa using j,by simpa using u,by simpa using y,z⟩
section
variable {o t:Nat}{tm:Tmp}{s:Sto}{A:List Nat}{a q:AV}{L:Loc}{p:Spec}(hm:TmpOk tm)(hk:StoOk s)(hc:s.crashed=false)(h0:s.count=0)
 (ha:LocAV a L) (hok:LocOk L) (hsm:LocSm L) (hq:SpecAV q p) (hks:∀ k∈p.keys,KeOk k) (hkl:p.keys.length<=1048576)
 {xn:AV} {ns:List Zo} {ls:List (List Zg)} (hx:SS xn ns) (hnl:ns.length=ls.length) (hn64:ns.length<=65536)
 (hfl:∀ (i:Nat) (n:Zo) (l:List Zg),ns[i]?=some n->ls[i]?=some l->YZ l=true/\(ZP l).length<=262144/\((Yg tm n=0/\∃ f,ZQ s.files n=some f/\f.text=ZP l)\/(Yg tm n=5/\l=[])))
 {m:Nat} (hmt:Yr ls<=m) (hm64:m<=65536)
include hm hk hc h0 ha hok hsm hq hks hkl hx hnl hn64 hfl hmt hm64
end
def UY:List Rd->Nat
 |[]=>0
 |d::r=>Y1 d.rest+UY r
theorem Zd6 (A B:List Rd):UY (A++B)=UY A+UY B:=by
 induction A with
 |nil=>simp[UY]
 |cons x A j=>simp only[zR,UY,j];omega
theorem ZhE:∀ ds:List Rd,UY ds=Y1 (ds.map Rd.rest).flatten:=by
 intro ds
 induction ds with
 |nil=>rfl
 |cons d ds j=>rw[UY,j,zL,zQ,CW]
theorem NextD.cost {lt:Zg->Zg->Bool}{same:Zg->Bool}{ds j:List Rd}{z:Option Zg}(h:NextD lt same ds z j):UY j<=UY ds/\∀ a,z=some a->UY j+Y1 [a]<=UY ds:=by
 induction h with
 |done h=>exact⟨zE _,fun a e=>by cases e⟩
 |skip hx h hs k D =>
  obtain⟨y,u⟩:=D;rw[Zd6,UY]at y u ⊢;rw[hx,Y1];dsimp only at y u;exact⟨by omega,fun a e=>by have:=u a e;omega⟩
 |@give P Q x a r hx h hs =>
  have C:Y1 x.rest=a.length+6+Y1 r:=by rw[hx];rfl
  rw[Zd6,UY,Zd6,UY,C];dsimp only;exact⟨by omega,fun b e=>by injection e with e;subst e;simp only[Y1];omega⟩
theorem NextD.names {lt:Zg->Zg->Bool}{same:Zg->Bool}{ds j:List Rd}{z:Option Zg}(h:NextD lt same ds z j):j.map Rd.n=ds.map Rd.n:=by
 induction h with
 |done h=>rfl
 |skip hx h hs k u=>rw[u];simp
 |give hx h hs=>simp
theorem Zjt {fs:List Fil}{n m:Zo}{f:Fil}(j:f.name=n)(h:m≠n):ZQ (fs++[f]) m=ZQ fs m:=by
 induction fs with
 |nil =>
  show (if m=f.name then some f else ZQ [] m)=ZQ [] m;rw[if_neg (by rw[j];exact h)]
 |cons g fs u=>rw[zR,ZQ,ZQ,u]
def sF (fs:List Fil)(n x:Zo)(pk:Nat):Sto:=⟨262144,pk,fs++[⟨n,x,0⟩],false,0⟩
theorem Zxc {tm:Tmp}{fs:List Fil}{n x:Zo}{pk:Nat}(hcl:tm.closed=false)(hn:n∈tm.names)(hs:n∉tm.sld)(hlim:tm.limit=262144)(hg:ZQ fs n=none){l:List Zo}(j:YZ l=true)(hl:Zs fs+x.length+Y1 l<=262144) :
 GM tm (sF fs n x pk) n l=(0,sF fs n (x++ZP l) (max pk (Zs fs+x.length+Y1 l))):=by
 have z:Zs (sF fs n x pk).files=Zs fs+x.length:=by show Zs (fs++[_])=_;rw[W9];simp[Zs]
 have y:Yg tm n=0:=by unfold Yg;rw[if_neg (by simp[hcl]),if_pos hn]
 have C:=ZaH tm.names (sF fs n x pk).files;have u:=W2 l;unfold GM;rw[if_neg (by simp[y]),if_neg hs,if_neg (by simp[j]),if_neg (by unfold Ul;omega)];unfold Sto.append;rw[JJ rfl rfl,if_neg (by simp[sF])];rw[show (sF fs n x pk).files=fs++[⟨n,x,0⟩] from rfl,Zgh hg _ rfl];dsimp only;rw[show Zs (fs++[⟨n,x,0⟩])=Zs fs+x.length from z,W2,if_neg (by show ¬ (Zs fs+x.length+Y1 l > 262144);omega),ZgT hg _ rfl];rfl
theorem Zjz {x1:AV}{ns:List Zo}(hx:SS x1 ns)(hl:ns.length<=65536)(o N:Nat)(Z y6 K:AV)(V:Hp):∀ (r d:List Zo) (x5:AV) (rs:List Nat) (H:Hp),ns=d++r->rs.length=d.length->RowN N H 1 x5 (rs.map fun r=>yR r 0)->N<=H.length ->
 ∃ (H':Hp) (z:AV) (j:List Nat),GC (.ptr o 0) Z y6 K x5 x1 (.int .i64 (ns.length:Int)) (.int .i64 (d.length:Int)) V H=PI (.ptr o 0) Z y6 K z V H'/\RowN N H' 1 z ((rs++j).map fun r=>yR r 0)/\j.length=r.length/\(∀ a,a<N->H'[a]?=H[a]?)/\(∀ (a:Nat) (cs:List AV),H[a]?=some (.cells cs)->H'[a]?=some (.cells cs)) /\
  (∀ (i:Nat) (n:Zo),r[i]?=some n->∃ I,j[i]?=some I/\H'[I]?=some (.cells (VX o n 0 false false [])))/\j.Nodup/\(∀ I∈j,H.length<=I)/\H.length<=H'.length:=by
 intro r
 induction r with
 |nil =>
  intro d x5 rs H hd F u hN;rw[zP]at hd;subst hd;have C:decide ((ns.length:Int)<(ns.length:Int))=false:=by simp
  refine⟨H,x5,[],?_,by rw[zP];exact u,rfl,fun _ _=>rfl,fun _ _ h=>h,fun i n h=>by simp at h,by simp,by simp,zE _⟩;rw[L5];simp only[go_sem,C]
 |cons n r ih =>
  intro d x5 rs H hd F u hN;have Q:ns.length=d.length+(r.length+1):=by rw[hd];simp
  have C:decide ((d.length:Int)<(ns.length:Int))=true:=by rw[decide_eq_true_eq];omega
  have U:wD.wrap ((d.length:Int)+1)=((d.length+1:Nat):Int):=by rw[Zr (by omega) (by omega)];omega
  have O:ns[d.length]?=some n:=by rw[hd,zH (zE _)];simp
  have D:=SS.idx hx O;have T:=ZjR o n H;have E:(ZA 1 [(0,yR H.length 0)] [.nilp]).map (AV.vs 1 .clip)=some (.vs 1 .clip [.ptr H.length 0]):=rfl;obtain⟨x',M,w1,w2,w3,w4,w5⟩:=(u.push [.cells (VX o n 0 false false [])]).app (by simp;omega) 8 (.vs 1 .clip [.ptr H.length 0]) [.ptr H.length 0] rfl (by simp;omega);have J:∀ (a:Nat) (cs:List AV),(H++[zA (VX o n 0 false false [])])[a]?=some (.cells cs)->M[a]?=some (.cells cs):=w5;have y:M[H.length]?=some (.cells (VX o n 0 false false [])):=J _ _ (by simp);have aa:H.length<M.length:=Zh y;obtain⟨H3,z,j,W,m2,m3,m4,X,m6,m7,Y,m9⟩:=ih (d++[n]) x' (rs++[H.length]) M (by rw[hd];simp) (by simp[F]) (by rw[yC];exact w2) w3;rw[zJ,zX]at W;refine⟨H3,z,H.length::j,?_,by rw[show rs++H.length::j=rs++[H.length]++j by simp];exact m2,by simp[m3],fun a ha=>(m4 a ha).trans ((w4 a ha).trans (zW (by omega))),fun a cs h=>X a cs (J a cs (Yl h _)),fun i k hi=>?_,?_,fun I hr=>?_,by omega⟩
  ·rw[L5];simp only[go_sem,C,Zf8,D,ZE,T,E,w1,Zf9,U];exact W
  ·cases i with
   |zero =>
    simp at hi;subst hi;exact⟨H.length,rfl,X _ _ y⟩
   |succ i=>exact m6 i k (by simpa using hi)
  ·rw[zU];exact⟨fun h=>by have:=Y _ h;omega,m7⟩
  ·rcases zC.1 hr with e'|h
   ·omega
   ·have:=Y _ h;omega
section
variable {o t g:Nat}{tm:Tmp}{fs:List Fil}{n:Zo}{L:Loc}{lx c e:AV}{p:Spec}{xp:AV}{rx:AV}{rs:List Nat}
 (hm:TmpOk tm) (hcl:tm.closed=false) (hn:n∈tm.names) (hns:n∉tm.sld) (hlim:tm.limit=262144) (hgn:ZQ fs n=none)
 (hsto:∀ x pk,Zs fs+x.length<=262144->pk<=262144->StoOk (sF fs n x pk))
 (hl:LocAV (.agg (L.cells lx c e)) L) (hok:LocOk L) (hs:SpecAV (.agg (p.cells xp)) p) (hks:∀ k∈p.keys,KeOk k)
 (hrx:Sl 1 rx (rs.map fun r=>yR r 0)) (hnd:rs.Nodup) (hlen:rs.length<=1048576) (hgd:g∉rs)
include hm hcl hn hns hlim hgn hsto hl hok hs hks hrx hnd hlen hgd
theorem Zov (H0:Hp):∀ (k:Nat) (ds:List Rd) (last:Zo) (has:Bool) (j:List Zg) (pk:Nat) (A:List Nat) (H:Hp),Y7 ds<=k->Zs fs+Y1 j+UY ds<=262144->pk<=262144->last.length<=1048576->ds.map Rd.r=rs->n∉ds.map Rd.n ->
 SysAt H o t tm (sF fs n (ZP j) pk) A->(∀ x∈ds,RdAt H o tm (sF fs n (ZP j) pk) A x)->H[g]?=some (.cells (JU L lx c e p xp (ZI p==0) rx last has))->g∉A ->
 ∃ H' A' Y out aa,GB (.ptr o 0) (.str n) (.ptr g 0) H0 H=PJ (.ptr o 0) (.str n) H0 H'/\AllD L p last has ds out aa/\SysAt H' o t tm (sF fs n (ZP (j++out)) Y) A'/\Y<=262144/\Zs fs+Y1 (j++out)<=262144/\Stp (g::rs++A) H H'/\(∀ a∈A',a∈A\/H.length<=a):=by
 have e0:((0:Int) != 0)=false:=rfl;intro k
 induction k with
 |zero =>
  intro ds last has j pk A H ht ac y hlast hr O C E hg hgA;have hk:=hsto (ZP j) pk (by rw[W2];omega) y;obtain⟨H1,z,u,Z,D,W,X,p5,p6,p7⟩:=CG hm hk rfl rfl hl hok hs hks hrx hnd hlen hgA hgd hlast hr C E hg
  cases z with
  |some a=>have:=D.less.2 a rfl;omega
  |none =>
   refine⟨H1,A,pk,[],u,?_,.done D,by rw[zP];exact W,y,by rw[zP];omega,X,fun a ha=>.inl ha⟩;rw[BU];simp only[Z,go_sem,zF,zG,e0,BT,xN,xQ,yB]
 |succ k ih =>
  intro ds last has j pk A H ht ac y hlast hr O C E hg hgA;have hk:=hsto (ZP j) pk (by rw[W2];omega) y;obtain⟨H1,z,u,Z,D,W,X,p5,p6,p7⟩:=CG hm hk rfl rfl hl hok hs hks hrx hnd hlen hgA hgd hlast hr C E hg
  cases z with
  |none =>
   refine⟨H1,A,pk,[],u,?_,.done D,by rw[zP];exact W,y,by rw[zP];omega,X,fun a ha=>.inl ha⟩;rw[BU];simp only[Z,go_sem,zF,zG,e0,BT,xN,xQ,yB]
  |some a =>
   have ah:a.length<=4096:=by
    obtain⟨x,hx,ha⟩:=D.mem a rfl;have:=yV.1 (E x hx).fit a ha;simpa using this
   have ad:=D.cost.2 a rfl;have K:Y1 [a]=a.length+6:=rfl;have T:(ZP j).length=Y1 j:=W2 j;obtain⟨H2,A2,w1,F⟩:=ZjS W hm hk n (Zip a) (fun s hs=>by rw[zD.1 hs];omega) (by rw[K];omega);have M:=Zxc (tm:=tm) (fs:=fs) (n:=n) (x:=ZP j) (pk:=pk) hcl hn hns hlim hgn (l:=[a]) (by simp[YZ];omega) (by rw[T,K];omega);rw[M,<-Zme]at w1 F;have ag:=W.lt
   have J:∀ {b:Nat},b<H1.length->b∉A->b∉A2:=fun hb hn h1=>by
    rcases F.own _ h1 with k|k
    ·exact hn k
    ·omega
   have ae:=F.stp.get p7 hgA
   have U:∀ x∈u,RdAt H2 o tm (sF fs n (ZP (j++[a])) (max pk (Zs fs+(ZP j).length+Y1 [a]))) A2 x:=fun x hx=>by
    have I:=p6 x hx;have V:x.n≠n:=fun e'=>O (by rw[<-D.names,<-e'];exact zK hx);refine⟨I.rdr.frame (F.stp.at' x.r I.lt I.out),J I.lt I.out,I.fit,I.len,I.file.imp (fun⟨f1,f,f2,f3⟩=>⟨f1,f,?_,f3⟩) id⟩;have Q:ZQ (fs++[⟨n,ZP j,0⟩]) x.n=some f:=f2;rw[Zjt rfl V]at Q;show ZQ (fs++[⟨n,_,0⟩]) x.n=some f;rw[Zjt rfl V];exact Q
   have ai:=X.len;have aj:=F.stp.len;obtain⟨H3,A3,af,out,ab,m1,m2,m3,m4,m5,m6,m7⟩:=ih u a true (j++[a]) _ A2 H2 (by have:=D.less.2 a rfl;omega) (by rw[CW];omega) (by rw[T,K];omega) (by omega) p5 (by rw[D.names];exact O) F.at' U ae (J (Zh p7) hgA);refine⟨H3,A3,af,a::out,ab,?_,.more D m2,by rw[show j++a::out=j++[a]++out by simp];exact m3,m4,by rw[show j++a::out=j++[a]++out by simp];exact m5,?_,fun b hb=>?_⟩
   ·rw[BU];simp only[Z,go_sem,zF,zG,e0,BT,xN,xQ,yE,Zf7,PL,w1];exact m1
   ·have s1:Stp (g::rs++A) H H2:=X.trans F.stp (fun _ h=>h) fun b hb=>.inl (zY _ hb);refine s1.trans m6 (fun _ h=>h) fun b hb=>?_;rcases zB.1 hb with h|h
    ·exact .inl (zZ _ h)
    ·rcases F.own b h with h|h
     ·exact .inl (zY _ h)
     ·exact .inr (by omega)
   ·rcases m7 b hb with h|h
    ·rcases F.own b h with h|h
     ·exact .inl h
     ·exact .inr (by omega)
    ·exact .inr (by omega)
end
abbrev Pr:=Zo×List Zg
def Yq (P:List Pr):List Fil:=P.map fun x=>⟨x.1,ZP x.2,(ZP x.2).length⟩
def ZN:List Pr->Nat
 |[]=>0
 |x::P=>Y1 x.2+ZN P
theorem ZsS (P Q:List Pr):ZN (P++Q)=ZN P+ZN Q:=by
 induction P with
 |nil=>simp[ZN]
 |cons x P j=>simp only[zR,ZN,j];omega
theorem Zd8 (p:Pr->Bool):∀ P:List Pr,ZN (P.filter p)<=ZN P:=by
 intro P
 induction P with
 |nil=>simp[ZN]
 |cons x P j =>
  rw[yF];split
  ·simp only[ZN];omega
  ·simp only[ZN];omega
theorem Zk0 {P:List Pr}{x:Pr}(h:x∈P):Y1 x.2<=ZN P:=by
 induction P with
 |nil=>cases h
 |cons y P j =>
  simp only[ZN];rcases zC.1 h with rfl|h
  ·omega
  ·have:=j h;omega
theorem Lw (P:List Pr):(Yq P).map Fil.name=P.map (·.1):=by simp[Yq]
theorem Zwd (P Q:List Pr):Yq (P++Q)=Yq P++Yq Q:=by simp[Yq]
theorem FV (P:List Pr):Zs (Yq P)=ZN P:=by
 induction P with
 |nil=>rfl
 |cons x P j=>show (ZP x.2).length+Zs (Yq P)=_;rw[j,W2];rfl
theorem Zwe:∀ {P:List Pr},(P.map (·.1)).Nodup->∀ {x:Pr},x∈P->ZQ (Yq P) x.1=some ⟨x.1,ZP x.2,(ZP x.2).length⟩:=by
 intro P
 induction P with
 |nil=>intro _ x h;cases h
 |cons y P j =>
  intro hnd x h;rw[zL,zU]at hnd;show (if x.1=y.1 then some _ else ZQ (Yq P) x.1)=_;rcases zC.1 h with rfl|h
  ·rw[if_pos rfl]
  ·rw[if_neg (fun e=>hnd.1 (by rw[<-e];exact zK h))];exact j hnd.2 h
theorem Zfz {a b:List Fil}{n:Zo}(h:n∉a.map Fil.name):ZQ (a++b) n=ZQ b n:=by
 induction a with
 |nil=>rfl
 |cons f a j =>
  simp only[zL,zC,not_or]at h;show (if n=f.name then some f else ZQ (a++b) n)=_;rw[if_neg h.1];exact j h.2
theorem Zix {a b:List Fil}{n:Zo}(h:n∉a.map Fil.name):Vc (a++b) n=a++Vc b n:=by
 induction a with
 |nil=>rfl
 |cons f a j =>
  simp only[zL,zC,not_or]at h;show (if n=f.name then a++b else f::Vc (a++b) n)=_;rw[if_neg h.1,j h.2];rfl
theorem Znv (nm:List Zo)(a b:List Fil):X3 nm (a++b)=X3 nm a+X3 nm b:=by
 induction a with
 |nil=>simp[X3]
 |cons f a j=>simp only[zR,X3,j];omega
theorem ZrT {nm:List Zo}{a:List Fil}(h:∀ f∈a,f.name∉nm):X3 nm a=0:=by
 induction a with
 |nil=>rfl
 |cons f a j=>simp only[X3,if_neg (h f (by simp)),j fun g hg=>h g (by simp[hg])]
theorem ZoN {nm:List Zo}{a:List Fil}(h:∀ f∈a,f.name∈nm):X3 nm a=Zs a:=by
 induction a with
 |nil=>rfl
 |cons f a j=>simp only[X3,Zs,if_pos (h f (by simp)),j fun g hg=>h g (by simp[hg])]
def Wn (n:Zo)(P:List Pr):List Pr:=P.filter fun x=>!(x.1==n)
theorem ZhI {n:Zo}:∀ {P:List Pr},n∉P.map (·.1)->Wn n P=P:=by
 intro P h;unfold Wn;rw[yY];intro x hx;have:x.1≠n:=fun e=>h (by rw[<-e];exact zK hx);simp[this]
theorem Zn6 {n:Zo}:∀ {P:List Pr},(P.map (·.1)).Nodup->Vc (Yq P) n=Yq (Wn n P):=by
 intro P
 induction P with
 |nil=>intro _;rfl
 |cons y P j =>
  intro hnd;rw[zL,zU]at hnd;show (if n=y.1 then Yq P else _::Vc (Yq P) n)=_;unfold Wn;rw[yF];by_cases h:y.1=n
  ·subst h;rw[if_pos rfl,if_neg (by simp)];have:=ZhI hnd.1;unfold Wn at this;rw[this]
  ·rw[if_neg (fun e=>h e.symm),if_pos (by simp[h]),j hnd.2];rfl
theorem Zon (n:Zo)(P:List Pr):Wp n (P.map (·.1))=(Wn n P).map (·.1):=by
 unfold Wp Wn;rw[List.filter_map];rfl
structure BOk (B:List Fil):Prop where
 nd:(B.map Fil.name).Nodup
 nm:∀ f∈B,F5 f.name=true
 syn:∀ f∈B,f.syn<=f.text.length
 len:B.length<=1
 used:Zs B<=1000
 ne:∀ f∈B,∀ i,f.name≠Y4 i
structure XS (B:List Fil)(tm:Tmp)(s:Sto)(P:List Pr)(k:Nat):Prop where
 tmE:tm.owner=Zgw/\tm.names=P.map (·.1)/\tm.limit=262144/\tm.last=k/\tm.closed=false
 sldE:∀ x∈tm.sld,∃ i,1<=i/\i<=k/\x=Y4 i
 stE:s.limit=262144/\s.peak<=262144/\s.files=B++Yq P/\s.crashed=false/\s.count=0
 nd:(P.map (·.1)).Nodup
 num:∀ x∈P,∃ i,1<=i/\i<=k/\x.1=Y4 i
 kle:k<=126
 many:P.length<=42
 nk:P.length<=k
 cost:ZN P<=100000
 fit:∀ x∈P,YZ x.2=true
theorem Zph {B fs:List Fil}(hB:BOk B)(nd:(fs.map Fil.name).Nodup)(num:∀ f∈fs,∃ i,1<=i/\i<=128/\f.name=Y4 i)(syn:∀ f∈fs,f.syn<=f.text.length)(len:fs.length<=60)(used:Zs B+Zs fs<=262144)
 {s:Sto} (z:s.limit=262144) (E:s.peak<=262144) (j:s.files=B++fs) (F:s.count=0):StoOk s:=by
 refine⟨by omega,?_,by omega,?_,?_,?_,?_,by omega⟩
 ·rw[j,W9,z];exact used
 ·rw[j];intro f u;rcases zB.1 u with h|h
  ·exact hB.nm f h
  ·obtain⟨i,C,D,e⟩:=num f h;rw[e];exact Zkq ⟨C,D⟩
 ·rw[j,yC,xA];refine⟨hB.nd,nd,fun a ha b hb e=>?_⟩;obtain⟨f,u,rfl⟩:=yD.1 ha;obtain⟨g,hg,rfl⟩:=yD.1 hb;obtain⟨i,_,_,y⟩:=num g hg;exact hB.ne f u i (e.trans y)
 ·rw[j];intro f u;rcases zB.1 u with h|h
  ·exact hB.syn f h
  ·exact syn f h
 ·rw[j,zJ];have:=hB.len;omega
section
variable {B:List Fil}{tm:Tmp}{s:Sto}{P:List Pr}{k:Nat}
theorem XS.tmOk (h:XS B tm s P k):TmpOk tm:=by
 obtain⟨j,u,z,y,C⟩:=h.tmE;refine⟨by rw[j];show 4<=16;omega,by omega,?_,by have:=h.kle;omega⟩;rw[u,y,zN];exact h.nk
theorem Zmn (h:XS B tm s P k):∀ f∈Yq P,∃ i,1<=i/\i<=128/\f.name=Y4 i:=by
 intro f j;obtain⟨x,hx,rfl⟩:=yD.1 j;obtain⟨i,u,y,e⟩:=h.num x hx;have:=h.kle;exact⟨i,u,by omega,e⟩
theorem Zmo (P:List Pr):∀ f∈Yq P,f.syn<=f.text.length:=by
 intro f j;obtain⟨x,hx,rfl⟩:=yD.1 j;exact zE _
theorem XS.stoOk (hB:BOk B)(h:XS B tm s P k):StoOk s:=by
 obtain⟨j,u,y,C,z⟩:=h.stE;refine Zph hB (fs:=Yq P) (by rw[Lw];exact h.nd) (Zmn h) (Zmo P) (by have:=h.many;simp[Yq];omega) (by rw[FV];have:=h.cost;have:=hB.used;omega) j u y z
theorem XS.notB (hB:BOk B)(i:Nat):Y4 i∉B.map Fil.name:=fun hm=>by
 obtain⟨f,j,e⟩:=yD.1 hm;exact hB.ne f j i e
theorem XS.get (hB:BOk B)(h:XS B tm s P k){x:Pr}(hx:x∈P):ZQ s.files x.1=some ⟨x.1,ZP x.2,(ZP x.2).length⟩:=by
 obtain⟨i,_,_,e⟩:=h.num x hx;rw[h.stE.2.2.1,Zfz (by rw[e];exact XS.notB hB i)];exact Zwe h.nd hx
theorem XS.used (hB:BOk B)(h:XS B tm s P k):Ul tm s=ZN P:=by
 unfold Ul;rw[h.stE.2.2.1,h.tmE.2.1,Znv,ZrT,ZoN,FV]
 ·omega
 ·intro f j;rw[<-Lw];exact zK j
 ·intro f j hm;obtain⟨x,hx,e⟩:=yD.1 hm;obtain⟨i,_,_,u⟩:=h.num x hx;exact hB.ne f j i (by rw[<-e,u])
theorem XS.fresh (h:XS B tm s P k):Y4 (k+1)∉P.map (·.1):=fun hm=>by
 obtain⟨x,hx,e⟩:=yD.1 hm;obtain⟨i,y,z,u⟩:=h.num x hx;have hk:=h.kle;have:=Zpa (i:=i) (j:=k+1) ⟨y,by omega⟩ ⟨by omega,by omega⟩ (by rw[<-u,e]);omega
theorem XS.unsld (h:XS B tm s P k):Y4 (k+1)∉tm.sld:=fun hm=>by
 obtain⟨i,y,z,u⟩:=h.sldE _ hm;have hk:=h.kle;have:=Zpa (i:=k+1) (j:=i) ⟨by omega,by omega⟩ ⟨y,by omega⟩ u;omega
theorem XS.out (hB:BOk B)(h:XS B tm s P k):ZQ (B++Yq P) (Y4 (k+1))=none:=by
 rw[Zfz (XS.notB hB _)];exact Zwo (by rw[Lw];exact h.fresh)
theorem XS.find (h:XS B tm s P k){x:Pr}(hx:x∈P):Yg tm x.1=0:=by
 unfold Yg;rw[if_neg (by simp[h.tmE.2.2.2.2]),if_pos (by rw[h.tmE.2.1];exact zK hx)]
theorem XS.remove (h:XS B tm s P k)(hB:BOk B){x:Pr}(hx:x∈P){sl:List Zo}(C:∀ y∈sl,y∈tm.sld) :
 XS B { tm with names:=Wp x.1 tm.names,sld:=sl } { s with files:=Vc s.files x.1 } (Wn x.1 P) k:=by
 obtain⟨i,_,_,e⟩:=h.num x hx;obtain⟨D,E,F,I,J⟩:=h.tmE;obtain⟨K,M,O,Q,T⟩:=h.stE;have j:(Wn x.1 P).Sublist P:=List.filter_sublist;have u:∀ y∈Wn x.1 P,y∈P:=fun y z=>j.subset z;refine⟨⟨D,?_,F,I,J⟩,fun y z=>h.sldE y (C y z),⟨K,M,?_,Q,T⟩,h.nd.sublist (j.map _),fun y z=>h.num y (u y z),h.kle,?_,?_,?_,fun y z=>h.fit y (u y z)⟩
 ·show Wp x.1 tm.names=_;rw[E,Zon]
 ·show Vc s.files x.1=_;rw[O,Zix (by rw[e];exact XS.notB hB i),Zn6 h.nd]
 ·have:=j.length_le;have:=h.many;omega
 ·have:=j.length_le;have:=h.nk;omega
 ·have:=Zd8 (fun y=>!(y.1==x.1)) P;have:=h.cost;unfold Wn;omega
theorem XS.nd1 (h:XS B tm s P k)(l:List Zg):((P++[(Y4 (k+1),l)]).map (·.1)).Nodup:=by
 rw[yC,xA];refine⟨h.nd,by simp,fun a ha b hb e=>?_⟩;simp only[zL,List.map_nil,zD]at hb;subst hb;exact h.fresh (e ▸ ha)
theorem XS.stoX (h:XS B tm s P k)(hB:BOk B)(hm:P.length<42)(hk:k<126){x:Zo}{j pk:Nat}(E:j<=x.length)(hx:Zs (B++Yq P)+x.length<=262144)(F:pk<=262144){s':Sto}
 (z:s'.limit=262144) (I:s'.peak=pk) (C:s'.files=B++Yq P++[⟨Y4 (k+1),x,j⟩]) (D:s'.count=0):StoOk s':=by
 rw[W9,FV]at hx;refine Zph hB (fs:=Yq P++[⟨Y4 (k+1),x,j⟩]) ?_ ?_ ?_ ?_ ?_ z (by omega) (by rw[C,zT]) D
 ·rw[yC,Lw];have:=h.nd1 [];rw[yC]at this;exact this
 ·intro f y;rcases zB.1 y with u|u
  ·exact Zmn h f u
  ·rw[zD.1 u];exact⟨k+1,by omega,by omega,rfl⟩
 ·intro f y;rcases zB.1 y with u|u
  ·exact Zmo P f u
  ·rw[zD.1 u];exact E
 ·simp[Yq];omega
 ·rw[W9,FV];show Zs B+(ZN P+(x.length+0))<=_;omega
theorem XS.add (h:XS B tm s P k){l:List Zg}(u:YZ l=true)(hk:k<126)(hm:P.length<42)(hc:ZN P+Y1 l<=100000){pk:Nat}(z:pk<=262144){y:Tmp}{s':Sto}
 (J:y={ tm with last:=tm.last+1,names:=tm.names++[Y4 (k+1)],sld:=Oz tm.sld (Y4 (k+1)) }) (hs:s'=⟨262144,pk,B++Yq P++[⟨Y4 (k+1),ZP l,(ZP l).length⟩],false,0⟩) :
 XS B y s' (P++[(Y4 (k+1),l)]) (k+1):=by
 subst J hs;obtain⟨D,E,F,M,I⟩:=h.tmE;refine⟨⟨D,?_,F,?_,I⟩,?_,⟨rfl,z,?_,rfl,rfl⟩,h.nd1 l,fun x hx=>?_,by omega,by simp;omega,by have:=h.nk;simp;omega,by rw[ZsS];simp only[ZN];omega,fun x hx=>?_⟩
 ·show tm.names++[Y4 (k+1)]=_;rw[E];simp
 ·show tm.last+1=k+1;omega
 ·intro x hx;have hx:x∈Oz tm.sld (Y4 (k+1)):=hx
  have:x∈tm.sld\/x=Y4 (k+1):=by
   unfold Oz at hx;split at hx
   ·exact .inl hx
   ·rcases zB.1 hx with j|j
    ·exact .inl j
    ·exact .inr (zD.1 j)
  rcases this with j|j
  ·obtain⟨i,C,K,e⟩:=h.sldE x j;exact⟨i,C,by omega,e⟩
  ·exact⟨k+1,by omega,zE _,j⟩
 ·show B++Yq P++[_]=_;rw[Zwd,zT];rfl
 ·rcases zB.1 hx with j|j
  ·obtain⟨i,C,K,e⟩:=h.num x j;exact⟨i,C,by omega,e⟩
  ·rw[zD.1 j];exact⟨k+1,by omega,zE _,rfl⟩
 ·rcases zB.1 hx with j|j
  ·exact h.fit x j
  ·rw[zD.1 j];exact u
theorem XS.tm1 (h:XS B tm s P k)(hk:k<126):TmpOk { tm with last:=tm.last+1,names:=tm.names++[Y4 (k+1)] }:=by
 obtain⟨j,u,z,y,C⟩:=h.tmE;refine⟨by show tm.owner.length<=16;rw[j];show 4<=16;omega,by show tm.limit<=_;omega,?_,by show tm.last+1<=_;omega⟩;show (tm.names++[Y4 (k+1)]).length<=tm.last+1;have:=h.nk;rw[u,zJ,zN,y];simp;omega
theorem XS.new (h:XS B tm s P k)(hB:BOk B)(hk:k<126)(hm:P.length<42) :
 Tl tm s=((Y4 (k+1),0),({ tm with last:=tm.last+1,names:=tm.names++[Y4 (k+1)] },⟨262144,s.peak,B++Yq P++[⟨Y4 (k+1),[],0⟩],false,0⟩)):=by
 obtain⟨C,I,J,D,E⟩:=h.tmE;obtain⟨z,K,j,u,y⟩:=h.stE;have F:=Zz9 (tm:=tm) (s:=s) u y E (n:=Y4 (k+1)) (by rw[C,D];rfl) (Zkq ⟨by omega,by omega⟩) (by rw[j];exact h.out hB) (by rw[j,zJ];have:=hB.len;simp[Yq];omega);rw[F]
 have:({ s with files:=s.files++[⟨Y4 (k+1),[],0⟩] }:Sto)=⟨262144,s.peak,B++Yq P++[⟨Y4 (k+1),[],0⟩],false,0⟩:=by
  cases s;dsimp only at z j u y;subst z j u y;rfl
 rw[this]
theorem XS.write (h:XS B tm s P k)(hB:BOk B){l:List Zg}(y:YZ l=true)(hk:k<126)(hm:P.length<42)(hc:ZN P+Y1 l<=100000) :
 ∃ tm1 D E C I,Tl tm s=((Y4 (k+1),0),(tm1,D))/\TmpOk tm1/\StoOk D/\GM tm1 D (Y4 (k+1)) l=(0,E)/\StoOk E/\Tm tm1 E (Y4 (k+1))=(0,(C,I)) /\
  XS B C I (P++[(Y4 (k+1),l)]) (k+1):=by
 obtain⟨T,U,V,W,F⟩:=h.tmE;obtain⟨X,J,Y,Z,f5⟩:=h.stE;have z:=h.out hB;have M:=hB.used;have u:Zs (B++Yq P)=Zs B+ZN P:=by rw[W9,FV]
 have K:=W2 l
 have O:=Zux (tm:={ tm with last:=tm.last+1,names:=tm.names++[Y4 (k+1)] }) (s:=⟨262144,s.peak,B++Yq P++[⟨Y4 (k+1),[],0⟩],false,0⟩) (fs:=B++Yq P) rfl rfl F (n:=Y4 (k+1)) (by simp) h.unsld rfl z y
  (by rw[u];show _<=262144;omega) (by rw[u];show _<=tm.limit;omega)
 have Q:=Zne (tm:={ tm with last:=tm.last+1,names:=tm.names++[Y4 (k+1)] }) (s:=⟨262144,max s.peak (Zs (B++Yq P)+Y1 l),B++Yq P++[⟨Y4 (k+1),ZP l,0⟩],false,0⟩) (fs:=B++Yq P) (x:=ZP l) (k:=0) rfl rfl F (n:=Y4 (k+1)) (by simp) rfl z;refine⟨_,_,_,_,_,h.new hB hk hm,h.tm1 hk,?_,O,?_,Q,?_⟩
 ·exact h.stoX hB hm hk (x:=[]) (j:=0) (pk:=s.peak) (zE _) (by rw[u];simp;omega) J rfl rfl rfl rfl
 ·exact h.stoX hB hm hk (x:=ZP l) (j:=0) (pk:=max s.peak (Zs (B++Yq P)+Y1 l)) (wB _) (by rw[u];omega) (by rw[u];omega) rfl rfl rfl rfl
 ·exact h.add y hk hm hc (pk:=max s.peak (Zs (B++Yq P)+Y1 l)) (by rw[u];omega) rfl rfl
end
theorem AllD.cost {L:Loc}{p:Spec}{last:Zo}{has:Bool}{ds j:List Rd}{out:List Zg}(h:AllD L p last has ds out j):Y1 out<=UY ds:=by
 induction h with
 |done h=>simp[Y1]
 |more h k z =>
  obtain⟨y,u⟩:=h.cost;have:=u _ rfl;simp only[Y1]at this ⊢;omega
theorem Zam (f:Zg->Zg->Int):∀ (n:Nat) (rest:List (List Zg)),∀ s∈XK f n rest,s∈rest.flatten:=by
 intro n
 induction n with
 |zero=>intro rest s hs;cases hs
 |succ n z =>
  intro rest s hs
  cases hg:YO f rest 0 none with
  |none=>rw[N9 hg]at hs;cases hs
  |some p =>
   obtain⟨k,a⟩:=p;have hb:=Zgl f rest [] none (fun k a e=>(by cases e)) (fun _ l hl=>(by cases hl));rw[yL,yW]at hb;obtain⟨t,u⟩:=hb.1 k a hg;rw[K5 hg]at hs;have j:(rest.getD k []).drop 1=t:=by rw[yP,u];rfl
   rw[j]at hs;rcases zC.1 hs with e|hs
   ·exact yG.2 ⟨_,yA u,by simp[e]⟩
   ·obtain⟨l,hl,y⟩:=yG.1 (z _ s hs);rcases List.mem_or_eq_of_mem_set hl with h|h
    ·exact yG.2 ⟨l,h,y⟩
    ·subst h;exact yG.2 ⟨_,yA u,by simp[y]⟩
theorem Zii {L:Loc}{p:Spec}{ls:List (List Zg)}:∀ s∈Wr L p ls,s∈ls.flatten:=by
 intro s hs;unfold Wr T9 at hs;split at hs
 ·exact hs
 ·split at hs
  ·rcases Zks _ _ s hs with h|h
   ·cases h
   ·exact Zam _ _ _ s h
  ·exact Zam _ _ _ s hs
theorem ZhF (G:List Pr):Y1 (G.map (·.2)).flatten=ZN G:=by
 induction G with
 |nil=>rfl
 |cons x G j=>rw[zL,zQ,CW,j];rfl
theorem ZqH {L:Loc}{p:Spec}{G:List Pr}(h:∀ x∈G,YZ x.2=true):YZ (Wr L p (G.map (·.2)))=true:=by
 unfold YZ;rw[yV];intro s hs;obtain⟨l,hl,j⟩:=yG.1 (Zii s hs);obtain⟨x,hx,rfl⟩:=yD.1 hl;exact yV.1 (h x hx) s j
section
variable {o t:Nat}{A:List Nat}{a q:AV}{L:Loc}{p:Spec}(ha:LocAV a L)(hok:LocOk L)(hsm:LocSm L)(hq:SpecAV q p)(hks:∀ k∈p.keys,KeOk k)(hkl:p.keys.length<=1048576)
 {B:List Fil} (hB:BOk B) {tm:Tmp} {s:Sto} {P:List Pr} {k:Nat} (hX:XS B tm s P k) (hk:k<126) (hmn:P.length<42)
 {xn:AV} {G:List Pr} (hG:∀ x∈G,x∈P) (hG5:G.length<=64) (hx:SS xn (G.map (·.1))) (hcG:ZN P+ZN G<=100000)
include ha hok hsm hq hks hkl hB hX hk hmn hG hG5 hx hcG
theorem Zs4 {H:Hp}(h:SysAt H o t tm s A):∃ H' A' am s',NZ [.ptr o 0,a,q,xn] H=some (.tuple [.str (Y4 (k+1)),.int .i64 0],H') /\
 SysAt H' o t am s' A'/\XS B am s' (P++[(Y4 (k+1),Wr L p (G.map (·.2)))]) (k+1)/\Stp A H H'/\(∀ b∈A',b∈A\/H.length<=b):=by
 have ax:=ha;have be:=hq;obtain⟨lx,c,e,rfl,bs,bq,br⟩:=ha;obtain⟨xp,rfl,bw⟩:=hq;have bu:=hB.used;have bg:Zs (B++Yq P)=Zs B+ZN P:=by rw[W9,FV]
 have T:=hX.out hB;have ab:=h.lt;have ak:Ys (.pointer 124) .eql (.ptr o 0) .nilp=some (.bool false):=rfl;have g1:(H++[zA (L.cells lx c e),.cells (p.cells xp)])[H.length]?=some (.cells (L.cells lx c e)):=by simp
 have g2:(H++[zA (L.cells lx c e),.cells (p.cells xp)])[H.length+1]?=some (.cells (p.cells xp)):=by simp
 have ac:Stp A H (H++[zA (L.cells lx c e),.cells (p.cells xp)]):=Stp.push _ _;have V:(H++[zA (L.cells lx c e),.cells (p.cells xp)]).length=H.length+2:=by simp
 have E:SysAt (H++[zA (L.cells lx c e),.cells (p.cells xp)]) o t tm s A:=h.stp (C:=[]) (Stp.push _ _) (fun a ha=>by simp);have ae:ZO (.agg (p.cells xp)) (H++[zA (L.cells lx c e)])=some (.ptr (H.length+1) 0,H++[zA (L.cells lx c e),.cells (p.cells xp)]):=by rw[Yf];simp
 generalize bl:H++[zA (L.cells lx c e),.cells (p.cells xp)]=H0 at g1 g2 ac E ae V;have hm:=hX.tmOk;have bb:StoOk s:=hX.stoOk hB;obtain⟨H1,A1,p1,K⟩:=Zlu E hm bb (show tm.last<1000000 by rw[hX.tmE.2.2.2.1];omega);have hN:Tl tm s=((Y4 (k+1),0),({ tm with last:=tm.last+1,names:=tm.names++[Y4 (k+1)] },sF (B++Yq P) (Y4 (k+1)) (ZP []) s.peak)):=hX.new hB hk hmn;rw[hN]at p1 K;have W:=hX.tm1 hk;generalize u:({ tm with last:=tm.last+1,names:=tm.names++[Y4 (k+1)] }:Tmp)=tm1 at p1 K W;have ai:∀ i,H.length<=i->i∉A:=fun i hi ha=>by have:=ab i ha;omega
 have an:=K.stp.get g1 (ai _ (zE _));have ao:=K.stp.get g2 (ai _ (by omega));have bp:=K.stp.len;have ap:(G.map (·.1)).length=G.length:=zN ..;obtain⟨H2,rx,rs,r1,r2,r3,r4,r5,r6,r7,r8,r9⟩:=Zjz hx (by rw[ap];omega) o H1.length (.ptr H.length 0) (.ptr (H.length+1) 0) (.str (Y4 (k+1))) H (G.map (·.1)) [] .nils [] H1 rfl rfl (RowN.nil _ _ _) (zE _);have bt:rs.length=G.length:=by rw[r3,zN]
 have Z:=r5 _ _ an;have aa:=r5 _ _ ao;obtain⟨H3,g,bx,c',e',ca,bz,n1,n2,n3,n4,n5,n6,n7⟩:=Zlr ax hsm be hkl (rx:=rx) (rs:=rs) (by simpa using r2.sl) (by omega) H2;have y:=K.at'.lt;have bj:=n6.len;have bn:=Zh n2
 have al:∀ r∈rs,r<H2.length:=fun r hr=>by
  obtain⟨i,hi⟩:=yO hr;have bo:=(yJ.1 hi).1;obtain⟨rr,J,k2⟩:=r6 i (G.map (·.1))[i] (xC (by omega));rw[hi]at J;injection J with J;subst J;exact Zh k2
 have Y:=K.at'.frame (H':=H3) fun b hb=>(n6.at' b (by have:=y b hb;omega) (by simp)).trans (r4 b (y b hb));obtain⟨d1,d2⟩:=Zuo rs (G.map (·.1)) (G.map (·.2)) r3 (by simp)
 have af:∀ (i:Nat) (n:Zo) (l:List Zg),(G.map (·.1))[i]?=some n->(G.map (·.2))[i]?=some l->YZ l=true/\(ZP l).length<=262144/\(Yg tm1 n=0/\∃ f,ZQ (sF (B++Yq P) (Y4 (k+1)) (ZP []) s.peak).files n=some f/\f.text=ZP l)/\n≠Y4 (k+1):=fun i n l hn hl=>by
  rw[yI]at hn hl
  cases U:G[i]? with
  |none=>rw[U]at hn;cases hn
  |some x =>
   rw[U]at hn hl;cases hn;cases hl;have F:=hG x (yA U);have hc:=Zk0 F;have bm:=hX.cost;have aj:x.1≠Y4 (k+1):=fun e=>hX.fresh (by rw[<-e];exact zK F);refine⟨hX.fit x F,by rw[W2];exact xF hc (by omega),⟨?_,⟨x.1,ZP x.2,(ZP x.2).length⟩,?_,rfl⟩,aj⟩
   ·unfold Yg;rw[<-u,if_neg (by simp[hX.tmE.2.2.2.2]),if_pos (zZ _ (by rw[hX.tmE.2.1];exact zK F))]
   ·have:=hX.get hB F;rw[hX.stE.2.2.1]at this;exact (Zjt rfl aj).trans this
 have bf:∀ d∈Fd rs (G.map (·.1)) (G.map (·.2)),RdAt H3 o tm1 (sF (B++Yq P) (Y4 (k+1)) (ZP []) s.peak) A1 d:=fun d hd=>by
  obtain⟨i,r,n,l,e1,e2,e3,rfl⟩:=Zgy _ _ _ d hd;obtain⟨rr,J,k2⟩:=r6 i n e2;rw[yL]at *;rw[e1]at J;injection J with J;subst J;obtain⟨f1,f2,f3,_⟩:=af i n l e2 e3;refine⟨.inr (.inr ⟨[],?_,rfl⟩),fun hA=>?_,f1,f2,.inl f3⟩
  ·exact (n6.at' r (Zh k2) (by simp)).trans k2
  ·have:=y r hA;have:=r8 r (yA e1);omega
 have bc:Y4 (k+1)∉(Fd rs (G.map (·.1)) (G.map (·.2))).map Rd.n:=fun hh=>by
  obtain⟨d,hd,he⟩:=yD.1 hh;obtain⟨i,r,n,l,e1,e2,e3,rfl⟩:=Zgy _ _ _ d hd;exact (af i n l e2 e3).2.2.2 he
 have hsto:∀ (x:Zo) (pk:Nat),Zs (B++Yq P)+x.length<=262144->pk<=262144->StoOk (sF (B++Yq P) (Y4 (k+1)) x pk):=fun x pk hx bd =>
  hX.stoX hB hmn hk (j:=0) (wB _) hx bd rfl rfl rfl rfl
 have D:Y4 (k+1)∈tm1.names:=by rw[<-u];simp
 have X:Y4 (k+1)∉tm1.sld:=by rw[<-u];exact hX.unsld
 have Q:tm1.closed=false:=by rw[<-u];exact hX.tmE.2.2.2.2
 have ag:tm1.limit=262144:=by rw[<-u];exact hX.tmE.2.2.1
 have hgA:g∉A1:=fun hA=>by have:=y g hA;omega
 have az:g∉rs:=fun hr=>by have:=al g hr;omega
 obtain⟨H4,A4,I,out,bk,m1,m2,m3,m4,m5,m6,m7⟩:=Zov (o:=o) (t:=t) (g:=g) (tm:=tm1) (fs:=B++Yq P) (n:=Y4 (k+1)) (rs:=rs) W Q D X ag T hsto n3 hok n4 hks n5 r7 (by omega) az H
  (Yr (G.map (·.2))) (Fd rs (G.map (·.1)) (G.map (·.2))) [] false [] s.peak A1 H3 (by rw[<-LU,d2];exact zE _) (by rw[ZhE,d2,bg,ZhF];simp only[Y1];omega) hX.stE.2.1 (by simp) d1 bc Y bf n2 hgA
 have ah:=m2.merge;have ay:=m2.cost;rw[ZhE,d2,ZhF]at ay;rw[d2]at ah;subst ah;rw[yL]at m3 m5;have ba:=hsto (ZP (Wr L p (G.map (·.2)))) I (by rw[W2];exact m5) m4;obtain⟨H5,A5,t1,t2⟩:=Zlt m3 W ba (Y4 (k+1))
 have au:Tm tm1 (sF (B++Yq P) (Y4 (k+1)) (ZP (Wr L p (G.map (·.2)))) I) (Y4 (k+1))=(0,({ tm1 with sld:=Oz tm1.sld (Y4 (k+1)) },⟨262144,I,B++Yq P++[⟨Y4 (k+1),ZP (Wr L p (G.map (·.2))),(ZP (Wr L p (G.map (·.2)))).length⟩],false,0⟩)) :=
  Zne (tm:=tm1) (s:=sF (B++Yq P) (Y4 (k+1)) (ZP (Wr L p (G.map (·.2)))) I) (fs:=B++Yq P) rfl rfl Q D rfl T
 rw[au]at t1 t2;have z:Stp A H H1:=ac.trans K.stp (fun _ h=>h) fun b hb=>.inl hb;have aq:Stp A H H3:=⟨by have:=z.len;omega,fun i hi hn=>(n6.at' i (by have:=z.len;omega) (by simp)).trans ((r4 i (by have:=z.len;omega)).trans (z.at' i hi hn))⟩;have bh:=z.len;have M:∀ b∈A1,b∈A\/H.length<=b:=fun b hb=>(K.own b hb).imp id fun h=>by omega
 have ad:Stp A H H4:=aq.trans m6 (fun _ h=>h) fun b hb=>by
  rcases zB.1 hb with h|h
  ·rcases zC.1 h with h|h
   ·exact .inr (by omega)
   ·have:=r8 b h;exact .inr (by omega)
  ·exact M b h
 have O:∀ b∈A4,b∈A\/H.length<=b:=fun b hb=>by
  rcases m7 b hb with h|h
  ·exact M b h
  ·exact .inr (by omega)
 have ar:Stp A H H5:=ad.trans t2.stp (fun _ h=>h) O;have bi:=ad.len;refine⟨H5,A5,_,_,?_,t2.at',hX.add (ZqH fun x hx=>hX.fit x (hG x hx)) hk hmn (by omega) (pk:=I) m4 (by rw[<-u]) rfl,ar,fun b hb=>?_⟩
 ·have e0:((0:Int) != 0)=false:=rfl;have aw:=SS.len hx 9;rw[ZfP];unfold ZaL;simp only[Yf,go_sem,ae,ak,Zf2,p1,zF,zG,e0,Zf3,aw];refine r1.trans ?_;rw[Zf4];simp only[ZdQ Z,Gq aa,n1,go_sem];refine m1.trans ?_;rw[Zf5];simp only[t1,go_sem,e0,Zf6]
 ·rcases t2.own b hb with h|h
  ·exact O b h
  ·exact .inr (by omega)
end
theorem Zk1:∀ (l:List Zg),(∀ s∈l,s.length<=200)->Y1 l<=l.length*206:=by
 intro l
 induction l with
 |nil=>intro _;exact zE _
 |cons s l u =>
  intro h;have y:=h s (by simp);have z:=u fun t j=>h t (by simp[j]);simp only[Y1,zM];omega
theorem Zih (f:Zg->Zg->Int):∀ (n:Nat) (rest:List (List Zg)),(XK f n rest).length<=n:=by
 intro n
 induction n with
 |zero=>intro rest;exact zE _
 |succ n j =>
  intro rest
  cases hg:YO f rest 0 none with
  |none=>rw[N9 hg];simp
  |some p =>
   obtain⟨k,a⟩:=p;rw[K5 hg];have:=j (rest.set k ((rest.getD k []).drop 1));rw[zM];omega
theorem Zr8 (L:Loc)(p:Spec)(ls:List (List Zg)):(Wr L p ls).length<=Yr ls:=by
 have h:=Zih (ZL L p) (Yr ls) ls;have k:=Zkr (g:=XR L p) (XK (ZL L p) (Yr ls) ls) [];unfold Wr T9;split
 ·rw[LT];exact zE _
 ·split
  ·simp at k;omega
  ·exact h
def Y3:List Pr->Nat
 |[]=>0
 |x::P=>x.2.length+Y3 P
theorem Jj (P Q:List Pr):Y3 (P++Q)=Y3 P+Y3 Q:=by
 induction P with
 |nil=>simp[Y3]
 |cons x P j=>simp only[zR,Y3,j];omega
theorem Zoq {P Q:List Pr}(h:P.Perm Q):Y3 P=Y3 Q:=by
 induction h with
 |nil=>rfl
 |cons x _ z=>simp only[Y3,z]
 |swap x y l=>simp only[Y3];omega
 |trans _ _ j u=>exact j.trans u
theorem ZdP (G:List Pr):Yr (G.map (·.2))=Y3 G:=by
 induction G with
 |nil=>rfl
 |cons x G j=>show x.2.length+Yr (G.map (·.2))=_;rw[j];rfl
def ShortP (P:List Pr):Prop:=∀ x∈P,∀ s∈x.2,s.length<=200
theorem ShortP.cost {P:List Pr}(h:ShortP P):ZN P<=Y3 P*206:=by
 induction P with
 |nil=>simp[ZN]
 |cons x P u =>
  have z:=Zk1 x.2 (h x (by simp));have C:=u fun y j=>h y (by simp[j]);simp only[ZN,Y3,Nat.add_mul];omega
structure Stt where
 r:Int
 m:Int
 y:Int
 k:Int
def XN (o:Nat)(L:Loc)(lx c e:AV)(p:Spec)(xp x:AV)(st:Stt):List AV :=
 .ptr o 0::(L.cells lx c e++(p.cells xp++[x,.int .i64 st.r,.int .i64 st.m,.int .i64 st.y,.int .i64 st.k]))
section
variable {o:Nat}{L:Loc}{lx c e:AV}{p:Spec}{xp x:AV}{st:Stt}
theorem LW:(XN o L lx c e p xp x st).length=17:=rfl
theorem ZjK {H:Hp}{g:Nat}(h:H[g]?=some (.cells (XN o L lx c e p xp x st))):Z3 true 6 (.ptr g 1) H=some (.agg (L.cells lx c e)):=by
 rw[YE h];rfl
theorem ZgN {H:Hp}{g:Nat}(h:H[g]?=some (.cells (XN o L lx c e p xp x st))):Z3 true 5 (.ptr g 7) H=some (.agg (p.cells xp)):=by
 rw[YE h];rfl
def SrAt (H:Hp)(g o:Nat)(A:List Nat)(L:Loc)(lx c e:AV)(p:Spec)(xp:AV)(R:List Pr)(st:Stt)(S:List Nat):Prop :=
 ∃ x,H[g]?=some (.cells (XN o L lx c e p xp x st))/\NmAt H x (R.map (·.1))/\(∀ a∈g::ZG x,a∉A)/\(g::ZG x).Nodup/\S=g::ZG x
theorem NmAt.lt {H:Hp}{x:AV}{l:List Zo}(h:NmAt H x l):∀ a∈ZG x,a<H.length:=by
 intro a ha;rcases h with ⟨e,_⟩|⟨t,e,j,u⟩
 ·rw[e]at ha;cases ha
 ·rw[j]at ha;rw[zD.1 ha];exact Zh u
theorem SrAt.stp {H H':Hp}{g:Nat}{A A' S C:List Nat}{R:List Pr}(h:SrAt H g o A L lx c e p xp R st S)(hs:Stp C H H')(y:∀ a∈S,a∉C)(F:∀ a∈A',a∈A\/H.length<=a):SrAt H' g o A' L lx c e p xp R st S:=by
 obtain⟨x,u,j,z,D,rfl⟩:=h;refine⟨x,hs.get u (y g (by simp)),j.frame fun a ha=>hs.at' a (j.lt a ha) (y a (by simp[ha])),fun a ha E=>?_,D,rfl⟩
 have hl:a<H.length:=by
  rcases zC.1 ha with e|ha
  ·rw[e];exact Zh u
  ·exact j.lt a ha
 rcases F a E with k|k
 ·exact z a ha k
 ·omega
theorem SrAt.off {H:Hp}{g:Nat}{A S:List Nat}{R:List Pr}(h:SrAt H g o A L lx c e p xp R st S):∀ a∈S,a∉A:=by
 obtain⟨x,_,_,j,_,rfl⟩:=h;exact j
theorem SrAt.lt {H:Hp}{g:Nat}{A S:List Nat}{R:List Pr}(h:SrAt H g o A L lx c e p xp R st S):∀ a∈S,a<H.length:=by
 obtain⟨x,j,u,_,_,rfl⟩:=h;intro a ha;rcases zC.1 ha with e|ha
 ·rw[e];exact Zh j
 ·exact u.lt a ha
end
theorem Zqi {x:AV}{l:List Zg}(hx:SS x l)(C:Xg l)(hl:l.length<=1048576)(D H:Hp):∀ (r d:List Zg),l=d++r ->
 Kp (.int .i64 (XP cS d)) x (.int .i64 (l.length:Int)) (.int .i64 (d.length:Int)) D H=some (.int .i64 (XP cS l),H):=by
 intro r
 induction r with
 |nil =>
  intro d hd;rw[zP]at hd;subst hd;have j:decide ((l.length:Int)<(l.length:Int))=false:=by simp
  rw[Nu];simp only[go_sem,j,Zdr]
 |cons s r I =>
  intro d hd;have hlen:l.length=d.length+(r.length+1):=by rw[hd];simp
  have j:decide ((d.length:Int)<(l.length:Int))=true:=by rw[decide_eq_true_eq];omega
  have z:l[d.length]?=some s:=by rw[hd,zH (zE _)];simp
  have u:=SS.idx hx z;have hs:s.length<=1048576:=C s (yA z);have hb:=Zfv d fun y F=>C y (by rw[hd];simp[F]);have E:(d.length:Int)*1048592<=1048576*1048592:=Int.mul_le_mul_of_nonneg_right (by omega) (by omega);have J:wD.wrap ((s.length:Int)+16)=(s.length:Int)+16:=Zr (by omega) (by omega);have K:wD.wrap (XP cS d+((s.length:Int)+16))=XP cS (d++[s]):=by rw[Zr (by omega) (by omega),Zd7];rfl
  have M:wD.wrap ((d.length:Int)+1)=((d++[s]).length:Int):=by rw[Zr (by omega) (by omega)];simp
  rw[Nu];simp only[go_sem,j,Zds,u,ZE,J,K,Zdt,M];exact I (d++[s]) (by rw[hd];simp)
theorem Zqh {x:AV}{l:List Zg}(hx:SS x l)(y:Xg l)(hl:l.length<=1048576)(H:Hp):Ze P8 [x] H=some (.int .i64 (XP cS l),H):=by
 obtain⟨z,u,j⟩:=SS.closed hx [] 0 7;refine Vt (args':=[z]) (H1:=[]) (by rw[xT,u];rfl) ?_ rfl;rw[ZeD];unfold I8;have hn:=SS.len j 9;simp only[go_sem,hn];exact Zqi j y hl [] [] l [] rfl
section
variable {o g t:Nat}{L:Loc}{lx c e:AV}{p:Spec}{xp:AV}{B:List Fil}{tm:Tmp}{s:Sto}{P R:List Pr}{k:Nat}{A S:List Nat}{st:Stt}{H:Hp}
theorem ZgU (hB:BOk B)(hX:XS B tm s P k)(h:SysAt H o t tm s A)(J:SrAt H g o A L lx c e p xp R st S) :
 ∃ H',W3 [.ptr g 0] H=some (.tuple [],H')/\SysAt H' o t tm s A/\SrAt H' g o A L lx c e p xp R { st with k:=max st.k (ZN P:Int) } S/\Stp S H H':=by
 obtain⟨x,z,I,E,C,rfl⟩:=J;have F:=ZxV h hX.tmOk (hX.stoOk hB);rw[if_neg (by simp[hX.tmE.2.2.2.2]),hX.used hB]at F;have D:=ZW z 16 (v:=.int .i64 st.k) rfl;have K:=ZW z 0 (v:=.ptr o 0) rfl;have y:=Qb z 16 (v:=.int .i64 (max st.k (ZN P:Int))) rfl rfl (by rw[LW];omega);have j:(XN o L lx c e p xp x st).set 16 (.int .i64 (max st.k (ZN P:Int)))=XN o L lx c e p xp x { st with k:=max st.k (ZN P:Int) }:=rfl;rw[j]at y;have u:Stp (g::ZG x) H (H.set g (.cells (XN o L lx c e p xp x { st with k:=max st.k (ZN P:Int) }))):=Stp.set _ _ (by simp);refine⟨_,?_,h.stp u fun a ha hg=>E a hg ha,⟨x,Zt _ z,I.frame fun a ha=>?_,E,C,rfl⟩,u⟩
 ·rw[E9];unfold FE;simp only[go_sem,zI,yU,D,K,F,y]
 ·refine xI fun e=>?_;rw[zU]at C;exact C.1 (e ▸ ha)
end
def Fz (L:Loc)(p:Spec)(k:Nat)(c:List Zg):Pr:=(Y4 (k+1),ZJ L p c)
def wP (L:Loc)(p:Spec):List Pr->Nat->List (List Zg)->List Pr
 |P,_,[]=>P
 |P,k,c::r=>wP L p (P++[Fz L p k c]) (k+1) r
def wT (L:Loc)(p:Spec):List Pr->Nat->Stt->List (List Zg)->Stt
 |_,_,st,[]=>st
 |P,k,st,c::r=>wT L p (P++[Fz L p k c]) (k+1) ⟨st.r+1,st.m,max st.y (XP cS c),max st.k (ZN (P++[Fz L p k c]):Int)⟩ r
theorem ZAa (L:Loc)(p:Spec):∀ (r:List (List Zg)) (P:List Pr) (k:Nat),(wP L p P k r).length=P.length+r.length:=by
 intro r
 induction r with
 |nil=>intro P k;simp[wP]
 |cons c r j=>intro P k;simp only[wP,j];simp;omega
theorem ZAb (L:Loc)(p:Spec):∀ (r:List (List Zg)) (P:List Pr) (k:Nat),(wP L p P k r).map (·.2)=P.map (·.2)++r.map (ZJ L p):=by
 intro r
 induction r with
 |nil=>intro P k;simp[wP]
 |cons c r j=>intro P k;simp only[wP,j];simp[Fz]
theorem Zs1 {L:Loc}{p:Spec}{k:Nat}{c:List Zg}(h:∀ s∈c,s.length<=200):∀ s∈(Fz L p k c).2,s.length<=200:=fun s hs=>h s (NH L p c s hs)
section
variable {o g t:Nat}{L:Loc}{lx cl e:AV}{p:Spec}{xp:AV}{B:List Fil}(hB:BOk B)
 (hl:LocAV (.agg (L.cells lx cl e)) L) (hok:LocOk L) (hs:SpecAV (.agg (p.cells xp)) p) (hks:∀ k∈p.keys,KeOk k)
 {x13:AV} {cs:List (List Zg)} (hx:LsV x13 cs) (hcl:cs.length<=40) (hcs:∀ c∈cs,c.length<=40/\∀ s∈c,s.length<=200)
include hB hl hok hs hks hx hcl hcs
theorem Zs3 (H0:Hp):∀ (r d:List (List Zg)) (P:List Pr) (k:Nat) (st:Stt) (tm:Tmp) (s:Sto) (A S:List Nat) (H:Hp),cs=d++r->k+r.length<=60->P.length+r.length<=41->ShortP P->Y3 P+r.flatten.length<=80 ->
 0<=st.r/\st.r+(r.length:Int)<=1000->XS B tm s P k->SysAt H o t tm s A->SrAt H g o A L lx cl e p xp P st S ->
 ∃ H' A' S' I s',WI (.ptr g 0) x13 (.int .i64 (cs.length:Int)) (.int .i64 (d.length:Int)) H0 H=some (.int .i64 0,H')/\SysAt H' o t I s' A'/\XS B I s' (wP L p P k r) (k+r.length) /\
  SrAt H' g o A' L lx cl e p xp (wP L p P k r) (wT L p P k st r) S'/\Stp (S++A) H H'/\(∀ a∈A',a∈A\/H.length<=a)/\(∀ a∈S',a∈S\/H.length<=a):=by
 intro r
 induction r with
 |nil =>
  intro d P k st tm s A S H hd _ _ _ _ _ hX C hS;rw[zP]at hd;subst hd;have T:decide ((cs.length:Int)<(cs.length:Int))=false:=by simp
  refine⟨H,A,S,tm,s,?_,C,hX,hS,Stp.refl _ _,fun a h=>.inl h,fun a h=>.inl h⟩;rw[JP];simp only[go_sem,T,Mf]
 |cons j r ih =>
  intro d P k st tm s A S H hd hk hm af ax ay hX C hS;have hlen:cs.length=d.length+(r.length+1):=by rw[hd];simp
  simp only[zM,zQ,zJ]at hk hm ax;rw[zM]at ay;have T:decide ((d.length:Int)<(cs.length:Int))=true:=by rw[decide_eq_true_eq];omega
  have ad:cs[d.length]?=some j:=by rw[hd,zH (zE _)];simp
  obtain⟨c1,c2⟩:=hcs j (yA ad);obtain⟨pt,av,q1,q2,q3⟩:=hx.get ad H;have az:wD.wrap ((d.length:Int)+1)=((d++[j]).length:Int):=by rw[Zr (by omega) (by omega)];simp
  have au:=hS.off;have bj:=hS.lt;have bh:=C.lt;obtain⟨x,g1,g2,g3,g4,g5⟩:=hS;have l0:=ZW g1 0 (v:=.ptr o 0) rfl;have l1:=ZjK g1;have l7:=ZgN g1;have bp:(ZJ L p j).length<=j.length:=HO L p j;have u:∀ y∈ZJ L p j,y.length<=200:=fun y D=>c2 y (NH L p j y D)
  have O:YZ (ZJ L p j)=true:=by
   unfold YZ;rw[yV];intro y D;have:=u y D;simp;omega
  have bl:=Zk1 _ u;have bk:=af.cost;have bn:(ZJ L p j).length*206<=40*206:=xL _ (by omega);have bo:Y3 P*206<=80*206:=xL _ (by omega);have M:ZN P+Y1 (ZJ L p j)<=100000:=by omega
  have ag:ShortP (P++[Fz L p k j]):=fun y D=>by
   rcases zB.1 D with h|h
   ·exact af y h
   ·rw[zD.1 h];exact Zs1 c2
  obtain⟨tm1,s1,s2,al,s3,w1,w2,w3,w4,w5,w6,w7⟩:=hX.write hB O (by omega) (by omega) M;obtain⟨H1,A1,r1,V⟩:=Zs9 C hX.tmOk (hX.stoOk hB) (by rw[hX.tmE.2.2.2.1];omega) hl hok hs hks q3 (fun y D=>by have:=c2 y D;omega) (by omega) (by omega) (fun y D=>by have:=u y D;omega) w1 w2 w3 w4 w5 w6;have ar:SrAt H1 g o A1 L lx cl e p xp P st S:=SrAt.stp ⟨x,g1,g2,g3,g4,g5⟩ V.stp au V.own;obtain⟨H2,u1,u2,u3,u4⟩:=ZgU hB w7 V.at' ar
  -- the name is kept
  obtain⟨x2,k1,k2,k3,k4,k5⟩:=u3;have bb:=ZW k1 12 (v:=x2) rfl;obtain⟨x3,H3,n1,n2,n3,n4,n5,n6,n7⟩:=k2.app (Y4 (k+1)) (by simp;omega);have aj:=zU.1 k4;have ai:H3[g]?=some (.cells (XN o L lx cl e p xp x2 { st with k:=max st.k (ZN (P++[(Y4 (k+1),ZJ L p j)]):Int) })):=n3.get k1 aj.1;have W:=Qb ai 12 (v:=x3) n5 n6 (by rw[LW];omega);have am:((XN o L lx cl e p xp x2 { st with k:=max st.k (ZN (P++[(Y4 (k+1),ZJ L p j)]):Int) }).set 12 x3)=XN o L lx cl e p xp x3 { st with k:=max st.k (ZN (P++[(Y4 (k+1),ZJ L p j)]):Int) }:=rfl;rw[am]at W;have E:=Zt (zA (XN o L lx cl e p xp x3 { st with k:=max st.k (ZN (P++[(Y4 (k+1),ZJ L p j)]):Int) })) ai;generalize ap:H3.set g (.cells (XN o L lx cl e p xp x3 { st with k:=max st.k (ZN (P++[(Y4 (k+1),ZJ L p j)]):Int) }))=H4 at W E;have bc:=ZW E 13 (v:=.int .i64 st.r) rfl;have wr:wD.wrap (st.r+1)=st.r+1:=Zr (by omega) (by omega);have X:=Qb E 13 (v:=.int .i64 (st.r+1)) rfl rfl (by rw[LW];omega);have an:((XN o L lx cl e p xp x3 { st with k:=max st.k (ZN (P++[(Y4 (k+1),ZJ L p j)]):Int) }).set 13 (.int .i64 (st.r+1)))=XN o L lx cl e p xp x3 { st with r:=st.r+1,k:=max st.k (ZN (P++[(Y4 (k+1),ZJ L p j)]):Int) }:=rfl;rw[an]at X;have F:=Zt (zA (XN o L lx cl e p xp x3 { st with r:=st.r+1,k:=max st.k (ZN (P++[(Y4 (k+1),ZJ L p j)]):Int) })) E;generalize aq:H4.set g (.cells (XN o L lx cl e p xp x3 { st with r:=st.r+1,k:=max st.k (ZN (P++[(Y4 (k+1),ZJ L p j)]):Int) }))=H5 at X F;have bd:=ZW F 15 (v:=.int .i64 st.y) rfl;have aw:=Zqh q3 (fun y D=>by have:=c2 y D;omega) (by omega) H5;have Y:=Qb F 15 (v:=.int .i64 (max st.y (XP cS j))) rfl rfl (by rw[LW];omega);have ao:((XN o L lx cl e p xp x3 { st with r:=st.r+1,k:=max st.k (ZN (P++[(Y4 (k+1),ZJ L p j)]):Int) }).set 15 (.int .i64 (max st.y (XP cS j))))=XN o L lx cl e p xp x3 ⟨st.r+1,st.m,max st.y (XP cS j),max st.k (ZN (P++[(Y4 (k+1),ZJ L p j)]):Int)⟩:=rfl;rw[ao]at Y;have ah:=Zt (zA (XN o L lx cl e p xp x3 ⟨st.r+1,st.m,max st.y (XP cS j),max st.k (ZN (P++[(Y4 (k+1),ZJ L p j)]):Int)⟩)) F;have t4:Stp [g] H3 H4:=by rw[<-ap];exact Stp.set _ _ (by simp)
  have t5:Stp [g] H4 H5:=by rw[<-aq];exact Stp.set _ _ (by simp)
  have t6:Stp [g] H5 (H5.set g (.cells (XN o L lx cl e p xp x3 ⟨st.r+1,st.m,max st.y (XP cS j),max st.k (ZN (P++[(Y4 (k+1),ZJ L p j)]):Int)⟩))):=Stp.set _ _ (by simp);generalize bi:H5.set g (.cells (XN o L lx cl e p xp x3 ⟨st.r+1,st.m,max st.y (XP cS j),max st.k (ZN (P++[(Y4 (k+1),ZJ L p j)]):Int)⟩))=H6 at Y ah t6;have ak:Stp [g] H3 H6:=(t4.trans t5 (fun _ h=>h) fun a h=>.inl h).trans t6 (fun _ h=>h) fun a h=>.inl h;have Z:Stp (g::ZG x2) H2 H6:=(n3.mono fun a ha=>xJ _ ha).trans ak (fun _ h=>h) fun a h=>.inl (by rw[zD.1 h];simp);have Q:∀ a∈g::ZG x2,a∈S:=fun a ha=>by rw[k5];exact ha
  have bf:=u4.len;have be:=V.stp.len;have bg:=Z.len;have aa:=V.at'.lt;have U:SysAt H6 o t al s3 A1:=u2.stp Z fun a ha hg=>k3 a hg ha;have z:∀ a∈ZG x3,a∈ZG x2\/a=H2.length:=n4
  have ab:SrAt H6 g o A1 L lx cl e p xp (P++[Fz L p k j]) ⟨st.r+1,st.m,max st.y (XP cS j),max st.k (ZN (P++[Fz L p k j]):Int)⟩ (g::ZG x3):=by
   have bm:=Zh k1
   have K:g∉ZG x3:=fun hg=>by
    rcases z g hg with h|h
    ·exact aj.1 h
    ·omega
   refine⟨x3,ah,?_,fun a ha hA=>?_,zU.2 ⟨K,n7⟩,rfl⟩
   ·have:(P++[Fz L p k j]).map (·.1)=P.map (·.1)++[Y4 (k+1)]:=by simp[Fz]
    rw[this];exact n2.frame fun a ha=>ak.at' a (n2.lt a ha) (by simp;exact fun e=>K (e ▸ ha))
   ·rcases zC.1 ha with h|h
    ·exact k3 g (by simp) (h ▸ hA)
    ·rcases z a h with h|h
     ·exact k3 a (by simp[h]) hA
     ·have:=aa a hA;omega
  have ba:=ih (d++[j]) (P++[Fz L p k j]) (k+1) ⟨st.r+1,st.m,max st.y (XP cS j),max st.k (ZN (P++[Fz L p k j]):Int)⟩ al s3 A1 (g::ZG x3) H6 (by rw[hd];simp) (by omega) (by simp;omega) ag (by
   rw[Jj];simp only[Y3,Fz];omega) ⟨by show 0<=st.r+1;omega,by show st.r+1+(r.length:Int)<=1000;omega⟩ w7 U ab
  obtain⟨H',A',S',I,s',m1,m2,m3,m4,m5,m6,m7⟩:=ba;have J:=V.own
  have ac:∀ a∈g::ZG x3,a∈S\/H.length<=a:=fun a ha=>by
   rcases zC.1 ha with h|h
   ·exact .inl (h ▸ Q g (by simp))
   ·rcases z a h with h|h
    ·exact .inl (Q a (by simp[h]))
    ·exact .inr (by omega)
  refine⟨H',A',S',I,s',?_,m2,?_,m4,?_,fun a ha=>?_,fun a ha=>?_⟩
  ·have ae:(ZA 1 [(0,zO (Y4 (k+1)))] [(.str [])]).map (AV.vs 1 .clip)=some (.vs 1 .clip [.str (Y4 (k+1))]):=rfl;have e0:((0:Int) != 0)=false:=rfl;rw[JP];simp only[go_sem,T,Mg,q1,q2,zI,l0,l1,l7,r1,zF,zG,e0,Mi,u1,bb,ae,n1,W,yU,yN,bc,wr,X,bd,aw,Y,Mh,az];exact m1
  ·rw[show k+(j::r).length=k+1+r.length by simp;omega];exact m3
  ·have b1:Stp (S++A) H H1:=V.stp.mono fun a ha=>zY _ ha;have b2:Stp (S++A) H H2:=b1.trans u4 (fun _ h=>h) fun a h=>.inl (zZ _ h);have b3:Stp (S++A) H H6:=b2.trans Z (fun _ h=>h) fun a h=>.inl (zZ _ (Q a h));refine b3.trans m5 (fun _ h=>h) fun a h=>?_;rcases zB.1 h with h|h
   ·exact (ac a h).imp (fun h=>zZ _ h) id
   ·exact (J a h).imp (fun h=>zY _ h) id
  ·rcases m6 a ha with h|h
   ·exact J a h
   ·exact .inr (by omega)
  ·rcases m7 a ha with h|h
   ·exact ac a h
   ·exact .inr (by omega)
end
end Go.Am
