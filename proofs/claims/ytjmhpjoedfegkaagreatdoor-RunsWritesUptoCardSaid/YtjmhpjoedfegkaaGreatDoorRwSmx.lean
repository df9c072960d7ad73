/- Temporary files in the machine -/
import Derived.Test.YtjmhpjoedfegkaaGreatDoorRwSjx
import Derived.Test.YtjmhpjoedfegkaaGreatDoorRwGXx
import Derived.Test.YtjmhpjoedfegkaaGreatDoorRwXx
import Derived.Test.YtjmhpjoedfegkaaGreatDoorRwMzx
import Derived.Test.YtjmhpjoedfegkaaGreatDoorHmXx
open Option renaming some->N,none->V
open Bool renaming true->I,false->X
open List renaming length->O
open Go.dw renaming b5->Y,dh->U
open Go.Am.AV renaming int->Q
open Go.IntKind renaming i64->J
open Go.IntKind renaming i64->xH
open List renaming getElem?_append_left->zB,length_nil->zC,getElem?_append_right->zD,filter_cons->zF,set->zH,mem_singleton->zI,pairwise_cons->zJ,length_cons->zK,getElem?_eq_some_iff->zL,mem_cons->zN,getElem?_cons_zero->zO,getElem?_cons_succ->zP,length_append->zQ,length_take->zR,length_singleton->zU,nil_append->zV,mem_append->zW,mem_of_getElem?->zX,length_drop->zY,cons_append->zZ,append_assoc->yA,mem_of_mem_take->yB,mem_of_mem_drop->yC,filter_append->yD,take_append_drop->yF,getElem?_of_mem->yG,mem_filter->yH,foldl_cons->yI,isEmpty_cons->yK,getLast?_eq_none_iff->yL,getLast?_eq_getElem?->yM,getElem?_eq_getElem->yO,length_eq_zero_iff->yP,length_map->yQ,filter_eq_nil_iff->yR,append_nil->yS,pairwise_append->yU,all_cons->yV,length_pos_iff->yW,getElem?_drop->yY,map_append->xB,mapM_cons->xC,mapM_nil->xE
open Nat renaming le_refl->zG,zero_add->zM,le_trans->yZ,le_add_right->xA
open Bool renaming not_true->zS,not_false->zT,false_eq_true->yJ,true_and->yN,or_assoc->xD
open Int renaming le_refl->yT
open Go.Am.AObj renaming cells->zA,row->yE,tok->yX,dead->xF
open Go.Am.AV renaming str->zE
open List.Sublist renaming refl->xG
namespace Go.Am
set_option linter.unusedSectionVars false
set_option maxRecDepth 100000
theorem C9 {s:Sto}(u:s.crashed=X)(j:s.count=0):s.tick=s:=by
 unfold Sto.tick;rw[if_neg (by simp[u]),if_neg Y];cases s;simp only at j;subst j;rfl
theorem SysAt.same {H H':Hp}{o t:Nat}{tm:Tmp}{s':Sto}{B S:dv}(u:TmpAt H o t tm B)(j:∀ a∈B,a∉S)(hr:StoRes H H' t s' S S):SysAt H' o t tm s' (B++S) :=
 ⟨B,S,u.stp hr.stp j,hr.at',j,rfl⟩
section
variable {H:Hp}{o t:Nat}{tm:Tmp}{s:Sto}{A:dv}(h:SysAt H o t tm s A)(hm:TmpOk tm)(hk:StoOk s)(n:Zj)
include h hm hk
theorem Zsr (hf:ZI tm n≠0)(i:Int):YH [.ptr o 0,.str n,Q J i] H=N (.tuple [.str [],Q J 0,Q J (ZI tm n)],H):=by
 obtain⟨B,S,⟨C,u,D,sl,w,rfl⟩,y,z,rfl⟩:=h;have j:=Rl w hm n;have e0:(ZI tm n != 0)=I:=by simpa using hf
 rw[Wy];unfold Wl;simp only[j,go_sem,e0]
theorem Zss (hf:ZI tm n=0)(hc:s.tick.crashed=X){f:Fil}(hg:Y2 s.files n=N f){p:Zj}{rest:List Zj}(E:f.text=p++Ym rest)(hfit:Wq rest=I)(hlen:O f.text<=262144) :
 ∃ H',YH [.ptr o 0,.str n,Q J (O p:Int)] H=N (match rest with
  |[]=>.tuple [.str [],Q J 0,Q J 5]
  |l::_=>.tuple [.str l,Q J ((p++X0 l).length:Int),Q J 0],H')/\SysAt H' o t tm s.tick A/\Stp A H H':=by
 obtain⟨B,S,u,R,T,rfl⟩:=h;have Z:=u;obtain⟨ms,P,nx,sl,u,rfl⟩:=u;have w:=Rl u hm n;have L:=ZZ u.cells 0 (v:=.ptr t 0) rfl;have e0:(ZI tm n != 0)=X:=by rw[hf];rfl
 have G:((0:Int) != 0)=X:=rfl;have ab:O p<=O f.text:=by rw[E];simp
 obtain⟨H1,F,M⟩:=Zmh R hk n (O p:Int) 4102 Y
 have C:s.read n (O p:Int) 4102=((Ym rest).take 4102,0):=by
  unfold Sto.read;rw[if_neg (by simp[hc]),hg];dsimp only;rw[if_neg Y,Int.toNat_natCast,E,List.drop_append_of_le_length (zG _),List.drop_length];rfl
 rw[C]at F;refine⟨H1,?_,SysAt.same Z T M,M.stp.mono λa ha=>by simp[ha]⟩;rw[Wy];unfold Wl
 cases rest with
 |nil =>
  have j:((Ym ([]:List Zj)).take 4102==([]:Zj))=I:=rfl;simp only[w,go_sem,e0,zM,U4,L,F,zO,zP,G,U5,j]
 |cons l r =>
  have hl:O l<=4096:=by
   simp only[Wq,yV,Bool.and_eq_true,decide_eq_true_eq]at hfit;exact hfit.1
  have z:(Ym (l::r)).take 4102=X0 l++(Ym r).take (4102-(X0 l).length):=by
   show (X0 l++Ym r).take 4102=_;rw[List.take_append,List.take_of_length_le (by rw[Kq];omega)]
  have j:((Ym (l::r)).take 4102==([]:Zj))=X:=by
   rw[z];have:(X0 l).length≠0:=by rw[Kq];omega
   cases hr:X0 l with
   |nil=>rw[hr]at this;simp at this
   |cons a b=>rfl
  have y:=Zuf l ((Ym r).take (4102-(X0 l).length)) hl (by
   rw[zR];omega) H1
  rw[<-z]at y
  have aa:(Ym (l::r)).length<=262144:=by
   have:=congrArg List.length E;rw[zQ]at this;omega
  have D:(X0 l).length=O l+6:=Kq l
  have hw:xH.wrap ((O p:Int)+((O l+6:Nat):Int))=((p++X0 l).length:Int):=by
   rw[zQ,D,Zl Y Y];omega
  simp only[w,go_sem,e0,zM,U4,L,F,zO,zP,G,U5,j,U6,y,GG,hw]
end
abbrev JG (o:Nat)(n:Zj)(i:Nat)(held fin:Bool)(j:Zj):du:=[.ptr o 0,.str n,Q J (i:Int),.bool held,.bool fin,.str j]
def Rdr (H:Hp)(r o:Nat)(n text:Zj)(rest:List Zj):Prop :=
 (∃ l q p,H[r]?=N (.cells (JG o n (p++X0 l).length I X l))/\rest=l::q/\text=p++X0 l++Ym q) \/
 (rest=[]/\∃ p,H[r]?=N (.cells (JG o n p X I []))) \/
 ∃ p,H[r]?=N (.cells (JG o n (O p) X X []))/\text=p++Ym rest
section
variable {H:Hp}{o t:Nat}{tm:Tmp}{s:Sto}{A:dv}(h:SysAt H o t tm s A)(hm:TmpOk tm)(hk:StoOk s){n:Zj}{r:Nat}{f:Fil}{rest:List Zj}
 (hr:Rdr H r o n f.text rest) (hrA:r∉A) (hf:ZI tm n=0) (hc:s.crashed=X) (h0:s.count=0) (hg:Y2 s.files n=N f) (hfit:Wq rest=I) (hlen:O f.text<=262144)
include h hm hk hr hrA hf hc h0 hg hfit hlen
theorem Zmf:∃ H',Wj [.ptr r 0] H=N (.tuple [.str (rest.headD []),.bool (!rest.isEmpty),Q J 0],H')/\SysAt H' o t tm s A/\Stp (r::A) H H' /\
 (rest=[]/\(∃ p,H'[r]?=N (.cells (JG o n p X I [])))\/∃ l q p,H'[r]?=N (.cells (JG o n (p++X0 l).length I X l))/\rest=l::q/\f.text=p++X0 l++Ym q):=by
 have F:=C9 hc h0;have j:Y5 (.pointer 104) .eql (.ptr r 0) .nilp=N (.bool X):=rfl;rw[RI];unfold GV;rcases hr with ⟨l,q,p,hr,rfl,y⟩|⟨rfl,p,hr⟩|⟨p,hr,y⟩
 ·have D:=ZZ hr 3 (v:=.bool I) rfl;have l5:=ZZ hr 5 (v:=.str l) rfl;refine⟨H,?_,h,Stp.refl _ _,.inr ⟨l,q,p,hr,rfl,y⟩⟩;simp only[go_sem,zM,j,Yp,D,zS,YB,Vm,l5];rfl
 ·have D:=ZZ hr 3 (v:=.bool X) rfl;have L:=ZZ hr 4 (v:=.bool I) rfl;refine⟨H,?_,h,Stp.refl _ _,.inl ⟨rfl,p,hr⟩⟩;simp only[go_sem,zM,j,Yp,D,L,zS,zT,YB];rfl
 ·have D:=ZZ hr 3 (v:=.bool X) rfl;have L:=ZZ hr 4 (v:=.bool X) rfl;have l0:=ZZ hr 0 (v:=.ptr o 0) rfl;have l1:=ZZ hr 1 (v:=.str n) rfl;have l2:=ZZ hr 2 (v:=Q J (O p:Int)) rfl;obtain⟨H1,q1,q2,q3⟩:=Zss h hm hk n hf (by rw[F];exact hc) hg y hfit hlen;rw[F]at q2;have G:=q3.get hr hrA
  cases rest with
  |nil =>
   have e5:((5:Int)==0)=X:=rfl;have P:((5:Int)==5)=I:=rfl;have s4:=Wp G 4 (v:=.bool I) rfl rfl U;have E:=Zu (zA (zH (JG o n (O p) X X []) 4 (.bool I))) G;have k3:=ZZ E 3 (v:=.bool X) rfl;have u:Stp (r::A) H1 (H1.set r (.cells (zH (JG o n (O p) X X []) 4 (.bool I)))):=Stp.set _ _ U;refine⟨H1.set r (.cells (zH (JG o n (O p) X X []) 4 (.bool I))),?_,q2.stp (C:=[r]) (Stp.set _ _ U) (λa w=>by simp;exact λe=>hrA (e ▸ w)),(q3.mono (B:=r::A) λa w=>by simp[w]).trans u (λ_ h=>h) (λ_ h=>.inl h),.inl ⟨rfl,O p,E⟩⟩;simp only[go_sem,zM,j,Yp,D,L,l0,l1,l2,q1,zO,zP,e5,P,s4,YB,k3,zT];rfl
  |cons l q =>
   have ez:((0:Int)==0)=I:=rfl;have s5:=Wp G 5 (v:=.str l) rfl rfl U;have E:=Zu (zA (zH (JG o n (O p) X X []) 5 (.str l))) G;have s2:=Wp E 2 (v:=Q J ((p++X0 l).length:Int)) rfl rfl U;have R:=Zu (zA (zH (zH (JG o n (O p) X X []) 5 (.str l)) 2 (Q J ((p++X0 l).length:Int)))) E;have M:=Wp R 3 (v:=.bool I) rfl rfl U;have z:=Zu (zA (zH (zH (zH (JG o n (O p) X X []) 5 (.str l)) 2 (Q J ((p++X0 l).length:Int))) 3 (.bool I))) R;generalize S:H1.set r (.cells (zH (JG o n (O p) X X []) 5 (.str l)))=H2 at s5 s2 R M z;generalize T:H2.set r (.cells (zH (zH (JG o n (O p) X X []) 5 (.str l)) 2 (Q J ((p++X0 l).length:Int))))=H3 at s2 M z;generalize Z:H3.set r (.cells (zH (zH (zH (JG o n (O p) X X []) 5 (.str l)) 2 (Q J ((p++X0 l).length:Int))) 3 (.bool I)))=H4 at M z;have k3:=ZZ z 3 (v:=.bool I) rfl;have k5:=ZZ z 5 (v:=.str l) rfl
   have u:Stp [r] H1 H4:=by
    rw[<-Z,<-T,<-S];exact ((Stp.set _ _ U).trans (Stp.set _ _ U) (λ_ h=>h) λ_ h=>.inl h).trans (Stp.set _ _ U) (λ_ h=>h) λ_ h=>.inl h
   refine⟨H4,?_,q2.stp u (λa w=>by simp;exact λe=>hrA (e ▸ w)),(q3.mono (B:=r::A) λa w=>by simp[w]).trans (u.mono (B:=r::A) λa w=>by rw[zI.1 w];simp) (λ_ h=>h) (λ_ h=>.inl h),.inr ⟨l,q,p,z,rfl,by rw[y];simp[Ym]⟩⟩;simp only[go_sem,zM,j,Yp,D,L,l0,l1,l2,q1,zO,zP,ez,s5,s2,M,YB,k3,zS,zT,Vm,k5];rfl
theorem Zvt:∃ H',Vo [.ptr r 0] H=N (.tuple [.str (rest.headD []),.bool (!rest.isEmpty),Q J 0],H')/\SysAt H' o t tm s A/\Stp (r::A) H H'/\Rdr H' r o n f.text rest.tail:=by
 obtain⟨H1,L,M,P,T⟩:=Zmf h hm hk hr hrA hf hc h0 hg hfit hlen;rw[RH];unfold GU;rcases T with ⟨rfl,p,u⟩|⟨l,q,p,u,rfl,D⟩
 ·refine⟨H1,?_,M,P,.inr (.inl ⟨rfl,p,u⟩)⟩;simp only[L,go_sem,zO,zP,List.isEmpty_nil,zS,Vl]
 ·have R:=Wp u 3 (v:=.bool X) rfl rfl U;have G:=Zu (zA (zH (JG o n (p++X0 l).length I X l) 3 (.bool X))) u;have E:=Wp G 5 (v:=.str []) rfl rfl U;have w:=Zu (zA (zH (zH (JG o n (p++X0 l).length I X l) 3 (.bool X)) 5 (.str []))) G;generalize y:H1.set r (.cells (zH (JG o n (p++X0 l).length I X l) 3 (.bool X)))=S at R E w;generalize z:S.set r (.cells (zH (zH (JG o n (p++X0 l).length I X l) 3 (.bool X)) 5 (.str [])))=F at E w
  have j:Stp [r] H1 F:=by
   rw[<-z,<-y];exact (Stp.set _ _ U).trans (Stp.set _ _ U) (λ_ h=>h) λ_ h=>.inl h
  refine⟨F,?_,M.stp j (λa C=>by simp;exact λe=>hrA (e ▸ C)),P.trans (j.mono (B:=r::A) λa C=>by rw[zI.1 C];simp) (λ_ h=>h) (λ_ h=>.inl h),.inr (.inr ⟨p++X0 l,w,D⟩)⟩;simp only[L,go_sem,zO,zP,yK,zT,List.headD_cons,zM,R,E,Vl]
end
theorem ZsZ (t:Tok)(l:du)(H:Hp):HO [.vs 1 t l] H=(match Pw l with
 |some _=>if l=[] then N (.vs 1 .no [],H) else if O l<=1099511627776 then N (.ws X 1 (O H) 0 (O l),H++[.row 0 l]) else V
 |none=>V):=rfl
theorem Zwh (o e n q:Nat)(H:Hp):iH [.ws X 1 o e n,.fn (.func 111) [] [.ptr q 0]] H=(match H[o]? with
 |some (.row e' l)=>match Pw l with
  |some j=>match H[q]? with
   |some (.cells [.str nm])=>if e'=e/\n=O l/\o≠q/\O l<=1099511627776 then N (.vs 1 (.own o (e+2)) ((Yl nm j).map zE),H.set o (.tok (e+2))) else V
   |_=>V
  |none=>V
 |_=>V):=rfl
theorem ZoT {H:Hp}{o t j y:Nat}{nx:AV}{sl:List (Zj×Nat)}{tm:Tmp}(h:TmAt H o t j y nx sl tm)(hm:TmpOk tm)(n:Zj)(T:tm.names≠[]) :
 ∃ (H':Hp) (ad:AV) (w:List (Zj×Nat)),forgetE.run [.ptr o 0,.str n] H=N (.tuple [],H')/\TmAt H' o t j y ad w { tm with names:=Yl n tm.names,sld:=w.map (·.1) }/\Stp (o::j::ZA nx) H H'/\(∀ a∈ZA ad,O H<=a)/\(∀ m,m≠n->(m∈w.map (·.1)↔m∈tm.sld)):=by
 have S:=h.lt;have au:o<O H:=S o U;have al:j<O H:=S j U;have E:o≠j:=λe=>by have:=h.nd;simp[e]at this
 have aq:=hm.len;have ar:=hm.last
 obtain⟨u,e,rfl,hu⟩:∃ u e,nx=.vs 1 (.own u e) (tm.names.map zE)/\H[u]?=N (.tok e):=by
  rcases h.names with ⟨_,e⟩|h
  ·exact absurd e T
  ·exact h
 have Z:tm.names.map zE≠[]:=λe=>T (List.map_eq_nil_iff.1 e);have ag:(H++[zA [.str n]])[o]?=N (.cells [.ptr t 0,.str tm.owner,.vs 1 (.own u e) (tm.names.map zE),.map j,Q J (tm.limit:Int),Q J (tm.last:Int),.bool tm.closed]):=XC h.cells _;have l2:=ZZ ag 2 (v:=.vs 1 (.own u e) (tm.names.map zE)) rfl;have aj:(H++[zA [.str n]]).length=O H+1:=U
 have ah:cloneE.run [.vs 1 (.own u e) (tm.names.map zE)] (H++[zA [.str n]])=N (.ws X 1 (O H+1) 0 (O tm.names),H++[zA [.str n]]++[yE 0 (tm.names.map zE)]):=by
  rw[show cloneE.run=HO from rfl];rw[ZsZ,ZiL];dsimp only;rw[if_neg Z,yQ,if_pos Y,aj]
 have hr:(H++[zA [.str n]]++[yE 0 (tm.names.map zE)])[O H+1]?=N (.row 0 (tm.names.map zE)):=by
  rw[zD U];simp
 have hq:(H++[zA [.str n]]++[yE 0 (tm.names.map zE)])[O H]?=N (.cells [.str n]):=by
  rw[zB U];simp
 have R:delE.run [.ws X 1 (O H+1) 0 (O tm.names),.fn (.func 111) [] [.ptr (O H) 0]] (H++[zA [.str n]]++[yE 0 (tm.names.map zE)]) =
  N (.vs 1 (.own (O H+1) 2) ((Yl n tm.names).map zE),(H++[zA [.str n]]++[yE 0 (tm.names.map zE)]).set (O H+1) (yX 2)):=by
  rw[show delE.run=iH from rfl];rw[Zwh,hr];dsimp only;rw[ZiL,hq];dsimp only;rw[if_pos ⟨rfl,by rw[yQ],Y,by rw[yQ];omega⟩]
 have z:Stp [] H ((H++[zA [.str n]]++[yE 0 (tm.names.map zE)]).set (O H+1) (yX 2)):=⟨U,λi hi _=>by
  rw[List.getElem?_set_ne Y,zB (by simp;omega),zB hi]⟩
 have aa:((H++[zA [.str n]]++[yE 0 (tm.names.map zE)]).set (O H+1) (yX 2))[O H]?=N (.cells [.str n]):=YX _ Y hq;have ac:((H++[zA [.str n]]++[yE 0 (tm.names.map zE)]).set (O H+1) (yX 2))[O H+1]?=N (.tok 2):=Zu _ hr;generalize ao:(H++[zA [.str n]]++[yE 0 (tm.names.map zE)]).set (O H+1) (.tok 2)=L at R z aa ac;have P:=z.get h.cells U;have ak:L[j]?=N (.map (sl.map VX) y):=(z.at' j al U).trans h.map;have s2:=Wp P 2 (v:=.vs 1 (.own (O H+1) 2) ((Yl n tm.names).map zE)) rfl rfl U;have D:=Zu (zA (zH [.ptr t 0,.str tm.owner,.vs 1 (.own u e) (tm.names.map zE),.map j,Q J (tm.limit:Int),Q J (tm.last:Int),.bool tm.closed] 2 (.vs 1 (.own (O H+1) 2) ((Yl n tm.names).map zE)))) P;have B:=YX (zA (zH [.ptr t 0,.str tm.owner,.vs 1 (.own u e) (tm.names.map zE),.map j,Q J (tm.limit:Int),Q J (tm.last:Int),.bool tm.closed] 2 (.vs 1 (.own (O H+1) 2) ((Yl n tm.names).map zE)))) E ak;have ab:=YX (zA (zH [.ptr t 0,.str tm.owner,.vs 1 (.own u e) (tm.names.map zE),.map j,Q J (tm.limit:Int),Q J (tm.last:Int),.bool tm.closed] 2 (.vs 1 (.own (O H+1) 2) ((Yl n tm.names).map zE)))) (show o≠O H by omega) aa;have F:=YX (zA (zH [.ptr t 0,.str tm.owner,.vs 1 (.own u e) (tm.names.map zE),.map j,Q J (tm.limit:Int),Q J (tm.last:Int),.bool tm.closed] 2 (.vs 1 (.own (O H+1) 2) ((Yl n tm.names).map zE)))) (show o≠O H+1 by omega) ac;have M:Stp [o] L (L.set o (.cells (zH [.ptr t 0,.str tm.owner,.vs 1 (.own u e) (tm.names.map zE),.map j,Q J (tm.limit:Int),Q J (tm.last:Int),.bool tm.closed] 2 (.vs 1 (.own (O H+1) 2) ((Yl n tm.names).map zE))))):=Stp.set _ _ U;generalize ap:L.set o (.cells (zH [.ptr t 0,.str tm.owner,.vs 1 (.own u e) (tm.names.map zE),.map j,Q J (tm.limit:Int),Q J (tm.last:Int),.bool tm.closed] 2 (.vs 1 (.own (O H+1) 2) ((Yl n tm.names).map zE))))=H4 at s2 D B ab F M;have l3:=ZZ D 3 (v:=.map j) rfl;have lq:=ZZ ab 0 (v:=.str n) rfl
 obtain⟨G,w,d1,d2,d3,d4⟩:∃ (G:Hp) (w:List (Zj×Nat)),Jx .string (.map j) (.str n) H4=N (.tuple [],G)/\G[j]?=N (.map (w.map VX) y)/\Stp [j] H4 G/\(∀ m,m≠n->(m∈w.map (·.1)↔m∈sl.map (·.1))):=by
  have ai:Wr .string (.str n)=I:=rfl;unfold Jx;dsimp only;rw[B];dsimp only;rw[if_pos ai];rcases ZfW sl n 0 with ⟨_,hf⟩|⟨a,p,b,rfl,am,_,hf⟩
  ·rw[hf];exact⟨_,sl,rfl,Zu _ B,Stp.set _ _ U,λ_ _=>Iff.rfl⟩
  ·rw[hf];dsimp only;refine⟨_,a++b,rfl,?_,Stp.set _ _ U,λm hm=>by simp[am,hm]⟩;rw[Zu _ B,zM,xB,List.map_cons,show O a=(a.map VX).length by simp,Zby,xB]
 have ae:Stp (o::j::ZA (.vs 1 (.own u e) (tm.names.map zE))) H G:=by
  have x1:Stp (o::j::ZA (.vs 1 (.own u e) (tm.names.map zE))) H L:=z.mono λa C=>by cases C
  have x2:=x1.trans M (λ_ h=>h) λa C=>.inl (by rw[zI.1 C];simp);exact x2.trans d3 (λ_ h=>h) λa C=>.inl (by rw[zI.1 C];simp)
 refine⟨G,.vs 1 (.own (O H+1) 2) ((Yl n tm.names).map zE),w,?_,⟨d3.get D (by simpa using E),.inr ⟨_,_,rfl,(d3.at' _ (Zq F) (by simp;omega)).trans F⟩,d2,rfl,?_⟩,ae,λa C=>?_,λm hm=>by rw[d4 m hm,h.sld]⟩
 ·rw[Zr2];unfold Fg.F_tempfile_owned_forget;have af:ZY (.str n) H=N (.ptr (O H) 0,H++[.cells [.str n]]):=VE rfl;have an:Z4 X 1 (.ptr o 2) (H++[zA [zE n]])=N (.vs 1 (.own u e) (tm.names.map zE)):=l2;simp only[af,go_sem,zM,an,ah,R,s2,l3,lq,d1]
 ·have:O H+1≠o/\O H+1≠j:=Y
  simp[ZA,E,Ne.symm this.1,Ne.symm this.2]
 ·simp[ZA]at C;omega
theorem Zk3 (l:List Fil)(n:Zj):List.Sublist (JI l n) l:=by
 induction l with
 |nil=>exact xG _
 |cons f l j =>
  rw[JI];split
  ·exact List.sublist_cons_self _ _
  ·exact j.cons_cons _
theorem Zxp (l:List Fil)(n:Zj):Zs (JI l n)<=Zs l:=by
 induction l with
 |nil=>exact zG _
 |cons f l j =>
  rw[JI];split
  ·simp only[Zs];omega
  ·simp only[Zs];omega
theorem ZAE {s:Sto}(hk:StoOk s)(n:Zj):StoOk { s with files:=JI s.files n }:=by
 have j:=Zk3 s.files n;have y:=Zxp s.files n;have u:=hk.used;have w:=hk.len;exact⟨hk.limit,by show Zs (JI s.files n)<=s.limit;omega,hk.peak,λf hf=>hk.name f (j.subset hf),hk.nd.sublist (j.map _),λf hf=>hk.syn f (j.subset hf),by have:=j.length_le;show (JI s.files n).length<=64;omega,hk.count⟩
structure Cm {α:Type}(f:α->α->Int):Prop where
 one:∀ a b,f a b=-1\/f a b=0\/f a b=1
 sym:∀ a b,f b a=-f a b
 tr:∀ a b c,f a b<=0->f b c<=0->f a c<=0/\(f a c<0↔f a b<0\/f b c<0)
theorem Cm.of {α:Type}{f g:α->α->Int}(h:Cm f)(e:∀ a b,g a b=f a b):Cm g:=by
 have:g=f:=funext λa=>funext λb=>e a b;rw[this];exact h
theorem Cm.comap {α β:Type}{f:β->β->Int}(h:Cm f)(g:α->β):Cm λa b=>f (g a) (g b) :=
 ⟨λa b=>h.one _ _,λa b=>h.sym _ _,λa b c=>h.tr _ _ _⟩
theorem Cm.tr2 {α:Type}{f:α->α->Int}(h:Cm f)(a b c:α)(y:0<=f a b)(z:0<=f b c):0<=f a c/\(0<f a c↔0<f a b\/0<f b c):=by
 have j:=h.sym a b;have u:=h.sym b c;have w:=h.sym a c;have:=h.tr c b a Y Y;omega
theorem Cm.self {α:Type}{f:α->α->Int}(h:Cm f)(a:α):f a a=0:=by
 have:=h.sym a a;omega
theorem Cm.neg {α:Type}{f:α->α->Int}(h:Cm f):Cm λa b=>-f a b:=by
 refine⟨λa b=>?_,λa b=>?_,λa b c j u=>?_⟩
 ·have:=h.one a b;show -f a b=_\/-f a b=_\/-f a b=_;omega
 ·have:=h.sym a b;show -f b a=- -f a b;omega
 ·have:=h.tr2 a b c Y Y;show -f a c<=0/\(-f a c<0↔-f a b<0\/-f b c<0);omega
theorem Cm.lex {α:Type}{f g:α->α->Int}(h:Cm f)(k:Cm g):Cm λa b=>if (f a b != 0)=I then f a b else g a b:=by
 have e:∀ a b,(if (f a b != 0)=I then f a b else g a b)=if f a b=0 then g a b else f a b:=λa b=>by
  by_cases h0:f a b=0 <;> simp[h0]
 refine Cm.of (f:=λa b=>if f a b=0 then g a b else f a b) ⟨λa b=>?_,λa b=>?_,λa b c=>?_⟩ e
 ·show (if f a b=0 then g a b else f a b)=-1\/_\/_;have j:=h.one a b;have u:=k.one a b;split <;> assumption
 ·show (if f b a=0 then g b a else f b a)=-(if f a b=0 then g a b else f a b);have j:=h.sym a b;have u:=k.sym a b;split <;> split <;> omega
 ·show (if f a b=0 then g a b else f a b)<=0->(if f b c=0 then g b c else f b c)<=0->(if f a c=0 then g a c else f a c)<=0/\((if f a c=0 then g a c else f a c)<0↔(if f a b=0 then g a b else f a b)<0\/(if f b c=0 then g b c else f b c)<0);have j:=h.tr a b c;have u:=k.tr a b c;intro w y;by_cases z:f a b=0 <;> by_cases B:f b c=0 <;> by_cases z3:f a c=0 <;> simp only[z,B,z3,if_true,if_false]at w y ⊢ <;> omega
theorem sgnS_cm:Cm E7:=by
 refine⟨Zgd,λa b=>?_,λa b c=>?_⟩
 ·unfold E7;split <;> split <;> (try split) <;> (try split) <;> omega
 ·unfold E7;intro C D;by_cases j:a<b <;> by_cases u:b<a <;> by_cases w:b<c <;> by_cases y:c<b <;> by_cases z:a<c <;> by_cases B:c<a <;> simp only[j,u,w,y,z,B,if_true,if_false]at C D ⊢ <;> omega
theorem ordS_cm:Cm W6:=by
 refine⟨Zg8,?_,?_⟩
 ·intro a
  induction a with
  |nil=>intro b;cases b <;> simp[W6]
  |cons x a j =>
   intro b
   cases b with
   |nil=>simp[W6]
   |cons y b =>
    rw[Qv,Qv];have:=j b;split <;> split <;> (try split) <;> (try split) <;> omega
 ·intro a
  induction a with
  |nil=>intro b c;cases b <;> cases c <;> simp[W6]
  |cons x a j =>
   intro b c
   cases b with
   |nil=>cases c <;> simp[W6]
   |cons y b =>
    cases c with
    |nil=>simp[W6]
    |cons z c =>
     rw[Qv,Qv,Qv];have:=j b c;intro F G;by_cases u:x<y <;> by_cases w:y<x <;> by_cases B:y<z <;> by_cases C:z<y <;> by_cases D:x<z <;> by_cases E:z<x <;> simp only[u,w,B,C,D,E,if_true,if_false]at F G ⊢ <;> omega
theorem Zyy:Cm QI:=(ordS_cm.comap NX).of λa b=>(ZfP a b).symm
theorem ZjK (L:Loc):Cm (QJ L):=(ordS_cm.comap (wS (Y6 L))).lex Zyy
theorem ZkP (L:Loc)(n:Nat):Cm (Ps L n):=by
 cases j:n.testBit 0 with
 |true=>exact (sgnS_cm.comap Ap).of λa b=>by simp[Ps,j]
 |false=>exact ((ZjK L).comap (XF L n)).of λa b=>by simp[Ps,j]
theorem ZkQ (L:Loc)(n:Nat):Cm (WH L n):=by
 cases j:n.testBit 1 with
 |true=>exact (ZkP L n).neg.of λa b=>by simp[WH,j]
 |false=>exact (ZkP L n).of λa b=>by simp[WH,j]
theorem Zyz (L:Loc)(p:Spec):∀ l:List Ke,Cm λa b=>LU L p a b l:=by
 intro l
 induction l with
 |nil=>exact⟨λ_ _=>.inr (.inl rfl),λ_ _=>rfl,λ_ _ _ _ _=>⟨yT _,by simp[LU]⟩⟩
 |cons k l j=>exact (((ZkQ L (Qo p k)).comap λa=>ex a (fields a p.sep) k).lex j).of λa b=>Zbp L p a b k l
theorem ZwZ (L:Loc)(p:Spec):Cm (ZcJ L p):=by
 cases j:(O p.keys==0) with
 |true=>exact (ZkQ L p.flags.toNat).of λa b=>by simp only[ZcJ,j,if_true]
 |false=>exact (Zyz L p p.keys).of λa b=>by simp only[ZcJ,j,yJ,if_false]
theorem Znj (L:Loc)(p:Spec):Cm (Xf L p):=ZwZ L (Zt p)
theorem Zmz (p:Spec):Vq (Zt p)=0:=by
 unfold Zt
 cases j:(Vq p != 0) with
 |true=>rfl
 |false=>simpa using j
theorem Zpq (p:Spec):Zt (Zt p)=Zt p:=by
 show (if (Vq (Zt p) != 0)=I then plainP else Zt p)=Zt p;rw[Zmz];rfl
theorem Zew (L:Loc)(p:Spec)(a b:dr):Xf L (Zt p) a b=Xf L p a b:=by unfold Xf;rw[Zpq]
def Zie (L:Loc)(p:Spec)(a b:dr):Int:=if (Zt p).flags.toNat.testBit 1 then -QJ L a b else QJ L a b
theorem ZwX (L:Loc)(p:Spec):Cm (Zie L p):=by
 cases j:(Zt p).flags.toNat.testBit 1 with
 |true=>exact (ZjK L).neg.of λa b=>by simp[Zie,j]
 |false=>exact (ZjK L).of λa b=>by simp[Zie,j]
theorem Zp9 {L:Loc}{p:Spec}(h:((Zt p).stab || (Zt p).uniq)=I)(a b:dr):YO L p a b=Xf L p a b:=by
 unfold YO;rw[Zew,xD,h,Bool.or_true,if_pos rfl]
theorem Zp8 {L:Loc}{p:Spec}(h:((Zt p).stab || (Zt p).uniq)=X)(a b:dr):YO L p a b=if (Xf L p a b != 0)=I then Xf L p a b else Zie L p a b:=by
 unfold YO Zie;rw[Zew,xD,h,Bool.or_false]
theorem Zuo (L:Loc)(p:Spec):Cm (YO L p):=by
 cases j:((Zt p).stab || (Zt p).uniq) with
 |true=>exact (Znj L p).of (Zp9 j)
 |false=>exact ((Znj L p).lex (ZwX L p)).of (Zp8 j)
section
variable {α:Type}{f:α->α->Int}
def mN (f:α->α->Int)(l:List α):Prop:=l.Pairwise λa b=>f a b<=0
def KT (f:α->α->Int)(x y:α):Bool:=f x y==0
def mergeL (f:α->α->Int):List α->List α->List α
 |[],b=>b
 |a::l,[]=>a::l
 |a::l,b::m=>if 0<f a b then b::mergeL f (a::l) m else a::mergeL f l (b::m)
termination_by a b=>a.length+b.length
theorem BS (b:List α):mergeL f [] b=b:=by rw[mergeL]
theorem G5 (a:List α):mergeL f a []=a:=by cases a <;> rw[mergeL]
theorem XH (a b:α)(l m:List α):mergeL f (a::l) (b::m)=if 0<f a b then b::mergeL f (a::l) m else a::mergeL f l (b::m):=by rw[mergeL]
def Qu (f:α->α->Int):Nat->List α->List α
 |0,l=>l
 |n+1,l=>if O l<2 then l else mergeL f (Qu f n (l.take (O l / 2))) (Qu f n (l.drop (O l / 2)))
def Ux (f:α->α->Int)(S:List α)(y:α):Nat->Nat
 |0=>0
 |k+1=>match S[k]? with
  |some s=>if 0<f s y then Ux f S y k else k+1
  |none=>Ux f S y k
def QK (f:α->α->Int)(S:List α)(y:α):List α:=S.take (Ux f S y (O S))++y::S.drop (Ux f S y (O S))
def ZbP (f:α->α->Int)(l:List α):List α:=l.foldl (QK f) []
def Rt (g:α->α->Int)(out:List α)(x:α):Bool:=match out.getLast? with
 |some y=>g y x==0
 |none=>X
def U2 (g:α->α->Int):List α->List α->List α
 |out,[]=>out
 |out,x::l=>U2 g (if Rt g out x=I then out else out++[x]) l
variable (h:Cm f)
include h
theorem Cm.eqv_iff (x y:α):KT f x y=I↔f x y=0:=by unfold KT;rw[beq_iff_eq]
theorem Cm.le_trans {a b c:α}(j:f a b<=0)(u:f b c<=0):f a c<=0:=(h.tr a b c j u).1
theorem Cm.lt_le {a b c:α}(j:f a b<0)(u:f b c<=0):f a c<0:=(h.tr a b c Y u).2.2 (.inl j)
theorem Cm.le_lt {a b c:α}(j:f a b<=0)(u:f b c<0):f a c<0:=(h.tr a b c j Y).2.2 (.inr u)
theorem ZxJ:∀ A B:List α,mN f A->mN f B->(∀ x,A.filter (KT f x)=B.filter (KT f x))->A=B:=by
 intro A;have self:∀ x,KT f x x=I:=λx=>by rw[h.eqv_iff];exact h.self x
 induction A with
 |nil =>
  intro B _ _ hf
  cases B with
  |nil=>rfl
  |cons b B =>
   have:=hf b;rw[zF,self b]at this;simp at this
 |cons a A G =>
  intro B E F hf
  cases B with
  |nil =>
   have:=hf a;rw[zF,self a]at this;simp at this
  |cons b B =>
   have u:=zJ.1 E;have w:=zJ.1 F
   have C:b∈a::A:=by
    have j:b∈(b::B).filter (KT f b):=yH.2 ⟨U,self b⟩;rw[<-hf b]at j;exact (yH.1 j).1
   have y:a∈b::B:=by
    have j:a∈(a::A).filter (KT f a):=yH.2 ⟨U,self a⟩;rw[hf a]at j;exact (yH.1 j).1
   have j:f a b<=0:=by
    rcases zN.1 C with e|e
    ·rw[e,h.self];exact yT _
    ·exact u.1 b e
   have L:f b a<=0:=by
    rcases zN.1 y with e|e
    ·rw[e,h.self];exact yT _
    ·exact w.1 a e
   have D:f a b=0:=by have:=h.sym a b;omega
   have z:a=b:=by
    have:=hf a;rw[zF,self a,zF,(h.eqv_iff a b).2 D]at this;simp only[if_true,List.cons.injEq]at this;exact this.1
   subst z;congr 1;refine G B u.2 w.2 λx=>?_;have:=hf x;rw[zF,zF]at this;split at this
   ·simpa using this
   ·exact this
theorem ZkH:∀ (A B:List α) (x:α),x∈mergeL f A B↔x∈A\/x∈B:=by
 intro A B x
 induction A,B using mergeL.induct f with
 |case1 b=>simp[BS]
 |case2 a l=>simp[G5]
 |case3 a l b m hc j =>
  rw[XH,if_pos hc,zN,j];simp only[zN];constructor
  ·rintro (h|h|h) <;> simp[h]
  ·rintro (h|h|h) <;> simp[h]
 |case4 a l b m hc j =>
  rw[XH,if_neg hc,zN,j];simp only[zN];constructor
  ·rintro (h|h|h) <;> simp[h]
  ·rintro ((h|h)|h) <;> simp[h]
theorem Zu3:∀ A B:List α,mN f A->mN f B->mN f (mergeL f A B):=by
 intro A B
 induction A,B using mergeL.induct f with
 |case1 b=>intro _ C;rw[BS];exact C
 |case2 a l=>intro z _;rw[G5];exact z
 |case3 a l b m hc E =>
  intro z C;rw[XH,if_pos hc];have u:=zJ.1 z;have w:=zJ.1 C;refine zJ.2 ⟨λy j=>?_,E z w.2⟩;rcases (ZkH h _ _ y).1 j with j|j
  ·have D:f b a<0:=by have:=h.sym a b;omega
   rcases zN.1 j with e|e
   ·rw[e];omega
   ·have:=h.lt_le D (u.1 y e);omega
  ·exact w.1 y j
 |case4 a l b m hc E =>
  intro z C;rw[XH,if_neg hc];have u:=zJ.1 z;have w:=zJ.1 C;refine zJ.2 ⟨λy j=>?_,E u.2 C⟩;rcases (ZkH h _ _ y).1 j with j|j
  ·exact u.1 y j
  ·rcases zN.1 j with e|e
   ·rw[e];omega
   ·exact h.le_trans Y (w.1 y e)
theorem Znm (x:α):∀ A B:List α,mN f A->(mergeL f A B).filter (KT f x)=A.filter (KT f x)++B.filter (KT f x):=by
 intro A B
 induction A,B using mergeL.induct f with
 |case1 b=>intro _;rw[BS];simp
 |case2 a l=>intro _;rw[G5];simp
 |case3 a l b m hc E =>
  intro z;have j:=zJ.1 z;rw[XH,if_pos hc,zF,E z]
  cases C:KT f x b with
  |false=>simp only[zF,C,yJ,if_false]
  |true =>
   rw[h.eqv_iff]at C;have u:f b a<0:=by have:=h.sym a b;omega
   have w:(a::l).filter (KT f x)=[]:=by
    rw[yR];intro y G D;rw[h.eqv_iff]at D
    have F:f b y<0:=by
     rcases zN.1 G with e|e
     ·rw[e];exact u
     ·exact h.lt_le u (j.1 y e)
    have L:=h.le_lt (a:=x) (b:=b) (c:=y) Y F;omega
   rw[w];simp[zF,(h.eqv_iff x b).2 C]
 |case4 a l b m hc E =>
  intro z;have j:=zJ.1 z;rw[XH,if_neg hc,zF,E j.2,zF (xs:=l)];split <;> simp
theorem Zrp:∀ (n:Nat) (l:List α),O l<=n->mN f (Qu f n l)/\∀ x,(Qu f n l).filter (KT f x)=l.filter (KT f x):=by
 intro n
 induction n with
 |zero=>intro l C;have:l=[]:=yP.1 Y;subst this;exact⟨List.Pairwise.nil,λ_=>rfl⟩
 |succ n w =>
  intro l C;unfold Qu;split
  ·rename_i u;refine⟨?_,λ_=>rfl⟩
   match l,u with
   |[],_=>exact List.Pairwise.nil
   |[a],_=>exact List.pairwise_singleton _ _
  ·rename_i u;obtain⟨j,y⟩:=w (l.take (O l / 2)) (by rw[zR];omega);obtain⟨z,B⟩:=w (l.drop (O l / 2)) (by rw[zY];omega);refine⟨Zu3 h _ _ j z,λx=>?_⟩;rw[Znm h x _ _ j,y,B,<-yD,yF]
omit h in
theorem ZjY (S:List α)(y:α):∀ k,Ux f S y k<=k:=by
 intro k
 induction k with
 |zero=>exact zG _
 |succ k j =>
  unfold Ux;split
  ·split <;> omega
  ·omega
omit h in
theorem Ziq (S:List α)(y:α):∀ k,∀ j s,Ux f S y k<=j->j<k->S[j]?=N s->0<f s y:=by
 intro k
 induction k with
 |zero=>intro j s _ B;omega
 |succ k z =>
  intro j s u B w;unfold Ux at u;by_cases C:j=k
  ·subst C;rw[w]at u;simp only at u;split at u
   ·assumption
   ·omega
  ·split at u
   ·split at u
    ·exact z j s u Y w
    ·omega
   ·exact z j s u Y w
omit h in
theorem Zz3 (S:List α)(y:α):∀ k,Ux f S y k=0\/∃ s,S[Ux f S y k-1]?=N s/\f s y<=0:=by
 intro k
 induction k with
 |zero=>exact .inl rfl
 |succ k j =>
  unfold Ux;split
  ·rename_i s u;split
   ·exact j
   ·exact .inr ⟨s,by simpa using u,Y⟩
  ·exact j
theorem ZyS {S:List α}(T:mN f S)(y:α):mN f (QK f S y):=by
 unfold QK;have ab:=ZjY (f:=f) S y (O S);have E:mN f (S.take (Ux f S y (O S))++S.drop (Ux f S y (O S))):=by rw[yF];exact T
 obtain⟨s1,s2,s3⟩:=yU.1 E
 have w:∀ z∈S.drop (Ux f S y (O S)),f y z<0:=λz C=>by
  obtain⟨j,u⟩:=yG C;rw[yY]at u;have M:=(zL.1 u).1;have:=Ziq S y (O S) _ z (xA _ _) M u;have:=h.sym z y;omega
 have B:∀ z∈S.take (Ux f S y (O S)),f z y<=0:=λz C=>by
  rcases Zz3 (f:=f) S y (O S) with h0|⟨s,D,R⟩
  ·rw[h0]at C;simp at C
  ·obtain⟨j,u⟩:=yG C;obtain⟨F,aa⟩:=zL.1 u;rw[zR]at F;rw[List.getElem?_take_of_lt Y]at u;by_cases he:j=Ux f S y (O S)-1
   ·rw[<-he,u]at D;injection D with D;rw[D];exact R
   ·have P:f z s<=0:=by
     obtain⟨G,e1⟩:=zL.1 u;obtain⟨L,e2⟩:=zL.1 D;rw[<-e1,<-e2];exact List.pairwise_iff_getElem.1 T _ _ G L Y
    exact h.le_trans P R
 refine yU.2 ⟨s1,zJ.2 ⟨λz C=>by have:=w z C;omega,s2⟩,λa Z b hb=>?_⟩;rcases zN.1 hb with e|e
 ·rw[e];exact B a Z
 ·exact s3 a Z b e
theorem Zrc (S:List α)(y x:α):(QK f S y).filter (KT f x)=S.filter (KT f x)++[y].filter (KT f x):=by
 unfold QK;have u:S.filter (KT f x)=(S.take (Ux f S y (O S))).filter (KT f x)++(S.drop (Ux f S y (O S))).filter (KT f x):=by rw[<-yD,yF]
 rw[u,yD,yA];congr 1;rw[zF,zF,List.filter_nil]
 cases C:KT f x y with
 |false=>simp
 |true =>
  rw[h.eqv_iff]at C
  have:(S.drop (Ux f S y (O S))).filter (KT f x)=[]:=by
   rw[yR];intro z E D;rw[h.eqv_iff]at D;obtain⟨j,w⟩:=yG E;rw[yY]at w;have B:=(zL.1 w).1;have F:=Ziq S y (O S) _ z (xA _ _) B w;have G:=h.sym z y;have L:=h.le_lt (a:=x) (b:=y) (c:=z) Y Y;omega
  rw[this];simp
theorem Zwz:∀ (l S:List α),mN f S->mN f (l.foldl (QK f) S)/\∀ x,(l.foldl (QK f) S).filter (KT f x)=S.filter (KT f x)++l.filter (KT f x):=by
 intro l
 induction l with
 |nil=>intro S j;exact⟨j,λx=>U⟩
 |cons y l u =>
  intro S j;obtain⟨a,b⟩:=u (QK f S y) (ZyS h j y);refine⟨a,λx=>?_⟩;rw[yI,b,Zrc h,yA,<-yD];rfl
theorem Zu7 (l:List α){n:Nat}(z:O l<=n):Qu f n l=ZbP f l:=by
 obtain⟨j,u⟩:=Zrp h n l z;obtain⟨w,y⟩:=Zwz h l [] List.Pairwise.nil;exact ZxJ h _ _ j w λx=>by rw[u,show ZbP f l=l.foldl (QK f) [] from rfl,y];rfl
end
structure Fv (K:AV->Prop)(t:ZW->ZW->Bool):Prop where
 close:∀ v,K v->∃ v',Zk [] 0 9 v=N v'/\K v'
 run:∀ v,K v->∀ a b:ZW,O a<=1048576->O b<=1048576->∀ H,YJ cfg (Za cfg) v [.str a,.str b] H=N (.bool (t a b),H)
theorem Zu2 {f:ZW->ZW->Int}:∀ A B:List ZW,(mergeL f A B).length=O A+O B:=by
 intro A B
 induction A,B using mergeL.induct f with
 |case1 b=>simp[BS]
 |case2 a l=>simp[G5]
 |case3 a l b m hc j=>rw[XH,if_pos hc,zK,j];simp only[zK];omega
 |case4 a l b m hc j=>rw[XH,if_neg hc,zK,j];simp only[zK];omega
theorem Zrl {f:ZW->ZW->Int}:∀ (A B:List ZW) (x:ZW),x∈mergeL f A B->x∈A\/x∈B:=by
 intro A B x
 induction A,B using mergeL.induct f with
 |case1 b=>simp[BS]
 |case2 a l=>simp[G5]
 |case3 a l b m hc j =>
  rw[XH,if_pos hc,zN]
  rintro (h|h)
  ·exact .inr (by simp[h])
  ·rcases j h with h|h
   ·exact .inl h
   ·exact .inr (by simp[h])
 |case4 a l b m hc j =>
  rw[XH,if_neg hc,zN]
  rintro (h|h)
  ·exact .inl (by simp[h])
  ·rcases j h with h|h
   ·exact .inl (by simp[h])
   ·exact .inr h
theorem aZ {f:ZW->ZW->Int}:∀ (n:Nat) (l:List ZW),(Qu f n l).length=O l/\∀ s∈Qu f n l,s∈l:=by
 intro n
 induction n with
 |zero=>intro l;exact⟨rfl,λs h=>h⟩
 |succ n j =>
  intro l;unfold Qu;split
  ·exact⟨rfl,λs h=>h⟩
  ·obtain⟨u,w⟩:=j (l.take (O l / 2));obtain⟨y,z⟩:=j (l.drop (O l / 2));refine⟨by rw[Zu2,u,y,zR,zY];omega,λs B=>?_⟩;rcases Zrl _ _ s B with h|h
   ·exact yB (w s h)
   ·exact yC (z s h)
section
variable {K:AV->Prop}{f:ZW->ZW->Int}(hK:Fv K λa b=>decide (0<f a b))
include hK
theorem Zrk {v:AV}(hv:K v)(H0:Hp):∀ (A B j:List ZW) (x6 x7 x8:AV) (H:Hp),SS x6 A->SS x7 B->RS H x8 j->XK A->XK B->O j+O A+O B<=4194304 ->
 ∃ y H',YN v x6 x7 x8 H0 H=N (y,H')/\RS H' y (j++mergeL f A B):=by
 intro A B
 induction A,B using mergeL.induct f with
 |case1 B =>
  intro j x6 x7 x8 H w z L M P G;obtain⟨y1,H1,S,T⟩:=L.app w Y;obtain⟨y2,H2,Z,q4⟩:=T.app z (by simp at G ⊢;omega);refine⟨y2,H2,?_,by rw[BS];simpa using q4⟩;have u:=SS.len w 9;rw[X3];simp only[go_sem,u,zC,show decide ((0:Int)<((0:Nat):Int))=X from rfl,Ue,S,Z]
 |case2 a l =>
  intro j x6 x7 x8 H w z L M P G;obtain⟨y1,H1,S,T⟩:=L.app w (by simp at G ⊢;omega);obtain⟨y2,H2,Z,q4⟩:=T.app z (by simp at G ⊢;omega);refine⟨y2,H2,?_,by rw[G5];simpa using q4⟩;have u:=SS.len w 9;have E:=SS.len z 9;have hp:decide ((0:Int)<(((a::l).length:Nat):Int))=I:=U
  rw[X3];simp only[go_sem,u,E,hp,zC,show decide ((0:Int)<((0:Nat):Int))=X from rfl,Ue,S,Z]
 |case3 a l b m hc ih =>
  intro j x6 x7 x8 H w z L M P G;have u:=SS.len w 9;have E:=SS.len z 9;have hp:decide ((0:Int)<(((a::l).length:Nat):Int))=I:=U
  have R:decide ((0:Int)<(((b::m).length:Nat):Int))=I:=U
  have C:=SS.idx w (i:=0) (s:=a) rfl;have D:=SS.idx z (i:=0) (s:=b) rfl;obtain⟨ab,r1,r2⟩:=SS.lo z (n:=1) U;have F:=hK.run v hv a b (M a U) (P b U) H;obtain⟨y1,H1,S,T⟩:=L.app (Zin b) (by simp at G ⊢;omega);obtain⟨y,H',Z,q4⟩:=ih (j++[b]) x6 ab y1 H1 w r2 T M (λs hs=>P s (by simp[hs])) (by simp at G ⊢;omega);refine⟨y,H',?_,by rw[XH,if_pos hc];simpa using q4⟩;rw[show ((0:Nat):Int)=0 from rfl]at C D;rw[show ((1:Nat):Int)=1 from rfl]at r1;rw[X3];simp only[go_sem,u,E,hp,R,Uf,C,D,ZE,F,decide_eq_true hc,VH,S,r1,Z]
 |case4 a l b m hc ih =>
  intro j x6 x7 x8 H w z L M P G;have u:=SS.len w 9;have E:=SS.len z 9;have hp:decide ((0:Int)<(((a::l).length:Nat):Int))=I:=U
  have R:decide ((0:Int)<(((b::m).length:Nat):Int))=I:=U
  have C:=SS.idx w (i:=0) (s:=a) rfl;have D:=SS.idx z (i:=0) (s:=b) rfl;obtain⟨aa,r1,r2⟩:=SS.lo w (n:=1) U;have F:=hK.run v hv a b (M a U) (P b U) H;obtain⟨y1,H1,S,T⟩:=L.app (Zin a) (by simp at G ⊢;omega);obtain⟨y,H',Z,q4⟩:=ih (j++[a]) aa x7 y1 H1 r2 z T (λs hs=>M s (by simp[hs])) P (by simp at G ⊢;omega);refine⟨y,H',?_,by rw[XH,if_neg hc];simpa using q4⟩;rw[show ((0:Nat):Int)=0 from rfl]at C D;rw[show ((1:Nat):Int)=1 from rfl]at r1;rw[X3];simp only[go_sem,u,E,hp,R,Uf,C,D,ZE,F,decide_eq_false hc,VH,S,r1,Z]
theorem Zro:∀ (n:Nat) (l:List ZW) (x v:AV),O l<=n->O l<=1048576->XK l->SS x l->K v->∀ H,∃ y,Ze YS [x,v] H=N (y,H)/\SS y (Qu f n l):=by
 intro n
 induction n with
 |zero =>
  intro l x v hn hl B hx hv H;have:l=[]:=yP.1 Y;subst this;obtain⟨x',F,j⟩:=SS.closed hx [] 0 7;obtain⟨v',G,L⟩:=hK.close v hv;obtain⟨y,p1,p2⟩:=SK j hl [];have M:=SS.len j 9;obtain⟨E,D,z⟩:=SS.closed p2 [] 0 7;refine⟨E,RX F G ?_ D,z⟩;rw[Wf];unfold Xu;simp only[go_sem,M,zC,show decide (((0:Nat):Int)<2)=I from rfl,p1]
 |succ n ih =>
  intro l x v hn hl B hx hv H;obtain⟨x',F,j⟩:=SS.closed hx [] 0 7;obtain⟨v',G,L⟩:=hK.close v hv;have M:=SS.len j 9;unfold Qu;by_cases h2:O l<2
  ·have Z:decide ((O l:Int)<2)=I:=by simp;omega
   obtain⟨y,p1,p2⟩:=SK j hl [];obtain⟨E,D,z⟩:=SS.closed p2 [] 0 7;rw[if_pos h2];refine⟨E,RX F G ?_ D,z⟩;rw[Wf];unfold Xu;simp only[go_sem,M,Z,p1]
  ·rw[if_neg h2];have Z:decide ((O l:Int)<2)=X:=by simp;omega
   have hq:Z2 .quo (Q J (O l:Int)) (Q J 2)=N (Q J ((O l / 2:Nat):Int)):=by
    simp[Z2,X6,X8];exact Zl Y Y
   obtain⟨xa,a1,a2⟩:=SS.hi j (n:=O l / 2) Y;obtain⟨xb,b1,b2⟩:=SS.lo j (n:=O l / 2) Y;obtain⟨ya,a3,a4⟩:=ih (l.take (O l / 2)) xa v' (by rw[zR];omega) (by rw[zR];omega) (λs w=>B s (yB w)) a2 L [];obtain⟨yb,b3,b4⟩:=ih (l.drop (O l / 2)) xb v' (by rw[zY];omega) (by rw[zY];omega) (λs w=>B s (yC w)) b2 L [];obtain⟨P,R⟩:=aZ (f:=f) n (l.take (O l / 2));obtain⟨S,T⟩:=aZ (f:=f) n (l.drop (O l / 2))
   have u:K8 1 16 X (.str []) (Q J 0) (Q J (O l:Int)) []=N (.vs 1 (.own 0 0) [],[.tok 0]):=by
    have hf:Xe (O l:Int).toNat 16=I:=by simp[Xe];omega
    unfold K8;dsimp only;rw[if_pos ⟨yT _,Y,rfl,rfl,di,hf⟩];simp
   have C:RS [yX 0] (.vs 1 (.own 0 0) []) []:=.inr ⟨0,0,rfl,rfl,zG _⟩
   obtain⟨y,H',D,z⟩:=Zrk hK L [] (Qu f n (l.take (O l / 2))) (Qu f n (l.drop (O l / 2))) [] ya yb _ _ a4 b4 C
    (λs w=>B s (yB (R s w))) (λs w=>B s (yC (T s w))) (by rw[P,S,zR,zY,zC];omega)
   rw[zV]at z;obtain⟨E,q3,q4⟩:=z.done H';refine⟨E,RX F G ?_ q3,q4⟩;rw[Wf];unfold Xu;simp only[go_sem,M,Z,Fi,hq,a1,a3,b1,b3,u,D]
end
theorem Zuj {g:ZW->ZW->Int}:∀ (l out:List ZW),(U2 g out l).length<=O out+O l:=by
 intro l
 induction l with
 |nil=>intro out;simp[U2]
 |cons x l j =>
  intro out;unfold U2;refine yZ (j _) ?_;split <;> simp <;> omega
theorem Zuk {g:ZW->ZW->Int}:∀ (l out:List ZW),∀ s∈U2 g out l,s∈out\/s∈l:=by
 intro l
 induction l with
 |nil=>intro out s j;exact .inl j
 |cons x l u =>
  intro out s j;unfold U2 at j;rcases u _ s j with h|h
  ·split at h
   ·exact .inl h
   ·rcases zW.1 h with h|h
    ·exact .inl h
    ·exact .inr (by rw[zI.1 h];simp)
  ·exact .inr (by simp[h])
theorem Zum {K:AV->Prop}{g:ZW->ZW->Int}(hK:Fv K λa b=>g a b==0){v:AV}(hv:K v){x:AV}{l:List ZW}(hx:SS x l)(hL:XK l)(hl:O l<=1048576)(H0:Hp):∀ (r done out:List ZW) (P:AV) (H:Hp),l=done++r->RS H P out->XK out->O out<=O done ->
 ∃ y H',Wv v P x (Q J (O l:Int)) (Q J (O done:Int)) H0 H=N (y,H')/\RS H' y (U2 g out r):=by
 intro r
 induction r with
 |nil =>
  intro done out P H M L ho ae;rw[yS]at M;subst M;have G:decide ((O l:Int)<(O l:Int))=X:=U
  refine⟨P,H,?_,L⟩;rw[JE];simp only[go_sem,G,NU]
 |cons a r ih =>
  intro done out P H M L ho ae;have hlen:O l=O done+(O r+1):=by rw[M];simp
  have G:decide ((O done:Int)<(O l:Int))=I:=by simp;omega
  have ag:xH.wrap ((O done:Int)+1)=((O done+1:Nat):Int):=by rw[Zl Y Y];omega
  have T:l[O done]?=N a:=by rw[M,zD (zG _)];simp
  have hi:=SS.idx hx T;have S:O a<=1048576:=hL a (zX T);have R:=SS.len L.sl 9;obtain⟨y1,H1,q1,q2⟩:=L.app (Zin a) (by simp;omega)
  have w:∀ u F H',RS H' F u->XK u->O u<=O done+1->∃ y j,Wt v F x (Q J (O l:Int)) (Q J (O done:Int)) H0 H'=N (y,j)/\RS j y (U2 g u r):=λu F H' h1 h2 h3=>by
   obtain⟨y,j,C,E⟩:=ih (done++[a]) u F H' (by rw[M];simp) h1 h2 (by simpa using h3);rw[zQ,zU]at C;exact⟨y,j,by simp only[NW,go_sem,ag,C],E⟩
  have B:XK (out++[a]):=λs hs=>by
   rcases zW.1 hs with h|h
   ·exact ho s h
   ·rw[zI.1 h];exact S
  have ab:∃ y H',U0 v P x (Q J (O l:Int)) (Q J (O done:Int)) (.bool I) H0 H=N (y,H')/\RS H' y (U2 g out (a::r)):=by
   rw[NV];unfold U2
   cases D:out.getLast? with
   |none =>
    have:out=[]:=yL.1 D;subst this;rw[show Rt g [] a=X from rfl];obtain⟨y,j,C,E⟩:=w _ _ _ q2 B U;refine⟨y,j,?_,by simpa using E⟩;simp only[go_sem,hi,ZE,R,zC,show (((0:Nat):Int)==0)=I from rfl,VH,q1,C]
   |some z =>
    have ad:out≠[]:=λe=>by subst e;simp at D
    have ai:0<O out:=yW.2 ad;have aa:out[O out-1]?=N z:=by rw[<-yM];exact D
    have h0:((O out:Int)==0)=X:=by rw[beq_eq_false_iff_ne];omega
    have ah:xH.wrap ((O out:Int)-1)=((O out-1:Nat):Int):=by rw[Zl Y Y];omega
    have ac:=SS.idx L.sl aa;have Z:=hK.run v hv z a (ho z (zX aa)) S H;have af:Rt g out a=(g z a==0):=by unfold Rt;rw[D]
    simp only[go_sem,hi,ZE,R,h0,ah,ac,Z,af]
    cases hg:(g z a==0) with
    |true =>
     obtain⟨y,j,C,E⟩:=w _ _ _ L ho Y;exact⟨y,j,by simp only[zS,go_sem,C],by simpa using E⟩
    |false =>
     obtain⟨y,j,C,E⟩:=w _ _ _ q2 B (by simp;omega);exact⟨y,j,by simp only[zT,go_sem,VH,q1,C],by simpa using E⟩
  obtain⟨y,H',C,E⟩:=ab;refine⟨y,H',?_,E⟩;rw[JE];simp only[go_sem,G,C]
theorem Zul {K:AV->Prop}{g:ZW->ZW->Int}(hK:Fv K λa b=>g a b==0){v:AV}(F:K v){x:AV}{l:List ZW}(G:SS x l)(C:XK l)(D:O l<=1048576)(H:Hp):∃ y,Ze Up [x,v] H=N (y,H)/\SS y (U2 g [] l):=by
 obtain⟨T,w,j⟩:=SS.closed G [] 0 7;obtain⟨v',z,B⟩:=hK.close v F;obtain⟨y,H',u,L⟩:=Zum hK B j C D [] l [] [] .nils [] rfl (RowN.nil _ _ _) (λs E=>by cases E) (zG _);rw[zC,show ((0:Nat):Int)=0 from rfl]at u;obtain⟨S,P,R⟩:=L.done H';refine⟨S,RX w z ?_ P,R⟩;have M:=SS.len j 9;rw[MK];unfold GT;simp only[go_sem,M,u]
def SpecCells (l:du)(p:Spec):Prop:=∃ x,l=p.cells x/\Sl 5 x (p.keys.map Ke.av)
theorem SpecCells.close {l:du}{p:Spec}(h:SpecCells l p)(H:Hp)(n f:Nat):∃ j,l.mapM (Zk H n (f+3))=N j/\SpecCells j p:=by
 obtain⟨x,rfl,z⟩:=h
 obtain⟨u,w,y⟩:=z.close (H:=H) (n:=n) (f:=f+2) (λc hc=>by
  obtain⟨k,_,rfl⟩:=List.mem_map.1 hc;exact k.close H n f)
 refine⟨p.cells u,?_,u,rfl,y⟩;simp only[Spec.cells,xC,w,xE];rfl
def ClK (g:Nat)(L:Loc)(p:Spec)(v:AV):Prop:=∃ lc sc,v=.fn (.func g) [] [.vp lc,.vp sc]/\LocCells lc L/\SpecCells sc p
theorem ZqC (H:Hp)(n f:Nat)(g:Fn)(a b:AV):Zk H n (f+1) (.fn g [] [a,b])=match Zk H n f a,Zk H n f b with
 |some a',N b'=>N (.fn g [] [a',b'])
 |_,_=>V:=by
 show (match ([]:du).mapM (Zk H n f),[a,b].mapM (Zk H n f) with
  |some a,N b=>N (AV.fn g a b)
  |_,_=>V)=_
 simp only[xE,xC];cases Zk H n f a <;> cases Zk H n f b <;> rfl
theorem ClK.close {g:Nat}{L:Loc}{p:Spec}{v:AV}(h:ClK g L p v):∃ v',Zk [] 0 9 v=N v'/\ClK g L p v':=by
 obtain⟨lc,sc,rfl,w,y⟩:=h;obtain⟨j,z,B⟩:=w.close [] 0 4;obtain⟨u,C,D⟩:=y.close [] 0 4;refine⟨.fn (.func g) [] [.vp j,.vp u],?_,j,u,rfl,B,D⟩;rw[ZqC,Qj,Qj,z,C]
theorem Zv2 (L:Loc)(y:LocOk L)(p:Spec)(w:∀ k∈p.keys,KeOk k):Fv (ClK 65 L p) λa b=>decide (0<YO L p a b) where
 close:=λv z=>ClK.close z
 run:=λv z a b C D H=>by
  obtain⟨lc,sc,rfl,F,M⟩:=z;rw[ZfH];obtain⟨T,R,S⟩:=F.close [] 0 5;obtain⟨aa,Z,s2⟩:=M.close [] 0 5;obtain⟨x,c,e,rfl,P,hc,E⟩:=S;obtain⟨xs,rfl,B⟩:=s2;have j:Zk [] 0 9 (.vp lc)=N (.vp (L.cells x c e)):=by rw[Qj,R]
  have u:Zk [] 0 9 (.vp sc)=N (.vp (p.cells xs)):=by rw[Qj,Z]
  have G:=Zxc (a:=.agg (L.cells x c e)) (L:=L) ⟨x,c,e,rfl,P,hc,E⟩ y (q:=.agg (p.cells xs)) (p:=p) ⟨xs,rfl,B⟩ w a b C D [];refine IW (a':=.str a) (b':=.str b) rfl rfl j u (H1:=[]) ?_ rfl;rw[nY];unfold CI;simp only[go_sem,Ub 6 (L.cells x c e) rfl,Ub 5 (p.cells xs) rfl,G]
theorem Zv3 (L:Loc)(y:LocOk L)(p:Spec)(w:∀ k∈p.keys,KeOk k):Fv (ClK 68 L p) λa b=>Xf L p a b==0 where
 close:=λv z=>ClK.close z
 run:=λv z a b C D H=>by
  obtain⟨lc,sc,rfl,F,M⟩:=z;rw[ZfI];obtain⟨T,R,S⟩:=F.close [] 0 5;obtain⟨aa,Z,s2⟩:=M.close [] 0 5;obtain⟨x,c,e,rfl,P,hc,E⟩:=S;obtain⟨xs,rfl,B⟩:=s2;have j:Zk [] 0 9 (.vp lc)=N (.vp (L.cells x c e)):=by rw[Qj,R]
  have u:Zk [] 0 9 (.vp sc)=N (.vp (p.cells xs)):=by rw[Qj,Z]
  have G:=ZkF (a:=.agg (L.cells x c e)) (L:=L) ⟨x,c,e,rfl,P,hc,E⟩ y (q:=.agg (p.cells xs)) (p:=p) ⟨xs,rfl,B⟩ w a b C D [];refine IW (a':=.str a) (b':=.str b) rfl rfl j u (H1:=[]) ?_ rfl;rw[nZ];unfold CJ;simp only[go_sem,Ub 6 (L.cells x c e) rfl,Ub 5 (p.cells xs) rfl,G]
def Ye (L:Loc)(p:Spec)(l:List ZW):List ZW :=
 if (Vq p != 0)=I then l else if p.uniq then U2 (Xf L p) [] (ZbP (YO L p) l) else ZbP (YO L p) l
theorem Zky (L:Loc)(p:Spec)(l:List ZW):Qu (YO L p) (O l) l=ZbP (YO L p) l:=Zu7 (Zuo L p) l (zG _)
theorem O4 (L:Loc)(p:Spec)(l:List ZW):(ZbP (YO L p) l).length=O l/\∀ s∈ZbP (YO L p) l,s∈l:=by
 rw[<-Zky];exact aZ _ _
theorem Zn0 {f:du->Hp->Z3}{a a' b b' c c' v v':AV}{H H1:Hp}(j:Zk [] 0 9 a=N a')(u:Zk [] 0 9 b=N b')(w:Zk [] 0 9 c=N c')(hc:f [a',b',c'] []=N (v,H1))(y:Zk H1 0 9 v=N v'):Ze f [a,b,c] H=N (v',H) :=
 A0 (args':=[a',b',c']) (by simp[j,u,w]) hc y
theorem ZzU {f:du->Hp->Z3}{a a' b b' c c' d d' v v':AV}{H H1:Hp}(j:Zk [] 0 9 a=N a')(u:Zk [] 0 9 b=N b')(w:Zk [] 0 9 c=N c')(y:Zk [] 0 9 d=N d')(hc:f [a',b',c',d'] []=N (v,H1))(z:Zk H1 0 9 v=N v'):Ze f [a,b,c,d] H=N (v',H) :=
 A0 (args':=[a',b',c',d']) (by simp[j,u,w,y]) hc z
theorem Zl4 {a:AV}{L:Loc}(h:LocAV a L)(E:LocOk L){q:AV}{p:Spec}(hq:SpecAV q p)(B:∀ k∈p.keys,KeOk k){x:AV}{l:List ZW}(hx:SS x l)(hL:XK l)(hl:O l<=1048576)(H:Hp) :
 ∃ y,Ze Bv [a,q,x] H=N (y,H)/\SS y (Ye L p l):=by
 obtain⟨a1,h1,h2⟩:=h.close [] 0 5;obtain⟨q1,g1,g2⟩:=hq.close [] 0 5;obtain⟨x1,k1,k2⟩:=SS.closed hx [] 0 7;have u:=λH=>ZhH g2 H;obtain⟨j,c,e,rfl,D,hc,he⟩:=h2;obtain⟨xp,rfl,F⟩:=g2
 suffices S:∃ y H1,Bv [.agg (L.cells j c e),.agg (p.cells xp),x1] []=N (y,H1)/\SS y (Ye L p l) by
  obtain⟨y,H1,r1,r2⟩:=S;obtain⟨y',r3,r4⟩:=SS.closed r2 H1 0 7;exact⟨y',Zn0 h1 g1 k1 r1 r3,r4⟩
 have C:Z4 I 5 (.ptr 1 0) [zA (L.cells j c e),.cells (p.cells xp)]=N (.agg (p.cells xp)):=by simp[Z4,Go.Am.apart,Spec.cells]
 rw[ZcW];unfold bZ Ye
 cases hb:(Vq p != 0) with
 |true =>
  obtain⟨y,Z,G⟩:=SK k2 hl [zA (L.cells j c e),.cells (p.cells xp)];refine⟨y,[zA (L.cells j c e),.cells (p.cells xp)],?_,by rw[if_pos rfl];exact G⟩;simp only[go_sem,Yn,zV,zC,zK,zZ,zM,C,u,hb,Z]
 |false =>
  have R:∀ (k:AV->Hp->Z3),XN (.ptr 0 0) [zA (L.cells j c e),.cells (p.cells xp)] k=k (.vp (L.cells j c e)) [.dead,.cells (p.cells xp)]:=λk=>rfl;have w:∀ (k:AV->Hp->Z3),XN (.ptr 1 0) [xF,.cells (p.cells xp)] k=k (.vp (p.cells xp)) [.dead,.dead]:=λk=>rfl;have M:ClK 65 L p (.fn (.func 65) [] [.vp (L.cells j c e),.vp (p.cells xp)]):=⟨_,_,rfl,⟨j,c,e,rfl,D,hc,he⟩,⟨xp,rfl,F⟩⟩;have P:ClK 68 L p (.fn (.func 68) [] [.vp (L.cells j c e),.vp (p.cells xp)]):=⟨_,_,rfl,⟨j,c,e,rfl,D,hc,he⟩,⟨xp,rfl,F⟩⟩;obtain⟨y,Z,G⟩:=Zro (Zv2 L E p B) (O l) l x1 _ (zG _) hl hL k2 M [xF,.dead];rw[Zky]at G;obtain⟨f1,f2⟩:=O4 L p l;have T:Z6 3 (.vp (p.cells xp))=N (.vp [.bool p.uniq,.bool p.stab]):=rfl;simp only[go_sem,Yn,zV,zC,zK,zZ,zM,C,u,hb,Zc7,R,w,Z,T,ZE,yJ,if_false]
  cases hu:p.uniq with
  |true =>
   obtain⟨z,o1,o2⟩:=Zul (Zv3 L E p B) P G (λs S=>hL s (f2 s S)) Y [xF,.dead];exact⟨z,[.dead,.dead],by simp only[go_sem,o1,Lj],by simpa using o2⟩
  |false=>exact⟨y,[.dead,.dead],by simp only[go_sem,Lj],by simpa using G⟩
theorem ZwQ {L:Loc}{j c e:AV}(w:LocAV (.agg (L.cells j c e)) L)(F:LocOk L){p:Spec}{xp:AV}(G:SpecAV (.agg (p.cells xp)) p)(B:∀ k∈p.keys,KeOk k){x:AV}{S:List ZW}(R:SS x S)(P:XK S)(hl:O S<=1048576)(y:ZW)(T:O y<=1048576)(M:Hp):∀ k:Nat,k<=O S ->
 FW x (.str y) (.ptr 0 0) (.ptr 1 0) (Q J (k:Int)) M [zA (L.cells j c e),.cells (p.cells xp)]=LQ x (.str y) (Q J ((Ux (YO L p) S y k:Nat):Int)) M [zA (L.cells j c e),.cells (p.cells xp)]:=by
 have C:Z4 I 5 (.ptr 1 0) [zA (L.cells j c e),.cells (p.cells xp)]=N (.agg (p.cells xp)):=by simp[Z4,Go.Am.apart,Spec.cells]
 have D:=Bl L j c e [.cells (p.cells xp)];intro k
 induction k with
 |zero =>
  intro _;rw[HH];simp only[go_sem,show decide ((0:Int)<((0:Nat):Int))=X from rfl,Ux]
 |succ k Z =>
  intro hk;have E:decide ((0:Int)<((k+1:Nat):Int))=I:=decide_eq_true Y;have hw:xH.wrap (((k+1:Nat):Int)-1)=(k:Int):=by rw[Zl Y Y];omega
  have hi:S[k]?=N S[k]:=yO Y;have z:=SS.idx R hi;have u:=ZuP w F G B S[k] y (P _ (List.getElem_mem Y)) T [zA (L.cells j c e),.cells (p.cells xp)];rw[HH];unfold Ux;rw[hi];simp only[go_sem,E,D,C,hw,z,ZE,u];by_cases hc:0<YO L p S[k] y
  ·simp only[decide_eq_true hc,go_sem,ZfF,hw,if_pos hc];exact Z Y
  ·simp only[decide_eq_false hc,go_sem,if_neg hc]
theorem ZwP {a:AV}{L:Loc}(h:LocAV a L)(C:LocOk L){q:AV}{p:Spec}(hq:SpecAV q p)(B:∀ k∈p.keys,KeOk k){x:AV}{S:List ZW}(hx:SS x S)(hS:XK S)(hl:O S<=1048576)(y:ZW)(hy:O y<=1048576)(H:Hp) :
 ∃ z,Ze Tc [a,q,x,.str y] H=N (z,H)/\SS z (QK (YO L p) S y):=by
 obtain⟨a1,h1,M⟩:=h.close [] 0 5;obtain⟨q1,g1,G⟩:=hq.close [] 0 5;obtain⟨x1,k1,k2⟩:=SS.closed hx [] 0 7;have w:=M;have E:=G;obtain⟨P,c,e,rfl,aa,hc,he⟩:=M;obtain⟨xp,rfl,ab⟩:=G
 suffices hs:∃ z H1,Tc [.agg (L.cells P c e),.agg (p.cells xp),x1,.str y] []=N (z,H1)/\SS z (QK (YO L p) S y) by
  obtain⟨z,H1,R,T⟩:=hs;obtain⟨z',F,r4⟩:=SS.closed T H1 0 7;exact⟨z',ZzU h1 g1 k1 (d':=.str y) rfl R F,r4⟩
 have hlen:=SS.len k2 9;have j:=ZwQ w C E B k2 hS hl y hy [] (O S) (zG _);have D:=ZjY (f:=YO L p) S y (O S);unfold QK;generalize Ux (YO L p) S y (O S)=n at j D ⊢;obtain⟨xa,u,a2⟩:=SS.hi k2 D;obtain⟨xb,b1,b2⟩:=SS.lo k2 D;obtain⟨R,H1,s1,s2⟩:=RS.app (H:=[zA (L.cells P c e),.cells (p.cells xp)]) (x:=.nils) (l:=[]) (RowN.nil _ _ _) a2 (by rw[zR];simp;omega);obtain⟨T,H2,s3,s4⟩:=s2.app (Zin y) (by simp;omega);obtain⟨F,Z,s5,s6⟩:=s4.app b2 (by simp;omega)
 refine⟨F,Z,?_,by
  have h7:=s6.sl
  rwa [show[]++S.take n++[y]++S.drop n=S.take n++y::S.drop n by simp]at h7⟩
 rw[Zgw];unfold Za7;simp only[go_sem,Yn,zV,zC,zK,zZ,zM,hlen,j,ZfE,u,s1,VH,s3,b1,s5]
theorem ZrX {L:Loc}{lx c e:AV}(ah:LocAV (.agg (L.cells lx c e)) L)(al:LocOk L){p:Spec}{xp:AV}(an:SpecAV (.agg (p.cells xp)) p)(ai:∀ k∈p.keys,KeOk k){x:AV}{l:List ZW}(hx:SS x l)(hL:XK l)(hl:O l<=1048576)(H0:Hp) :
 ∀ (r done out:List ZW) (x7:AV) (H:Hp),H[0]?=N (.cells (L.cells lx c e))->H[1]?=N (.cells (p.cells xp))->2<=O H->l=done++r->RowN 2 H 1 x7 (out.map zE)->XK out->O out<=O done ->
 ∃ y H',Mq x (.ptr 0 0) (.ptr 1 0) x7 (Q J (O done:Int)) H0 H=N (y,H')/\SS y (if p.uniq then U2 (Xf L p) out r else out++r):=by
 intro r
 induction r with
 |nil =>
  intro done out x7 H e0 e1 u T S ho ak;rw[yS]at T;subst T;have B:decide ((O l:Int)<(O l:Int))=X:=U
  have p3:=SS.len hx 9;refine⟨x7,H,?_,?_⟩
  ·rw[dT];simp only[go_sem,p3,B,ZjB]
  ·have:=S.sl;split <;> simpa[U2]using this
 |cons a r ih =>
  intro done out x7 H e0 e1 u T S ho ak;have hlen:O l=O done+(O r+1):=by rw[T];simp
  have B:decide ((O done:Int)<(O l:Int))=I:=by simp;omega
  have ao:xH.wrap ((O done:Int)+1)=((O done+1:Nat):Int):=by rw[Zl Y Y];omega
  have p3:=SS.len hx 9;have ab:l[O done]?=N a:=by rw[T,zD (zG _)];simp
  have hi:=SS.idx hx ab;have aa:O a<=1048576:=hL a (zX ab);have P:=SS.len S.sl 9;have ad:Z4 I 5 (.ptr 1 0) H=N (.agg (p.cells xp)):=by rw[Wg e1];simp[Go.Am.apart,Spec.cells]
  have ae:Z4 I 6 (.ptr 0 0) H=N (.agg (L.cells lx c e)):=by rw[Wg e0];simp[Go.Am.apart,Loc.cells]
  have Z:Z4 X 1 (.ptr 1 (0+3)) H=N (.bool p.uniq):=ZX (l:=p.cells xp) e1;obtain⟨y1,H1,q1,q2,q3,q4,q5⟩:=S.app u 16 (.vs 1 .clip [.str a]) [.str a] rfl (by simp;omega);have ap:RowN 2 H1 1 y1 ((out++[a]).map zE):=by simpa using q2
  have E:XK (out++[a]):=λs hs=>by
   rcases zW.1 hs with h|h
   ·exact ho s h
   ·rw[zI.1 h];exact aa
  have w:∀ j G H',H'[0]?=N (.cells (L.cells lx c e))->H'[1]?=N (.cells (p.cells xp))->2<=O H'->RowN 2 H' 1 G (j.map zE)->XK j->O j<=O done+1->∃ y C,Mo x (.ptr 0 0) (.ptr 1 0) G (Q J (O done:Int)) H0 H'=N (y,C)/\SS y (if p.uniq then U2 (Xf L p) j r else j++r):=λj G H' g0 g1 gl h1 h2 h3=>by
   obtain⟨y,C,p1,R⟩:=ih (done++[a]) j G H' g0 g1 gl (by rw[T];simp) h1 h2 (by simpa using h3);rw[zQ,zU]at p1;exact⟨y,C,by simp only[ZjC,go_sem,ao,p1],R⟩
  obtain⟨y,H',p1,R⟩:=w (out++[a]) y1 H1 (q5 _ _ e0) (q5 _ _ e1) q3 ap E (by simp;omega);rw[dT]
  cases hq:p.uniq with
  |false =>
   rw[hq]at R Z;refine⟨y,H',?_,by simpa using R⟩;simp only[go_sem,p3,B,BE,Z,zT,hi,ZE,VH,q1,p1]
  |true =>
   rw[hq]at R Z
   cases F:out.getLast? with
   |none =>
    have:out=[]:=yL.1 F;subst this;refine⟨y,H',?_,?_⟩
    ·simp only[go_sem,p3,B,BE,Z,zS,P,zC,show (((0:Nat):Int)==0)=I from rfl,hi,ZE,VH,q1,p1]
    ·unfold U2;rw[show Rt (Xf L p) [] a=X from rfl];simpa using R
   |some z =>
    have aj:out≠[]:=λe=>by subst e;simp at F
    have aq:0<O out:=yW.2 aj;have ag:out[O out-1]?=N z:=by rw[<-yM];exact F
    have h0:((O out:Int)==0)=X:=by rw[beq_eq_false_iff_ne];omega
    have af:xH.wrap ((O out:Int)-1)=((O out-1:Nat):Int):=by rw[Zl Y Y];omega
    have ac:=SS.idx S.sl ag;have M:=Ziz ah al an ai z a (ho z (zX ag)) aa H;have am:Rt (Xf L p) out a=(Xf L p z a==0):=by unfold Rt;rw[F]
    unfold U2;rw[am]
    cases hg:(Xf L p z a==0) with
    |true =>
     have D:(Xf L p z a != 0)=X:=by rw[bne,hg];rfl
     obtain⟨y',C,r1,r2⟩:=w out x7 H e0 e1 u S ho Y;rw[hq]at r2;refine⟨y',C,?_,by simpa using r2⟩;simp only[go_sem,p3,B,BE,Z,zS,P,h0,ae,ad,af,ac,hi,ZE,M,D,r1]
    |false =>
     have D:(Xf L p z a != 0)=I:=by rw[bne,hg];rfl
     refine⟨y,H',?_,by simpa using R⟩;simp only[go_sem,p3,B,BE,Z,zS,P,h0,ae,ad,af,ac,hi,ZE,M,D,VH,q1,p1]
theorem ZrW {a:AV}{L:Loc}(h:LocAV a L)(w:LocOk L){q:AV}{p:Spec}(S:SpecAV q p)(u:∀ k∈p.keys,KeOk k){x:AV}{l:List ZW}(Z:SS x l)(M:XK l)(P:O l<=1048576)(H:Hp) :
 ∃ z,Ze fF [a,q,x] H=N (z,H)/\SS z (if p.uniq then U2 (Xf L p) [] l else l):=by
 obtain⟨a1,G,D⟩:=h.close [] 0 5;obtain⟨q1,F,C⟩:=S.close [] 0 5;obtain⟨x1,k1,k2⟩:=SS.closed Z [] 0 7;have j:=D;have B:=C;obtain⟨lx,c,e,rfl,R,hc,he⟩:=D;obtain⟨xp,rfl,aa⟩:=C;obtain⟨y,H1,E,r2⟩:=ZrX j w B u k2 M P [] l [] [] .nils [zA (L.cells lx c e),.cells (p.cells xp)] rfl rfl (zG _) rfl (RowN.nil _ _ _) (λs T=>by cases T) (zG _);rw[zC,show ((0:Nat):Int)=0 from rfl]at E;obtain⟨y',r3,r4⟩:=SS.closed r2 H1 0 7;refine⟨y',Zn0 G F k1 ?_ r3,by simpa using r4⟩;rw[Zlf];unfold Zgx;simp only[go_sem,Yn,zV,zC,zK,zZ,zM,E]
theorem ZlA (f:ZW->ZW->Int):∀ (l S:List ZW),(l.foldl (QK f) S).length=O S+O l/\∀ s∈l.foldl (QK f) S,s∈S\/s∈l:=by
 intro l
 induction l with
 |nil=>intro S;exact⟨rfl,λs h=>.inl h⟩
 |cons y l u =>
  intro S;obtain⟨a,b⟩:=u (QK f S y);have w:=ZjY (f:=f) S y (O S);have hlen:(QK f S y).length=O S+1:=by unfold QK;rw[zQ,zR,zK,zY];omega
  refine⟨by rw[yI,a,hlen,zK];omega,λs j=>?_⟩;rcases b s j with h|h
  ·unfold QK at h;rcases zW.1 h with h|h
   ·exact .inl (yB h)
   ·rcases zN.1 h with h|h
    ·exact .inr (by simp[h])
    ·exact .inl (yC h)
  ·exact .inr (by simp[h])
theorem Zs1 {L:Loc}{u c e:AV}(C:LocAV (.agg (L.cells u c e)) L)(M:LocOk L){p:Spec}{xp:AV}(P:SpecAV (.agg (p.cells xp)) p)(E:∀ k∈p.keys,KeOk k){x:AV}{l:List ZW}(hx:SS x l)(hL:XK l)(hl:O l<=1048576)(H0:Hp) :
 ∀ (r done S:List ZW) (T:AV),l=done++r->SS T S->XK S->O S=O done ->
 ∃ y H',Mn x (.ptr 0 0) (.ptr 1 0) T (Q J (O done:Int)) H0 [zA (L.cells u c e),.cells (p.cells xp)]=N (y,H')/\SS y (if p.uniq then U2 (Xf L p) [] (r.foldl (QK (YO L p)) S) else r.foldl (QK (YO L p)) S):=by
 have F:Z4 I 5 (.ptr 1 0) [zA (L.cells u c e),.cells (p.cells xp)]=N (.agg (p.cells xp)):=by simp[Z4,Go.Am.apart,Spec.cells]
 have G:=Bl L u c e [.cells (p.cells xp)];have p3:=SS.len hx 9;intro r
 induction r with
 |nil =>
  intro done S T w Z R aa;rw[yS]at w;subst w;have j:decide ((O l:Int)<(O l:Int))=X:=U
  obtain⟨z,r1,r2⟩:=ZrW C M P E Z R Y [zA (L.cells u c e),.cells (p.cells xp)];refine⟨z,[zA (L.cells u c e),.cells (p.cells xp)],?_,r2⟩;rw[dS];simp only[go_sem,p3,j,Zjy,G,F,r1]
 |cons a r ih =>
  intro done S T w Z R aa;have hlen:O l=O done+(O r+1):=by rw[w];simp
  have j:decide ((O done:Int)<(O l:Int))=I:=by simp;omega
  have ab:xH.wrap ((O done:Int)+1)=((O done+1:Nat):Int):=by rw[Zl Y Y];omega
  have D:l[O done]?=N a:=by rw[w,zD (zG _)];simp
  have hi:=SS.idx hx D;have B:O a<=1048576:=hL a (zX D);obtain⟨z,r1,r2⟩:=ZwP C M P E Z R Y a B [zA (L.cells u c e),.cells (p.cells xp)];obtain⟨f1,f2⟩:=ZlA (YO L p) [a] S;rw[yI,List.foldl_nil]at f1 f2
  obtain⟨y,H',r3,r4⟩:=ih (done++[a]) (QK (YO L p) S a) z (by rw[w];simp) r2 (λs hs=>by
   rcases f2 s hs with h|h
   ·exact R s h
   ·rw[zI.1 h];exact B) (by rw[f1];simp;omega)
  rw[zQ,zU]at r3;refine⟨y,H',?_,by rw[yI];exact r4⟩;rw[dS];simp only[go_sem,p3,j,Zjz,G,F,hi,ZE,r1,ZjA,ab,r3]
theorem Zs0 {a:AV}{L:Loc}(h:LocAV a L)(D:LocOk L){q:AV}{p:Spec}(hq:SpecAV q p)(C:∀ k∈p.keys,KeOk k){x:AV}{l:List ZW}(hx:SS x l)(Z:XK l)(hl:O l<=1048576)(H:Hp) :
 ∃ y,Ze Sy [a,q,x] H=N (y,H)/\SS y (Ye L p l):=by
 obtain⟨a1,T,P⟩:=h.close [] 0 5;obtain⟨q1,S,z⟩:=hq.close [] 0 5;obtain⟨x1,k1,k2⟩:=SS.closed hx [] 0 7;have j:=λH=>ZeB z H;have B:=P;have F:=z;obtain⟨G,c,e,rfl,aa,hc,he⟩:=P;obtain⟨xp,rfl,ab⟩:=z
 suffices E:∃ y H1,Sy [.agg (L.cells G c e),.agg (p.cells xp),x1] []=N (y,H1)/\SS y (Ye L p l) by
  obtain⟨y,H1,r1,r2⟩:=E;obtain⟨y',r3,r4⟩:=SS.closed r2 H1 0 7;exact⟨y',Zn0 T S k1 r1 r3,r4⟩
 have u:Z4 I 5 (.ptr 1 0) [zA (L.cells G c e),.cells (p.cells xp)]=N (.agg (p.cells xp)):=by simp[Z4,Go.Am.apart,Spec.cells]
 rw[Zle];unfold Zgv Ye
 cases R:(Vq p != 0) with
 |true =>
  obtain⟨y,H1,w,M⟩:=RS.app (H:=[zA (L.cells G c e),.cells (p.cells xp)]) (x:=.nils) (l:=[]) (RowN.nil _ _ _) k2 (by simp;omega);refine⟨y,H1,?_,by rw[if_pos rfl];exact M.sl⟩;simp only[go_sem,Yn,zV,zC,zK,zZ,zM,u,j,R,w]
 |false =>
  obtain⟨y,H1,w,M⟩:=Zs1 B D F C k2 Z hl [] l [] [] .nils rfl (.inl ⟨rfl,rfl⟩) (λs E=>by cases E) rfl;rw[zC,show ((0:Nat):Int)=0 from rfl]at w;refine⟨y,H1,?_,by rw[if_neg di];exact M⟩;simp only[go_sem,Yn,zV,zC,zK,zZ,zM,u,j,R,Zjx,w]
theorem ZqH:LocOk defL:=⟨di,by simp[defL],by simp[defL],by simp[defL],λc hc=>(by cases hc),λc hc=>(by cases hc),by simp[defL],by simp[defL]⟩
theorem ZAI (p:Spec)(h:p.keys=[]):SpecAV (.agg (p.cells .nils)) p:=⟨.nils,rfl,.inl ⟨rfl,by rw[h];rfl⟩⟩
theorem ZA5 {p:Spec}(h:p.keys=[]):∀ k∈p.keys,KeOk k:=λk hk=>by rw[h]at hk;cases hk
theorem Zu0 (l:List ZW)(t:Tok):SS (.vs 1 t (l.map zE)) l:=.inr ⟨t,rfl⟩
theorem Zv4 (L:Loc)(p:Spec)(l:List ZW):(Ye L p l).length<=O l:=by
 obtain⟨j,u⟩:=O4 L p l;have:=Zuj (g:=Xf L p) (ZbP (YO L p) l) [];unfold Ye;split
 ·exact zG _
 ·split
  ·simp at this;omega
  ·omega
def X1 (s:dr):Bool :=
 match s with
 |[]=>X
 |b::_=>decide (O s<=16)&&!Mv b.toNat&&s.all λc=>WE c.toNat
theorem ZeJ (y B w C:AV)(z H:Hp):DN y B w C z H =
 Z0 (Zp y w) λu =>
 Z0 (SY u w) λj =>
 Zh j (N ((.bool X),H)) (DO y B w z H):=by
 rw[kU];simp only[SY,Bc,Xz]
theorem Zo5 (s:dr)(u:O s<=4611686018427387904)(j H:Hp):DM (.str s) j H=N (.bool (!s.isEmpty&&decide (O s<=16)),H):=by
 rw[kT]
 cases s with
 |nil=>simp[go_sem,Y1,QC]
 |cons b l =>
  simp only[Y1,QC,go_sem,Zf];have:(!((b::l)==([]:dr)))=I:=rfl;have c:decide (((b::l).length:Int)<=16)=decide ((b::l).length<=16):=by rw[Bool.eq_iff_iff];simp;omega
  simp only[this,go_sem,c,yK,zT,yN]
theorem Zsi (s:dr)(B:O s<=4611686018427387904)(y H:Hp):∀ (k i:Nat),O s-i=k->0<i->i<=O s ->
 Jl (.str s) (Q J (O s)) (Q J i) y H=N (.bool (((s.drop i).all λc=>WE c.toNat)&&(!s.isEmpty&&decide (O s<=16))),H):=by
 intro k
 induction k with
 |zero =>
  intro i hk h0 hi;rw[U9];have j:decide ((i:Int)<(O s:Int))=X:=by simp;omega
  have z:s.drop i=[]:=List.drop_eq_nil_iff.2 Y;simp only[go_sem,j,Zo5 s B,z,List.all_nil,yN]
 |succ k C =>
  intro i hk h0 hi;rw[U9];have w:i<O s:=Y
  have j:decide ((i:Int)<(O s:Int))=I:=by simp;omega
  have hw:xH.wrap ((i:Int)+1)=((i+1:Nat):Int):=by rw[Zl Y Y];omega
  have u:((i:Int)==0)=X:=by simp;omega
  simp only[go_sem,j,ZeJ,ZG (yO w),Zij _ u];rw[List.drop_eq_getElem_cons w,yV]
  cases D:WE s[i].toNat with
  |false=>simp only[go_sem,zT,Bool.false_and]
  |true =>
   simp only[go_sem,zS,yN,Pz,hw];exact C (i+1) Y Y Y
theorem Zsj (s:dr)(y:O s<=4611686018427387904)(H:Hp):Uq [.str s] H=N (.bool (X1 s),H):=by
 rw[oB];unfold CO;simp only[go_sem,Zf]
 cases s with
 |nil=>rw[U9];simp[go_sem,Zo5 [] U,X1]
 |cons b l =>
  rw[U9];have w:decide ((0:Int)<((b::l).length:Int))=I:=U
  have hw:xH.wrap ((0:Int)+1)=((0+1:Nat):Int):=di
  have u:Zp (.str (b::l)) (Q J 0)=N (.int .u8 b.toNat):=by simp[Zp]
  simp only[go_sem,w,ZeJ,u,Zex]
  cases j:(!WE b.toNat || Mv b.toNat) with
  |true =>
   have:X1 (b::l)=X:=by
    unfold X1;simp only[Bool.or_eq_true,Bool.not_eq_true']at j;rcases j with j|j <;> simp[j]
   simp only[go_sem,this]
  |false =>
   simp only[Bool.or_eq_false_iff,Bool.not_eq_false']at j;simp only[go_sem,Pz,hw];rw[Zsi (b::l) y H H (O l) 1 U Y U]
   have:X1 (b::l)=(((b::l).drop 1).all (λc=>WE c.toNat)&&(!(b::l).isEmpty&&decide ((b::l).length<=16))):=by
    unfold X1;simp only[j.1,j.2,yV,List.drop_one,List.tail_cons,yK,zT,yN,Bool.and_true];rw[Bool.and_comm]
   rw[this]
theorem Oh (s:Zj)(j:O s<=1048576)(H:Hp):Ze Uq [.str s] H=N (.bool (X1 s),H) :=
 YG (a':=.str s) rfl (H1:=[]) (Zsj s Y []) rfl
theorem ZpZ {H:Hp}{t:Nat}{s:Sto}{S:dv}(h:StoreAt H t s S)(hk:StoOk s)(C:s.files=[])(w:Zj)(B:O w<=1048576):Ve Qc [.ptr t 0,.str w] H=N (.nils,H):=by
 have y:=Oh w B H;have j:Y5 (.pointer 76) .eql (.ptr t 0) .nilp=N (.bool X):=rfl;refine Qx (H1:=H) (v:=.nils) ?_ (Keep.refl _ _) (zG _) rfl;rw[GW];unfold Gq
 cases u:X1 w with
 |false =>
  rw[u]at y;simp only[go_sem,j,y,zT]
 |true =>
  rw[u]at y;obtain⟨x,E,F⟩:=cH h hk
  have D:Zf (.slice 96) x=N (Q J 0):=by
   have:=Sl.len F 96;rw[C]at this;exact this
  have z:decide ((0:Int)<0)=X:=rfl;simp only[go_sem,j,y,zS,Nq,jT w B,E,D,Gi,z,Nr]
theorem Zob {H:Hp}{t:Nat}{s:Sto}{S:dv}(h:StoreAt H t s S)(hk:StoOk s)(L:s.files=[])(j:Zj)(E:O j<=1048576)(R:X1 j=I)(lim:Int) :
 ∃ H' D,VB [.ptr t 0,.str j,Q J lim] H=N (.tuple [.ptr (O H+1) 0,Q J 0],H')/\SysAt H' (O H+1) t ⟨j,[],[],(max 0 lim).toNat,0,X⟩ s D/\Stp S H H'/\(∀ a∈D,a∈S\/O H<=a):=by
 have w:Y5 (.pointer 76) .eql (.ptr t 0) .nilp=N (.bool X):=rfl;have y:=Oh j E H;rw[R]at y;have C:decide ((0:Int)<0)=X:=rfl;have z:(Yb [(0,1,.ptr t 0),(1,1,.str j),(3,1,.map (O H))] [.nilp,(.str []),.nils,.nilm]).map AV.agg=N (.agg [.ptr t 0,.str j,.nils,.map (O H)]):=rfl;have B:(Yb [(0,4,.agg [.ptr t 0,.str j,.nils,.map (O H)]),(4,1,Q J (max 0 lim))] [.nilp,(.str []),.nils,.nilm,(Q J 0),(Q J 0),(.bool X)]).map AV.agg=N (.agg [.ptr t 0,.str j,.nils,.map (O H),Q J (max 0 lim),Q J 0,.bool X]):=rfl;have G:∀ l:du,ZY (.agg l) (H++[.map [] 0])=N (.ptr (O H+1) 0,H++[.map [] 0]++[.cells l]):=λl=>by rw[VE rfl];simp[AV.cells]
 have F:Stp S H (H++[AObj.map [] 0]++[.cells [.ptr t 0,.str j,.nils,.map (O H),Q J (max 0 lim),Q J 0,.bool X]]):=by rw[yA];exact Stp.push _ _
 have M:((max 0 lim).toNat:Int)=max 0 lim:=Y
 refine⟨H++[.map [] 0]++[.cells [.ptr t 0,.str j,.nils,.map (O H),Q J (max 0 lim),Q J 0,.bool X]],[O H+1,O H]++S,?_,⟨[O H+1,O H],S,⟨O H,0,.nils,[],⟨?_,.inl ⟨rfl,rfl⟩,?_,rfl,by simp[ZA]⟩,rfl⟩,h.frame λa u=>?_,λa u P=>?_,rfl⟩,F,λa u=>?_⟩
 ·rw[MR];unfold To;simp only[go_sem,w,UT,y,zS,Gj,ZpZ h hk L j E,Gk,C,Ns,z,B,G]
 ·simp[M]
 ·simp
 ·rw[yA,zB (h.lt a u)]
 ·have:=h.lt a P;simp at u;omega
 ·simp at u;rcases u with e|e|u
  ·exact .inr Y
  ·exact .inr Y
  ·exact .inl u
theorem Zkc (o:Nat)(n:Zj)(H:Hp):Ma [.ptr o 0,.str n] H=N (.ptr (O H) 0,H++[.cells (JG o n 0 X X [])]):=by
 have j:Y5 (.pointer 87) .eql (.ptr o 0) .nilp=N (.bool X):=rfl;have hf:(Yb [(0,1,.ptr o 0),(1,1,.str n)] [.nilp,(.str []),(Q J 0),(.bool X),(.bool X),(.str [])]).map AV.agg=N (.agg (JG o n 0 X X [])):=rfl;rw[Zjh];unfold ZdS;simp only[go_sem,j,ZiE,hf,Yn]
theorem Bm {H:Hp}{i:Nat}{L:Loc}{x c e:AV}(h:H[i]?=N (.cells (L.cells x c e))):Z4 I 6 (.ptr i 0) H=N (.agg (L.cells x c e)):=by
 rw[Wg h];simp[Go.Am.apart,Loc.cells]
theorem Km {H:Hp}{i:Nat}{p:Spec}{x:AV}(h:H[i]?=N (.cells (p.cells x))):Z4 I 5 (.ptr i 0) H=N (.agg (p.cells x)):=by
 rw[Wg h];simp[Go.Am.apart,Spec.cells]
theorem SysRes.trans {H H1 C:Hp}{o t:Nat}{y j:Tmp}{E D:Sto}{A z B:dv}(h:SysRes H H1 o t y E A z)(k:SysRes H1 C o t j D z B):SysRes H C o t j D A B :=
 ⟨k.at',h.stp.trans k.stp (λ_ h=>h) λa u=>h.own a u,λa u=>by
  rcases k.own a u with w|w
  ·exact h.own a w
  ·exact .inr (yZ h.stp.len w)⟩
theorem SysRes.pre {H H1 z:Hp}{o t:Nat}{j:Tmp}{B:Sto}{A y:dv}(h:Stp A H H1)(k:SysRes H1 z o t j B A y):SysRes H z o t j B A y :=
 ⟨k.at',h.trans k.stp (λ_ h=>h) λa u=>.inl u,λa u=>by
  rcases k.own a u with w|w
  ·exact .inl w
  ·exact .inr (yZ h.len w)⟩
theorem Zso {H:Hp}{o t:Nat}{tm w T:Tmp}{s s1 s2 s3:Sto}{A:dv}{n:Zj}(h:SysAt H o t tm s A)(hm:TmpOk tm)(hk:StoOk s)(ag:tm.last<1000000){a q x:AV}{L:Loc}{p:Spec}{l:List ZW}(F:LocAV a L)(ah:LocOk L)(hq:SpecAV q p)(af:∀ k∈p.keys,KeOk k)(hx:SS x l)(hL:XK l)(hl:O l<=1048576)
 (z:Yo (Ye L p l)<=1048576) (ab:XK (Ye L p l))
 (hN:Zi tm s=((n,0),(w,s1))) (M:TmpOk w) (ad:StoOk s1) (hW:ZO w s1 n (Ye L p l)=(0,s2)) (ae:StoOk s2) (hS:ZM w s2 n=(0,(T,s3))) :
 ∃ H' A',GO [.ptr o 0,a,q,x] H=N (.tuple [.str n,Q J 0],H')/\SysRes H H' o t T s3 A A':=by
 have ac:=F;have ai:=hq;obtain⟨u,lc,le,rfl,am,ak,al⟩:=F;obtain⟨xp,rfl,an⟩:=hq;have R:Y5 (.pointer 87) .eql (.ptr o 0) .nilp=N (.bool X):=rfl;have D:=h.lt;have g1:(H++[zA (L.cells u lc le),.cells (p.cells xp)])[O H]?=N (.cells (L.cells u lc le)):=U
 have g2:(H++[zA (L.cells u lc le),.cells (p.cells xp)])[O H+1]?=N (.cells (p.cells xp)):=U
 have E:Stp A H (H++[zA (L.cells u lc le),.cells (p.cells xp)]):=Stp.push _ _;have B:(H++[zA (L.cells u lc le),.cells (p.cells xp)]).length=O H+2:=U
 have j:SysAt (H++[zA (L.cells u lc le),.cells (p.cells xp)]) o t tm s A:=h.stp (C:=[]) (Stp.push _ _) (λa F=>U);have G:ZY (.agg (p.cells xp)) (H++[zA (L.cells u lc le)])=N (.ptr (O H+1) 0,H++[zA (L.cells u lc le),.cells (p.cells xp)]):=by rw[Yn];simp
 generalize aj:H++[zA (L.cells u lc le),.cells (p.cells xp)]=H0 at g1 g2 E j G B;obtain⟨H1,A1,p1,S⟩:=Zmk j hm hk ag;rw[hN]at p1 S;have P:∀ i,O H<=i->i∉A:=λi hi F=>by have:=D i F;omega
 have Z:=S.stp.get g1 (P _ (zG _));have aa:=S.stp.get g2 (P _ Y);obtain⟨y,q1,q2⟩:=Zl4 ac ah ai af hx hL hl H1;obtain⟨H2,A2,r1,r2⟩:=Zkd S.at' M ad n q2 ab z;rw[hW]at r1 r2;obtain⟨H3,A3,t1,t2⟩:=Zmj r2.at' M ae n;rw[hS]at t1 t2;refine⟨H3,A3,?_,SysRes.pre E ((S.trans r2).trans t2)⟩;have e0:((0:Int) != 0)=X:=rfl;rw[Iu];unfold CK;simp only[Yn,go_sem,G,R,Uy,p1,zO,zP,e0,Ku,Bm Z,Km aa,q1,r1,Rs,t1,Au]
section
variable {α:Type}(c:α->Int)(mem:Int)
structure Ck (α:Type) where
 done:List (List α)
 cur:List α
 cost:Int
def Bf (s:Ck α)(x:α):Ck α :=
 if s.cur≠[]/\mem<s.cost+c x then ⟨s.done++[s.cur],[x],c x⟩ else ⟨s.done,s.cur++[x],s.cost+c x⟩
def YK (l:List α):Ck α:=l.foldl (Bf c mem) ⟨[],[],0⟩
def ZlU (s:Ck α):List (List α):=if s.cur=[] then s.done else s.done++[s.cur]
def Mu (l:List α):Int:=l.foldl (λn x=>n+c x) 0
theorem Zkm (l:List α)(x:α):Mu c (l++[x])=Mu c l+c x:=by simp[Mu]
structure CkOk (l:List α)(s:Ck α):Prop where
 flat:s.done.flatten++s.cur=l
 cost:s.cost=Mu c s.cur
 emp:s.cur=[]->s.done=[]
 ne:∀ k∈s.done,k≠[]
 fit:∀ k∈s.done++[s.cur],1<O k->Mu c k<=mem
 next:∀ (i:Nat) (a b:List α) (x:α),(s.done++[s.cur])[i]?=N a->(s.done++[s.cur])[i+1]?=N b->b.head?=N x->mem<Mu c a+c x
theorem Zw4:CkOk c mem ([]:List α) ⟨[],[],0⟩:=by
 refine⟨rfl,rfl,λ_=>rfl,U,U,λi a b x u j w=>?_⟩;simp at j
theorem Zyx {l:List α}{s:Ck α}(h:CkOk c mem l s)(x:α):CkOk c mem (l++[x]) (Bf c mem s x):=by
 unfold Bf;split
 ·rename_i hc;obtain⟨G,L⟩:=hc;refine⟨by simp[<-h.flat],by simp[Mu],λe=>(by simp at e),λk hk=>?_,λk hk C=>?_,λi a b y u j B=>?_⟩
  ·rcases zW.1 hk with hk|hk
   ·exact h.ne k hk
   ·rw[zI.1 hk];exact G
  ·rcases zW.1 hk with hk|hk
   ·exact h.fit k hk C
   ·rw[zI.1 hk]at C;simp at C
  ·dsimp only at u j;have hlen:(s.done++[s.cur]).length=O s.done+1:=U
   by_cases hi:i+1<(s.done++[s.cur]).length
   ·rw[zB Y]at u;rw[zB hi]at j;exact h.next i a b y u j B
   ·have D:=(zL.1 j).1;simp only[zQ,zU]at D hi;have E:i=O s.done:=Y
    subst E;rw[zB U,zD (zG _)]at u;rw[zD U]at j;simp at u j;subst u j;simp at B;subst B;rw[<-h.cost];exact L
 ·rename_i hc;refine⟨by rw[<-yA,h.flat],by rw[Zkm,h.cost],λe=>(by simp at e),h.ne,λk hk C=>?_,λi a b y u j B=>?_⟩
  ·rcases zW.1 hk with hk|hk
   ·exact h.fit k (List.mem_append_left _ hk) C
   ·rw[zI.1 hk]at C ⊢;have F:s.cur≠[]:=λe=>by rw[e]at C;simp at C
    rw[Zkm,<-h.cost];simp only[ne_eq,F,not_false_eq_true,true_and]at hc;omega
  ·dsimp only at u j;by_cases hi:i+1<O s.done
   ·rw[zB Y]at u;rw[zB hi]at j;exact h.next i a b y (by rw[zB Y];exact u) (by rw[zB hi];exact j) B
   ·have D:=(zL.1 j).1;simp only[zQ,zU]at D hi;have E:i+1=O s.done:=Y
    rw[zB Y]at u;rw[E,zD (zG _)]at j;simp at j;subst j
    cases w:s.cur with
    |nil =>
     have:=h.emp w;rw[this]at E;simp at E
    |cons z t =>
     rw[w]at B;simp at B;subst B;exact h.next i a s.cur z (by rw[zB Y];exact u) (by rw[E,zD (zG _)];simp) (by rw[w];rfl)
theorem ZsW (l:List α):CkOk c mem l (YK c mem l):=by
 have:∀ (r d:List α) (s:Ck α),CkOk c mem d s->CkOk c mem (d++r) (r.foldl (Bf c mem) s):=by
  intro r
  induction r with
  |nil=>intro d s h;simpa using h
  |cons x r j =>
   intro d s h;have:=j (d++[x]) _ (Zyx c mem h x);simpa using this
 have h:=this l [] _ (Zw4 c mem);simpa[YK]using h
theorem ZhJ (l:List α)(x:α):YK c mem (l++[x])=Bf c mem (YK c mem l) x:=by simp[YK]
theorem ZsU (s:Ck α)(x:α):(Bf c mem s x).cur≠[]:=by unfold Bf;split <;> simp
theorem ZzJ {l:List α}(h:l≠[]):(YK c mem l).cur≠[]:=by
 obtain⟨x,j,rfl⟩:∃ x j,l=j++[x]:=⟨l.getLast h,l.dropLast,(List.dropLast_concat_getLast h).symm⟩;rw[ZhJ];exact ZsU c mem _ x
end
def cnt (w i:Nat):Nat:=(i+w-1) / w
end Go.Am
