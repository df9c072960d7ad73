/- slices -/
import Derived.Test.YtjmhpjoedfegkaaGreatDoorRwPx
import Derived.Shelf.Slices.Clone
import Derived.Shelf.SlicesE.DeleteFunc
import Derived.Ground.SlgfProg
import Derived.Ground.Names2Prog
open List renaming getElem?_eq_getElem->zA,length_map->zC,getElem?_set_ne->zD,getD->zF,getElem?_take_of_lt->zI,map_cons->zM,all_map->zS
open Nat renaming le_refl->zG,zero_add->zJ,le_trans->zO,zero_le->zP,mul_one->zQ,not_lt_zero->zR
open Array renaming getElem?_eq_getElem->zH,getElem?_modify->zL,ext_getElem?->zN
open Option.some renaming injEq->zB
open Prod.mk renaming injEq->zE
open Go.Am.AV renaming str->zK
namespace Go.Proofs
open Go.Shelf
shelf_lay Lays2.n16 Nm2 16 at Tryz as Tryz.laysClone
shelf_lay_g SlLaysH.n10 Slgf 10 at Tryz 110 as Tryz.laysDel
end Go.Proofs
namespace Go.Am
open Go.Proofs Go.RowKit Go.Lib Go.Sort
set_option maxRecDepth 100000
def Zy6 (_:Nat):Option (List AV):=none
def Pw:List AV->Option (List (List UInt8))
 |[]=>some []
 |.str s::r=>(Pw r).map (s::·)
 |_=>none
theorem Zl6:∀ {l:List AV} {ls:List (List UInt8)},Pw l=some ls->l=ls.map zK:=by
 intro l
 induction l with
 |nil=>intro ls h;simp[Pw]at h;subst h;rfl
 |cons a l ih =>
  intro ls h
  cases a with
  |str s =>
   simp only[Pw,Option.map_eq_some_iff]at h;obtain⟨r,h1,rfl⟩:=h;rw[zM,<-ih h1]
  |_=>simp[Pw]at h
theorem ZiL:∀ ls:List (List UInt8),Pw (ls.map zK)=some ls:=by
 intro ls
 induction ls with
 |nil=>rfl
 |cons s ls ih=>rw[zM,Pw,ih];rfl
section
variable {S:Snap}{W0:World}{H:Hp}
def Snap.adopt (S:Snap)(n g e hw sz:Nat):Snap:={ S with tk:=λt=>if t=n then some (e,g,hw,sz) else S.tk t }
theorem Inv.adopt (hI:Inv W0 S H){H':Hp}{n g e hw sz:Nat}{x:AObj}(hH:RowSet H H' n x)(ht:S.tk n=none)(hp:∀ o,S.phi o≠some g)(hk:∀ t e b hw sz,S.tk t=some (e,b,hw,sz)->b≠g)(hg:g<S.w.heap.size)(hx:ORel (S.adopt n g e hw sz) W0.heap.size n x) :
 Ext S (S.adopt n g e hw sz)/\Inv W0 (S.adopt n g e hw sz) H':=by
 have hext:Ext S (S.adopt n g e hw sz):=by
  refine⟨⟨λ_ _ h=>h,λb i h=>⟨h,rfl⟩,λt e1 b hw1 sz1 h=>?_⟩,rfl,λb i hp _=>hp⟩;by_cases htn:t=n
  ·subst htn;rw[ht]at h;cases h
  ·exact⟨e1,b,hw1,sz1,by simp[Snap.adopt,htn,h],zG _,λ_=>⟨rfl,rfl,rfl⟩⟩
 have hdead:∀ x,H'[x]?≠some AObj.dead->H[x]?≠some AObj.dead:=λx h=>by
  by_cases hx:x=n
  ·subst hx;exact hH.nd
  ·rwa [hH.there x hx]at h
 refine⟨hext,hI.below,λy z h=>?_,λx hx=>?_,λo1 o2 b h1 h2 hd1 hd2=>hI.inj o1 o2 b h1 h2 (hdead _ hd1) (hdead _ hd2),λt t' e1 b hw1 sz1 e2 hw2 sz2 h1 h2=>?_,λt e1 b hw1 sz1 o h=>?_,hI.puball,hI.dom,λt e1 b hw1 sz1 h=>?_,hI.lim⟩
 ·by_cases hxn:y=n
  ·subst hxn;rw[hH.here]at h;injection h with h;subst h;exact hx
  ·rw[hH.there y hxn]at h;exact (hI.objs y z h).frame hext (λb _ hlt=>⟨rfl,λi hp=>hp⟩) (by simp[Snap.adopt,hxn]) rfl
 ·have hnx:x≠n:=λhxn=>by subst hxn;have:=Zq hH.here;omega
  obtain⟨p,q⟩:=hI.past x (zO hH.len hx);exact⟨p,by simp[Snap.adopt,hnx,q]⟩
 ·by_cases h3:t=n
  ·by_cases h4:t'=n
   ·rw[h3,h4]
   ·simp[Snap.adopt,h3]at h1;simp[Snap.adopt,h4]at h2;exact absurd h1.2.1.symm (hk _ _ _ _ _ h2)
  ·by_cases h4:t'=n
   ·simp[Snap.adopt,h3]at h1;simp[Snap.adopt,h4]at h2;exact absurd h2.2.1.symm (hk _ _ _ _ _ h1)
   ·simp[Snap.adopt,h3]at h1;simp[Snap.adopt,h4]at h2;exact hI.tinj _ _ _ _ _ _ _ _ _ h1 h2
 ·by_cases h3:t=n
  ·simp[Snap.adopt,h3]at h;intro hph;have hph':S.phi o=some b:=hph;rw[<-h.2.1]at hph';exact hp o hph'
  ·simp[Snap.adopt,h3]at h;exact hI.apart _ _ _ _ _ o h
 ·by_cases h3:t=n
  ·simp[Snap.adopt,h3]at h;show b<S.w.heap.size;omega
  ·simp[Snap.adopt,h3]at h;exact hI.tdom _ _ _ _ _ h
end
theorem ZlH (w:World)(b:Nat)(d:Array (List UInt8))(c:Array Value)(el:TypeId)(fz:Nat×Nat)(h:w.heap[b]?=some (.cells c el fz)):putRow encStr w b 0 d=w.setRow b (putCells encStr 0 d c):=by
 unfold putRow mapBlock World.setRow;congr 1;refine zN λk=>?_;simp only[zL];by_cases hk:b=k
 ·subst hk;simp[h,onCells]
 ·simp[hk]
def HO (args:List AV)(H:Hp):Option (AV×Hp):=match args with
 |[.nils]=>some (.nils,H)
 |[.vs 1 _ l]=>match Pw l with
  |some _=>if l=[] then some (.vs 1 .no [],H) else if l.length<=1099511627776 then some (.ws false 1 H.length 0 l.length,H++[.row 0 l]) else none
  |none=>none
 |_=>none
theorem Zpy {v:AV}:Xr λH=>some (v,H):=λH v' H' h=>by
 simp only[zB,zE]at h;obtain⟨rfl,rfl⟩:=h;exact⟨zG _,λo ho h=>⟨h,λx=>rfl⟩⟩
theorem ZsY (args:List AV):Xr (HO args):=by
 unfold HO;split
 ·exact Zpy
 ·split
  ·exact Yt _ (λ_=>Zpy) λ_=>Yt _ (λ_=>Q3 (λm=>AV.ws false 1 m 0 _) _) λ_=>ZF
  ·exact ZF
 ·exact ZF
def cloneE:EffFn:=⟨HO,ZsY⟩
theorem ZfN {s:List UInt8}{b:ByteArray}(h:b.data.toList=s):b=⟨s.toArray⟩:=by subst h;cases b;rfl
theorem ZsX {C:Cfg}{gl:Nat->Option (List AV)}(hP:C.P=Tryz.prog)(_:∀ g,C.glob g=gl g):Bw C 47 cloneE:=by
 intro W0 S H H' args args' v hI hW hs ha h;have h:HO args H=some (v,H'):=h;unfold HO at h;split at h
 ·obtain⟨l⟩:=args'
  match l,hs with
  |[x],_ =>
   have h1:=ha 0 _ x rfl rfl;cases h1;simp only[zB,zE]at h;obtain⟨rfl,rfl⟩:=h;have:=Any.slices_Clone_string_nil Tryz.laysClone 0 0 S.w;rw[show Tryz.laysClone_ren.f 16=47 by kernel_rfl]at this;rw[hP];refine this.mono ?_
   rintro e w' ⟨rfl,rfl⟩
   exact⟨_,S,rfl,rfl,Ext.refl S,hI,.nils⟩
 ·rename_i tok l;split at h
  ·rename_i ls hls;have hl:=Zl6 hls;subst hl;obtain⟨l'⟩:=args'
   match l',hs with
   |[x],_ =>
    have h1:=ha 0 _ x rfl rfl;rw[hP]
    cases h1 with
    |vs _ _ _ b off cap f hcap hk hc1 hc2 ht sp hsp =>
     rw[zC]at hcap hc1 ⊢;split at h
     ·rename_i hnil;have hls0:ls=[]:=List.map_eq_nil_iff.1 hnil;subst hls0;simp only[zB,zE]at h;obtain⟨rfl,rfl⟩:=h;have:=Any.slices_Clone_string_zero Tryz.laysClone ⟨b,off,sp⟩ cap S.w;rw[show Tryz.laysClone_ren.f 16=47 by kernel_rfl]at this;refine this.mono ?_
      rintro e w' ⟨v',rfl,hown,hne,hb⟩
      obtain⟨r1,r2⟩:=hI.went hb;rcases hown.2 with ⟨e0,_⟩|⟨g,cap',cur,rfl,hg,hcur,h1,h2,h3,h4⟩
      ·exact absurd e0 hne
      ·exact⟨_,_,rfl,rfl,r1,r2,.vs 1 .no [] g 0 cap' (λ_ _=>undef) (zP _) (λe he=>by cases he) (λj i hj=>by cases hj) (λj e i c he=>by simp at he) trivial none (.inl rfl)⟩
     ·rename_i hnil;split at h
      ·rename_i hbig;simp only[zB,zE]at h;obtain⟨rfl,rfl⟩:=h;rw[zC]at hbig;have hpos:0<ls.length:=List.length_pos_iff.2 λe=>hnil (by rw[e];rfl);obtain rfl:sp=none:=hsp.resolve_right (by omega)
       have hget:∀ j,j<ls.length->S.w.cell? ⟨b,off+j,none⟩=some (.string ⟨(ls.getD j []).toArray⟩):=λj hj=>by
        obtain⟨q1,_⟩:=hc1 j 0 hj (by decide);have q2:=hc2 j (.str ls[j]) 0 (.str ls[j]) (by simp[hj]) rfl;rw[zQ,Nat.add_zero]at q1;rw[q1];generalize f j 0=u at q2
        cases q2 with
        |str _ bs hbs=>rw[ZfN hbs];simp[zF,zA hj]
       have:=Any.slices_Clone_string Tryz.laysClone b off ls.length cap (ls.map λs=>(⟨s.toArray⟩:ByteArray)) S.w (by simp) (by omega) (λj hj=>by
        have hj':j<ls.length:=by simpa using hj
        rw[hget j hj'];simp[zF,zA hj'])
       rw[show Tryz.laysClone_ren.f 16=47 by kernel_rfl]at this;refine this.mono ?_
       rintro e w' ⟨v',rfl,hown,hne,hb⟩
       obtain⟨r1,r2⟩:=hI.went hb;rcases hown.2 with ⟨e0,_⟩|⟨g,cap',cur,rfl,hg,hcur,h1,h2,h3,h4⟩
       ·exact absurd e0 hne
       rw[zQ]at h3 h4;have hgl:g<w'.heap.size:=(Array.getElem?_eq_some_iff.1 hcur).1
       have hcs:∀ i,i<ls.length->cur[i]?=some (.string ⟨(ls.getD i []).toArray⟩):=λi hi=>by
        have:(cur.toList.take ls.length)[i]?=some (.string ⟨(ls.getD i []).toArray⟩):=by
         rw[h4];simp[zF,zA hi,zI hi]
        rw[zI hi,Array.getElem?_toList]at this;exact this
       obtain⟨x1,x2⟩:=r2.adopt (n:=H.length) (g:=g) (e:=0) (hw:=ls.length) (sz:=cur.size) (RowSet.new H 0 (ls.map zK)) ((hI.past _ (zG _)).2) (λo ho=>by have:=hI.dom o g ho;omega) (λt e b hw sz ht hb'=>by have:=hI.tdom _ _ _ _ _ ht;omega) hgl
        ⟨g,cur.size,cur,_,(0,0),by simp[Snap.adopt],zO hI.below.size hg,hcur,rfl,by rw[zC];omega,λi x v hx hv=>by
         have hi:i<ls.length:=by have:=Zq hx;simpa using this
         rw[hcs i hi]at hv;injection hv with hv;subst hv;simp[zA hi]at hx;subst hx;exact .str _ _ (by simp[zF,zA hi]),λi hp=>by have:=hI.puball g i hp;omega,by simp[zS,AV.isCell,Function.comp_def],λi _ h=>by omega⟩
       refine⟨_,_,rfl,rfl,r1.trans x1,x2,?_⟩;rw[zC];exact .ws false 1 H.length 0 ls.length cap' g ⟨0,g,ls.length,cur.size,by simp[Snap.adopt],zG _,λ_=>⟨rfl,by omega,by omega⟩⟩ h1
      ·cases h
  ·cases h
 ·cases h
theorem ZbD (nm s:List UInt8)(B:Nat)(W:World)(hc:W.cell? ⟨B,0,none⟩=some (encStr nm)) :
 FnGives Tryz.prog 111 #[.pointer (some ⟨B,0,none⟩)] #[encStr s] (.bool (s==nm)) W:=by
 show Calls Tryz.prog 111 #[encStr s,.pointer (some ⟨B,0,none⟩)] W _;unfold encStr at hc ⊢
 go_enter Tryz.func111,Tryz.ntmps111
 go_wp2
 all_goals (go_ret;exact⟨by simp_all,0,rfl⟩)
theorem ZoS (nm:List UInt8)(B:Nat)(w:World)(hB:B<w.heap.size)(hc:w.cell? ⟨B,0,none⟩=some (encStr nm)) :
 PredAt Tryz.prog 111 #[.pointer (some ⟨B,0,none⟩)] encStr (λs=>s==nm) w :=
 λW x hb=>ZbD nm x B W ((hb.cell (p:=⟨B,0,none⟩) hB).trans hc)
theorem ZoR (nm:List UInt8)(B blk off size:Nat)(w:World)(hB:B<w.heap.size)(hne:B≠blk)(hc:w.cell? ⟨B,0,none⟩=some (encStr nm)) :
 PredOver Tryz.prog 111 #[.pointer (some ⟨B,0,none⟩)] encStr (λs=>s==nm) blk off size w :=
 λn os dk x _=>ZbD nm x B _ (by
  unfold sortWorld;rw[cell?_grow _ _ _ (by show B<(putRow _ _ _ _ _).heap.size;rw[size_putRow];exact hB),cell?_putRow_other _ _ blk off _ _ (Or.inl hne)];exact hc)
def Yl (nm:List UInt8)(ls:List (List UInt8)):List (List UInt8):=ls.filter λs=>!(s==nm)
def iH (args:List AV)(H:Hp):Option (AV×Hp):=match args with
 |[.ws false 1 o e n,.fn (.func 111) [] [.ptr q 0]]=>match H[o]? with
  |some (.row e' l)=>match Pw l with
   |some ls=>match H[q]? with
    |some (.cells [.str nm])=>if e'=e/\n=l.length/\o≠q/\l.length<=1099511627776 then some (.vs 1 (.own o (e+2)) ((Yl nm ls).map zK),H.set o (.tok (e+2))) else none
    |_=>none
   |none=>none
  |_=>none
 |_=>none
theorem Zwg (args:List AV):Xr (iH args):=by
 unfold iH;split
 ·rename_i o e n q;intro H v H' h;dsimp only at h;split at h
  ·rename_i e' l ho;split at h
   ·rename_i ls hls;split at h
    ·rename_i nm hq;split at h
     ·rename_i hc;simp only[zB,zE]at h;obtain⟨rfl,rfl⟩:=h;refine⟨by simp,λk hk hf=>?_⟩;have hko:k≠o:=λe=>by subst e;simp[hk]at hf
      have hf':H[k]?=some .free:=by rwa [zD (Ne.symm hko)]at hf
      have hkq:k≠q:=λe=>by subst e;rw[hq]at hf';cases hf'
      refine⟨hf',λx=>?_⟩;dsimp only;rw[zD hko,zD hkq,ho,hq];simp only[hls,if_pos hc];rw[List.set_comm _ _ hko]
     ·cases h
    ·cases h
   ·cases h
  ·cases h
 ·exact ZF
def delE:EffFn:=⟨iH,Zwg⟩
theorem Zwy (ks:List (List UInt8)):flat (ks.map zK)=ks.map zK:=by
 unfold flat;rw[List.map_map]
 induction ks with
 |nil=>rfl
 |cons a l ih=>rw[zM,List.flatten_cons,ih];rfl
theorem ZwU (nm:List UInt8)(ls:List (List UInt8)):(Yl nm ls).length<=ls.length:=List.length_filter_le _ _
set_option maxHeartbeats 2000000 in
theorem ZyC {C:Cfg}{gl:Nat->Option (List AV)}(hP:C.P=Tryz.prog)(_:∀ g,C.glob g=gl g):Bw C 110 delE:=by
 have eg:∀ args w,(callFunc 111 args).run Tryz.prog w=.ok (.enter 111 args) w:=enters_of Tryz.func111 (by kernel_rfl) rfl;have hz:∀ w,(zeroValue (Tryz.laysDel_ren.t 23)).run Tryz.prog w=.ok (encStr []) w:=Tryz.zeroValue9;have hO:OneCell encStr:=λ_=>rfl;have hf:Tryz.laysDel_ren.f 10=110:=by kernel_rfl
 intro W0 S H H' args args' v hI hW hs ha h;replace h:iH args H=some (v,H'):=h;obtain⟨l'⟩:=args';unfold iH at h;split at h
 ·rename_i o e n q
  match l',hs with
  |[x,y],_ =>
   have h1:=ha 0 _ x rfl rfl;have h2:=ha 1 _ y rfl rfl;split at h
   ·rename_i e' l ho;split at h
    ·rename_i ls hls;have hl:=Zl6 hls;subst hl;split at h
     ·rename_i nm hq;split at h
      ·rename_i hc;obtain⟨he,hn,hoq,hbig⟩:=hc;subst he;subst hn;simp only[zB,zE]at h;obtain⟨rfl,rfl⟩:=h;rw[hP]
       -- the row
       obtain⟨b,sz,c,el,fz,g1,g2,g3,g4,g5,g6,g7,g8,g9⟩:=hI.objs o _ ho;rw[zC]at g1 g5
       cases h1 with
       |ws _ _ _ _ _ cap b0 hr hcap =>
        rw[zC]at hr hcap ⊢;obtain⟨e0,b1,hw0,sz0,t1,t2,t3⟩:=hr;rw[g1]at t1;simp only[zB,zE]at t1;obtain⟨rfl,rfl,rfl,rfl⟩:=t1;obtain⟨hbb,_,hcz⟩:=t3 rfl;have hbb':b=b0:=hbb.symm;subst hbb'
        -- the name
        obtain⟨bq,cq,elq,p1,p2,p3,p4,p5,p6,p7⟩:=hI.objs q _ hq
        cases h2 with
        |fn _ _ _ F K hF hK f1 f2 =>
         have hF0:F=#[]:=Array.size_eq_zero_iff.1 hF;subst hF0
         obtain⟨pv,hpv⟩:∃ pv,K=#[pv]:=by
          obtain⟨Kl⟩:=K
          match Kl,hK with
          |[pv],_=>exact⟨pv,rfl⟩
         subst hpv;have hv2:=f2 0 (.ptr q 0) pv rfl rfl
         cases hv2 with
         |ptr _ _ bq' hph =>
          rw[p1]at hph;injection hph with hph;subst hph;have hbq:b≠bq:=λe=>hI.apart _ _ _ _ _ q g1 (by rw[p1,e])
          have hcq:S.w.cell? ⟨bq,0,none⟩=some (encStr nm):=by
           have hsz:cq.size=1:=p4;have h0:cq[0]?=some cq[0]:=zH (by omega);have hv:=p5 0 (.str nm) cq[0] rfl h0;rw[cell_of_row S.w bq 0 cq elq (0,0) p3,h0];generalize cq[0]=u at hv
           cases hv with
           |str _ bs hbs=>rw[ZfN hbs]
          have hbql:bq<S.w.heap.size:=hI.dom q bq p1
          have hel:∀ i,i<ls.length->c[i]?=some (encStr (ls.getD i [])):=λi hi=>by
           have h0:c[i]?=some c[i]:=zH (by omega);have hv:=g6 i (.str ls[i]) c[i] (by simp[hi]) h0;rw[h0];generalize c[i]=u at hv
           cases hv with
           |str _ bs hbs=>rw[ZfN hbs];simp[zF,zA hi,encStr]
          have hH:Holds encStr S.w b 0 ls.toArray:=λj hj=>by
           have hj':j<ls.length:=by simpa using hj
           refine⟨?_,?_⟩
           ·rw[zJ,cell_of_row S.w b j c el fz g3,hel j hj'];simp[zF,hj']
           ·rw[zJ];have:=g9 j (by omega);simp only[World.frozen?,g3];simpa using this
          have hcon:=AnyE.slices_DeleteFunc Tryz.laysDel encStr hO (λs=>s==nm) 111 #[.pointer (some ⟨bq,0,none⟩)] eg ([]:List UInt8) hz b 0 cap ls.toArray S.w
           (ZoS nm bq S.w hbql hcq) (ZoR nm bq b 0 _ S.w hbql (Ne.symm hbq) hcq) hH (by rw[zC]at hbig;simp;omega) (by simpa using hcap)
          rw[hf]at hcon;simp only[List.size_toArray,List.toList_toArray]at hcon;refine hcon.mono ?_
          rintro ev w' ⟨rfl,q0,rfl⟩
          have hfil:(ls.filter λs=>!(s==nm))=Yl nm ls:=rfl;rw[hfil];have hkl:=ZwU nm ls;generalize hkk:Yl nm ls=ks at hkl ⊢;generalize hdd:(ks++List.replicate (ls.length-ks.length) ([]:List UInt8)).toArray=d';have hds:d'.size=ls.length:=by rw[<-hdd];simp;omega
          have hdg:∀ i,i<ks.length->d'[i]! = ks.getD i []:=λi hi=>by
           have h0:i<d'.size:=by omega
           rw[getElem!_pos d' i h0];subst hdd;simp[zF,zA hi,List.getElem_append_left hi]
          have hb0:Below S.w.heap.size S.w (Sort.ahead S.w q0):=⟨rfl,rfl,rfl,zG _,λ_ _=>rfl⟩;obtain⟨r1,r2⟩:=hI.went hb0;have hput:=ZlH (Sort.ahead S.w q0) b d' c el fz g3;rw[hput];have hcs:(putCells encStr 0 d' c).size=c.size:=by simp[putCells]
          have hcg:∀ i,i<ks.length->(putCells encStr 0 d' c)[i]?=some (encStr (ks.getD i [])):=λi hi=>by
           have h0:i<c.size:=by omega
           have h5:=hdg i hi;rw[getElem!_pos d' i (by omega)]at h5;simp[putCells,h0,show i<d'.size by omega,h5]
          generalize putCells encStr 0 d' c=c' at hcs hcg;have g3':({ S with w:=Sort.ahead S.w q0 }:Snap).w.heap[b]?=some (.cells c el fz):=g3;have r3:=Ext.rowi (S:={ S with w:=Sort.ahead S.w q0 }) (n:=o) (b:=b) (e0:=e') (e:=e'+1) (hw0:=ls.length) (hw:=0) (sz:=sz) (c':=c') g1 (by omega) g7
          have hx1:ORel (({ S with w:=Sort.ahead S.w q0 }:Snap).rowi o b c' (e'+1) 0 sz) W0.heap.size o (.row (e'+1) []) :=
           ⟨b,sz,c',el,fz,by simp[Snap.rowi],g2,setRow_heap _ b c c' el fz g3',by omega,zP _,λi x v hx=>by simp at hx,g7,rfl,by rw[hcs];exact g9⟩
          have r4:=r2.rowi (x:=.row (e'+1) []) (H':=H.set o (.row (e'+1) [])) (RowSet.set ho) g1 (by omega) g2 g7 hx1;have hb1:(({ S with w:=Sort.ahead S.w q0 }:Snap).rowi o b c' (e'+1) 0 sz).w.heap[b]?=some (.cells c' el fz):=setRow_heap _ b c c' el fz g3';have ht1:(({ S with w:=Sort.ahead S.w q0 }:Snap).rowi o b c' (e'+1) 0 sz).tk o=some (e'+1,b,0,sz):=by simp[Snap.rowi]
          have hlt:=Zq ho;have hts:TokSet (H.set o (.row (e'+1) [])) (H.set o (.tok (e'+2))) o (e'+2):=⟨by simp[hlt],λy hy=>by rw[zD (Ne.symm hy),zD (Ne.symm hy)],by simp,by simp[hlt]⟩;have r5:=Ext.toki (n:=o) (b:=b) (e0:=e'+1) (e:=e'+2) (hw0:=0) (hw:=ks.length) (sz:=sz) (c:=c') (c':=c') ht1 (by omega) hb1 (λi _=>g7 i) (λi h=>absurd h (zR _)) (zO hI.lim g2);have r6:=r4.toki (b:=b) (e0:=e'+1) (hw0:=0) (hw:=ks.length) (c:=c') (c':=c') hts ht1 (by omega) g2 hb1 (λi _=>g7 i) (λi h=>absurd h (zR _)) (zP _) (by omega) (by omega) (by rw[hcs];exact g9);generalize hS2:(({ S with w:=Sort.ahead S.w q0 }:Snap).rowi o b c' (e'+1) 0 sz).toki o b c' (e'+2) ks.length sz=S2 at r5 r6
          have hw2:S2.w=(Sort.ahead S.w q0).setRow b c':=by
           rw[<-hS2];show ((Sort.ahead S.w q0).setRow b c').setRow b c'=_;unfold World.setRow;congr 1;refine zN λk=>?_;simp only[zL];by_cases hk:b=k
           ·subst hk;rw[show (Sort.ahead S.w q0).heap[b]?=some (.cells c el fz) from g3];simp
           ·simp[hk]
          have hb2:S2.w.heap[b]?=some (.cells c' el fz):=by rw[hw2];exact setRow_heap _ b c c' el fz g3
          have hpub:∀ i,i<ks.length->S2.pub b i:=λi hi=>by rw[<-hS2];exact .inr ⟨rfl,hi⟩
          have htk2:S2.tk o=some (e'+2,b,ks.length,sz):=by rw[<-hS2];simp[Snap.toki]
          have hflat:=Zwy ks;refine⟨_,S2,rfl,hw2,(r1.trans r3).trans r5,r6,?_⟩;have hlm:(ks.map zK).length=ks.length:=zC _
          have:=MB (S:=S2) (k:=1) (tok:=.own o (e'+2)) (l:=ks.map zK) (b:=b) (off:=0) (cap:=cap) hb2 (by rw[hlm];omega) (λa ha=>by obtain⟨s,_,rfl⟩:=List.mem_map.1 ha;rfl) (by rw[hflat];simp[zS,AV.isCell,Function.comp_def]) (λi hi=>by rw[hlm,zQ]at hi;rw[zJ];exact hpub i hi) (by rw[hlm];omega)
           (λi x v hx hv=>by
            rw[hflat]at hx;have hi:i<ks.length:=by have:=Zq hx;rwa [hlm]at this
            rw[zJ,hcg i hi]at hv;injection hv with hv;subst hv;simp[zA hi]at hx;subst hx;exact .str _ _ (by simp[zF,zA hi]))
           ⟨e'+2,b,ks.length,sz,htk2,zG _,λ_ _=>⟨rfl,by rw[hlm];omega,by omega⟩⟩
          rw[hlm]at this;exact this
      ·cases h
     ·cases h
    ·cases h
   ·cases h
 ·cases h
end Go.Am
