/- store -/
import Derived.Test.YtjmhpjoedfegkaaGreatDoorHmBdx
import Derived.Test.YtjmhpjoedfegkaaGreatDoorRwPnx
open List renaming getElem?_map->zB,getElem?_eq_none->zC,pairwise_cons->zG,getD_eq_getElem?_getD->zI,all_eq_true->zK,mem_map->zL,getElem?_set_ne->zN,mem_cons->zO,map_map->zP,ext_getElem?->zQ,pairwise_map->zR,nodup_cons->zU,length_map->zV,nodup_nil->zX
open Nat renaming lt_of_lt_of_le->zF,le_refl->zS,mul_one->zY
open Bool renaming and_eq_true->zJ,or_eq_true->zT
open Option renaming map_eq_some_iff->zA
open Array renaming getElem?_eq_getElem->zD,getElem?_toList->zE,getElem?_eq_some_iff->zH
open List.Perm renaming refl->zM,cons->zW
namespace Go.Am
open Go.Proofs Go.RowKit Go.Maps
set_option linter.unusedSectionVars false
section
variable {S:Snap}{W0:World}{H:Hp}
theorem Inv.wentPub (hI:Inv W0 S H){w':World}(hb:Below S.w.heap.size S.w w'){g:Nat}(hg:S.w.heap.size<=g)(hg2:g<w'.heap.size) :
 Ext S { S with w:=w',pub:=λb i=>S.pub b i\/b=g }/\Inv W0 { S with w:=w',pub:=λb i=>S.pub b i\/b=g } H:=by
 have hx:Ext S { S with w:=w',pub:=λb i=>S.pub b i\/b=g } :=
  ⟨⟨λ_ _ h=>h,λb i h=>⟨.inl h,hb.cell (hI.puball b i h)⟩,λ_ e b hw sz h=>⟨e,b,hw,sz,h,zS _,λ_=>⟨rfl,rfl,rfl⟩⟩⟩,rfl,λb i h hl=>by
   rcases h with h|h
   ·exact h
   ·have:=hI.lim;have:=hI.below.size;omega⟩
 refine⟨hx,hI.below.trans (hb.mono hI.below.size),λo x ho=>?_,hI.past,hI.inj,hI.tinj,hI.apart,λb i h=>?_,λo b h=>zF (hI.dom o b h) hb.size,
  λt e b hw sz h=>zF (hI.tdom t e b hw sz h) hb.size,hI.lim⟩
 ·cases x with
  |dead=>trivial
  |free=>exact hI.objs o _ ho
  |bld T u l =>
   obtain⟨b',h1,h2,h3,h4,h5⟩:=hI.objs o _ ho;have hlt:b'<S.w.heap.size:=h2.elim (λh=>h.lt) λh=>h.lt;have he:=hb.block b' hlt;have hcell:∀ i,w'.cell? ⟨b',i,none⟩=S.w.cell? ⟨b',i,none⟩:=λi=>by unfold World.cell?;rw[he]
   refine⟨b',h1,h2.frame he λv g hv hg=>hb.block g (h2.own_lt hv hg),h3,λi hp=>?_,λv g' hv hg'=>?_⟩
   ·rcases hp with hp|hp
    ·exact h4 i hp
    ·omega
   ·obtain⟨q1,q2⟩:=h5 v g' (by rw[<-hcell];exact hv) hg';refine⟨q1,λi hp=>?_⟩;have:=h2.own_lt (by rw[<-hcell];exact hv) hg';rcases hp with hp|hp
    ·exact q2 i hp
    ·omega
  |_ =>
   refine (hI.objs o _ ho).frame hx (λb _ hlt=>⟨hb.block b hlt,λi hp=>?_⟩) rfl rfl;rcases hp with hp|hp
   ·exact hp
   ·omega
 ·rcases h with h|h
  ·exact zF (hI.puball b i h) hb.size
  ·show b<w'.heap.size;omega
end
def Ou:List (AV×AV×Nat)->Option (List (List UInt8))
 |[]=>some []
 |(.str s,_,_)::r=>(Ou r).map (s::·)
 |_=>none
def Ab:List (List UInt8)->Bool
 |[]=>true
 |s::r=>r.all (λt=>!(t==s))&&Ab r
def hJ (c:Nat):List Nat->Bool
 |[]=>true
 |n::r=>decide (n<c)&&(r.all (λm=>!(m==n))&&hJ c r)
def ZjU (s:List UInt8):List (List UInt8)->List (List UInt8)
 |[]=>[s]
 |t::r=>if leB s t=true then s::t::r else t::ZjU s r
def VJ:List (List UInt8)->List (List UInt8)
 |[]=>[]
 |s::r=>ZjU s (VJ r)
def Zik (ks:List (List UInt8)):AV:=match ks with
 |[]=>.nils
 |s::r=>.vs 1 .no ((VJ (s::r)).map AV.str)
def BT (H:Hp)(o:Nat):Option AV:=match H[o]? with
 |some (AObj.cells l)=>match l[3]? with
  |some (AV.map m)=>match H[m]? with
   |some (AObj.map es c)=>match Ou es with
    |some ks=>if Ab ks&&(hJ c (es.map (·.2.2))&&(ks.all (λs=>decide (s.length<=1048576))&&decide (ks.length<=1048576))) then some (Zik ks) else none
    |none=>none
   |_=>none
  |_=>none
 |_=>none
def Aj (args:List AV)(H:Hp):Option (AV×Hp):=match args with
 |[.ptr o 0]=>(BT H o).map (·,H)
 |_=>none
theorem Zp3 {H:Hp}{o p:Nat}{v:AV}(h:BT H o=some v)(hp:H[p]?=some .free)(x:AObj):BT (H.set p x) o=some v:=by
 unfold BT at h ⊢;split at h
 ·rename_i l ho
  have h1:(H.set p x)[o]?=some (.cells l):=by
   rw[zN (λe=>by subst e;rw[hp]at ho;cases ho)];exact ho
  rw[h1];dsimp only;split at h
  ·rename_i m hm;split at h
   ·rename_i es c hes
    have h2:(H.set p x)[m]?=some (.map es c):=by
     rw[zN (λe=>by subst e;rw[hp]at hes;cases hes)];exact hes
    rw[h2];exact h
   ·cases h
  ·cases h
 ·cases h
theorem Zp4 (args:List AV):Xr (Aj args):=by
 intro H v H' h;unfold Aj at h;split at h
 ·rename_i o;rw[zA]at h;obtain⟨v',h1,h2⟩:=h;injection h2 with h2 h3;subst h2 h3;refine⟨zS _,λp _ hp=>⟨hp,λx=>?_⟩⟩;show (BT (H.set p x) o).map (·,H.set p x)=_;rw[Zp3 h1 hp x];rfl
 ·cases h
def namesE:EffFn:=⟨Aj,Zp4⟩
theorem Zkx (s:List UInt8):∀ r,(ZjU s r).Perm (s::r):=by
 intro r
 induction r with
 |nil=>exact zM _
 |cons t r ih =>
  unfold ZjU;split
  ·exact zM _
  ·exact (zW t ih).trans (List.Perm.swap s t r)
theorem Qy:∀ l,(VJ l).Perm l:=by
 intro l
 induction l with
 |nil=>exact zM _
 |cons s r ih=>exact (Zkx s _).trans (zW s ih)
theorem Znf (a b c:List UInt8)(h1:leB a b=true)(h2:leB b c=true):leB a c=true:=by simp only[leB,decide_eq_true_eq]at *;exact List.le_trans h1 h2
theorem Zne (a b:List UInt8):(leB a b || leB b a)=true:=by simp only[leB,zT,decide_eq_true_eq];exact List.le_total a b
theorem ZoX (s:List UInt8):∀ r,r.Pairwise (λa b=>leB a b=true)->(ZjU s r).Pairwise (λa b=>leB a b=true):=by
 intro r
 induction r with
 |nil=>intro _;exact List.pairwise_singleton _ _
 |cons t r ih =>
  intro h;obtain⟨h1,h2⟩:=zG.1 h;unfold ZjU;split
  ·rename_i hs;refine zG.2 ⟨λx hx=>?_,h⟩;rcases zO.1 hx with e|hx
   ·rw[e];exact hs
   ·exact Znf _ _ _ hs (h1 x hx)
  ·rename_i hs
   have hts:leB t s=true:=by
    have:=Zne s t;rw[zT]at this;rcases this with h|h
    ·exact absurd h hs
    ·exact h
   refine zG.2 ⟨λx hx=>?_,ih h2⟩;rcases zO.1 ((Zkx s r).mem_iff.1 hx) with e|hx
   ·rw[e];exact hts
   ·exact h1 x hx
theorem Zch:∀ l,(VJ l).Pairwise (λa b=>leB a b=true):=by
 intro l
 induction l with
 |nil=>exact List.Pairwise.nil
 |cons s r ih=>exact ZoX s _ ih
theorem ZxH (l:List (List UInt8)):l.mergeSort leB=VJ l:=by
 refine List.Perm.eq_of_pairwise (le:=λa b=>leB a b=true) (λa b _ _ h1 h2=>?_) (List.pairwise_mergeSort Znf Zne l) (Zch l) ((List.mergeSort_perm l leB).trans (Qy l).symm);simp only[leB,decide_eq_true_eq]at h1 h2;exact List.le_antisymm h1 h2
theorem Zti {S:Snap}{s:List UInt8}{v:Value}(h:VRel S (.str s) v):v=encStr s:=by
 cases h with|str _ b hb =>
 subst hb;simp[encStr]
theorem Zva:∀ (es:List (AV×AV×Nat)) (ks:List (List UInt8)),Ou es=some ks->ks.length=es.length/\∀ (i:Nat) (x:AV×AV×Nat),es[i]?=some x->∃ s,ks[i]?=some s/\x.1=.str s:=by
 intro es
 induction es with
 |nil=>intro ks h;injection h with h;subst h;exact⟨rfl,λi x hx=>by simp at hx⟩
 |cons e es ih =>
  intro ks h;obtain⟨e1,e2⟩:=e
  cases e1 with
  |str s =>
   rw[Ou]at h;rw[zA]at h;obtain⟨k,h1,rfl⟩:=h;obtain⟨i1,i2⟩:=ih k h1;refine⟨by simp[i1],λi x hx=>?_⟩
   cases i with
   |zero=>simp at hx;subst hx;exact⟨s,rfl,rfl⟩
   |succ i=>simpa using i2 i x (by simpa using hx)
  |_=>simp[Ou]at h
theorem Zn4:∀ l,Ab l=true->l.Nodup:=by
 intro l
 induction l with
 |nil=>intro _;exact zX
 |cons s r ih =>
  intro h;simp only[Ab,zJ,zK]at h;refine zU.2 ⟨λhs=>?_,ih h.2⟩;have:=h.1 s hs;simp at this
theorem ZvS (c:Nat):∀ l,hJ c l=true->l.Nodup/\∀ n∈l,n<c:=by
 intro l
 induction l with
 |nil=>intro _;exact⟨zX,λn h=>(by cases h)⟩
 |cons s r ih =>
  intro h;simp only[hJ,zJ,zK,decide_eq_true_eq]at h;obtain⟨h1,h2,h3⟩:=h;obtain⟨i1,i2⟩:=ih h3;refine⟨zU.2 ⟨λhs=>?_,i1⟩,λn hn=>?_⟩
  ·have:=h2 s hs;simp at this
  ·rcases zO.1 hn with e|hn
   ·rw[e];exact h1
   ·exact i2 n hn
theorem Zz2 {S:Snap}{bm c:Nat}{es:List (AV×AV×Nat)}{es':Array MapEntry}{ks:List (List UInt8)}(hb:S.w.heap[bm]?=some (.map es' c))(hs:es'.size=es.length)
 (hr:∀ (i:Nat) (k v:AV) (n:Nat) (e:MapEntry),es[i]?=some (k,v,n)->es'[i]?=some e->VRel S k e.key/\VRel S v e.val/\e.born=n)
 (hk:Ou es=some ks) (hf:Ab ks=true) (hbo:hJ c (es.map (·.2.2))=true) (hl:ks.all (λs=>decide (s.length<=1048576))=true) (hn:ks.length<=1048576) :
 ∃ D0:DataW Unit,S.w.ownsMap Tryz.prog 9 F3 bm es'.size D0/\Maps.size D0<=1048576/\(strKeys D0).Perm ks:=by
 obtain⟨hlen,hkey⟩:=Zva es ks hk;have hsize:es'.size=ks.length:=by omega
 have hat:∀ (i:Nat) (e:MapEntry),es'[i]?=some e->∃ s,ks[i]?=some s/\e.key=encStr s/\(es.map (·.2.2))[i]?=some e.born:=λi e he=>by
  have hi:i<es.length:=by rw[<-hs];exact (zH.1 he).1
  obtain⟨⟨k,v,n⟩,hx⟩:∃ x,es[i]?=some x:=⟨es[i],List.getElem?_eq_getElem hi⟩;obtain⟨s,h1,h2⟩:=hkey i _ hx;obtain⟨r1,r2,r3⟩:=hr i k v n e hx he;simp only at h2;subst h2;exact⟨s,h1,Zti r1,by rw[zB,hx,r3];rfl⟩
 have hkeys:es'.toList.map (·.key)=ks.map encStr:=by
  apply zQ;intro i;by_cases hi:i<es'.size
  ·have he:es'[i]?=some es'[i]:=zD hi;obtain⟨s,h1,h2,_⟩:=hat i _ he;rw[zB,zB,h1,zE,he];simp[h2]
  ·rw[zC (by simp;omega),zC (by simp;omega)]
 have hborn:es'.toList.map (·.born)=es.map (·.2.2):=by
  apply zQ;intro i;by_cases hi:i<es'.size
  ·have he:es'[i]?=some es'[i]:=zD hi;obtain⟨s,_,_,h3⟩:=hat i _ he;rw[h3,zB,zE,he];rfl
  ·rw[zC (by simp;omega),zC (by simp;omega)]
 obtain⟨b1,b2⟩:=ZvS c _ hbo;have hnd:=Zn4 ks hf
 have hmem:∀ x∈es'.toList,∃ s∈ks,x.key=encStr s:=λx hx=>by
  have:x.key∈ks.map encStr:=by rw[<-hkeys];exact zL.2 ⟨x,hx,rfl⟩
  obtain⟨s,h1,h2⟩:=zL.1 this;exact⟨s,h1,h2.symm⟩
 have hko:∀ s∈ks,keyOf Tryz.prog 9 (encStr s)=some (.string s):=λs hs=>by
  have hle:=zK.1 hl s hs;simp only[decide_eq_true_eq]at hle;have:s.length<=maxLen:=by unfold maxLen;omega
  simp[keyOf,encStr,Tryz.underlying9,mapKey,ByteArray.size,this]
 have hrd:∀ x∈es'.toList,∃ s∈ks,x.key=encStr s/\Go.WideElems.rd Tryz.prog 9 F3 x=some (.string s,.nil):=λx hx=>by
  obtain⟨s,h1,h2⟩:=hmem x hx;exact⟨s,h1,h2,by simp[Go.WideElems.rd,h2,hko s h1,F3]⟩
 have hF:Go.WideElems.Fit Tryz.prog 9 F3 es' c:=by
  refine⟨by unfold maxLen;omega,(MapKept.stamped_iff es' c).2 ⟨λx hx=>?_,by rw[hborn];exact b1,?_⟩,λx hx=>?_⟩
  ·exact b2 _ (by rw[<-hborn];exact zL.2 ⟨x,hx,rfl⟩)
  ·have:(es'.toList.map (·.key)).Nodup:=by
    rw[hkeys];exact zR.2 (hnd.imp λ{a b} hne e=>hne (encStr_inj e))
   exact zR.1 this
  ·obtain⟨s,_,_,h⟩:=hrd x hx;exact⟨_,h⟩
 refine⟨_,⟨es',c,hb,hF,zS _,rfl⟩,?_,?_⟩
 ·simp[Maps.size,length_sorted];omega
 ·show (List.map (λp:Lit×DataW Unit=>strOf p.1) _).Perm ks;refine ((Go.WideShapes.sorted_perm _).map _).trans ?_;rw[zP]
  have:es'.toList.map ((λp:Lit×DataW Unit=>strOf p.1) ∘ Go.WideElems.rg Tryz.prog 9 F3)=ks:=by
   have h1:es'.toList.map ((λp:Lit×DataW Unit=>strOf p.1) ∘ Go.WideElems.rg Tryz.prog 9 F3)=es'.toList.map λx=>match x.key with|.string b=>b.data.toList|_=>[]:=by
    refine List.map_congr_left λx hx=>?_;obtain⟨s,_,h2,h3⟩:=hrd x hx;simp only[Function.comp,Go.WideElems.rg_of h3,h2,encStr,strOf]
   have h2:(es'.toList.map λx=>match x.key with|.string b=>b.data.toList|_=>[])=(es'.toList.map (·.key)).map λv=>match v with|.string b=>b.data.toList|_=>[]:=by rw[zP];rfl
   rw[h1,h2,hkeys,zP];have:((λv:Value=>match v with|.string b=>b.data.toList|_=>[]) ∘ encStr)=id:=funext λs=>by simp[encStr]
   rw[this,List.map_id]
  rw[this]
theorem Zub {C:Cfg}(hP:C.P=Tryz.prog)(_:∀ g,C.glob g=C.glob g):Bw C 40 namesE:=by
 intro W0 S H H' args args' v hI hW hs ha h;change Aj args H=some (v,H') at h;unfold Aj at h;split at h
 ·rename_i o;rw[zA]at h;obtain⟨v',h1,h2⟩:=h;injection h2 with h2 h3;subst h2 h3;obtain⟨lst⟩:=args'
  match lst,hs with
  |[u],_ =>
   have hu:=ha 0 _ u rfl rfl;cases hu with|ptr _ _ b hphi =>
   unfold BT at h1;split at h1
   ·rename_i l ho;obtain⟨b',cs,el,p1,p2,p3,p4,p5,p6,p7⟩:=hI.objs o _ ho;rw[hphi]at p1;injection p1 with p1;subst p1;split at h1
    ·rename_i m hm;have hi3:3<cs.size:=by rw[p4];exact (List.getElem?_eq_some_iff.1 hm).1
     have hc3:cs[3]?=some cs[3]:=zD hi3;have hv3:=p5 3 _ _ hm hc3;generalize cs[3]=u3 at hc3 hv3;cases hv3 with|map _ bm hphm =>
     have hcell:S.w.cell? ⟨b,3,none⟩=some (.map (some bm)):=by simp[World.cell?,p3,hc3]
     split at h1
     ·rename_i es c hes;obtain⟨bm',es',q1,q2,q3,q4,q5,q6⟩:=hI.objs m _ hes;rw[hphm]at q1;injection q1 with q1;subst q1;split at h1
      ·rename_i ks hks;split at h1
       ·rename_i hcond;injection h1 with h1;subst h1;simp only[zJ,decide_eq_true_eq]at hcond;obtain⟨c1,c2,c3,c4⟩:=hcond;obtain⟨D0,d1,d2,d3⟩:=Zz2 q3 q4 q6 hks c1 c2 c3 c4;rw[hP];refine (Zuc b bm es'.size D0 S.w hcell d1 d2).mono ?_
        rintro e w' ⟨r,ss,rfl,hp,hnil,hrow,hbel⟩
        have hpk:=hp.trans d3;have hms:ss.mergeSort leB=VJ ks:=by rw[mergeSort_of_perm hpk,ZxH]
        rw[hms]at hrow;have hsl:ss.length=ks.length:=hpk.length_eq
        cases ks with
        |nil =>
         have:ss=[]:=List.length_eq_zero_iff.1 hsl;rw[hnil this];obtain⟨r1,r2⟩:=hI.went hbel;exact⟨_,_,rfl,rfl,r1,r2,.nils⟩
        |cons s0 ks =>
         rcases hrow.2 with ⟨_,h0⟩|⟨g,cap,cur,rfl,hbase,hg,t1,t2,t3,t4⟩
         ·rw[hsl]at h0;simp at h0
         ·have hgl:g<w'.heap.size:=(zH.1 hg).1;obtain⟨r1,r2⟩:=hI.wentPub hbel hbase hgl;refine⟨_,_,rfl,rfl,r1,r2,?_⟩;have hlen:((VJ (s0::ks)).map AV.str).length=ss.length:=by rw[zV,(Qy _).length_eq,hsl]
          have hv:=VRel.vs (S:={ S with w:=w',pub:=λb i=>S.pub b i\/b=g }) 1 .no ((VJ (s0::ks)).map AV.str) g 0 cap (λj _=>encStr ((VJ (s0::ks)).getD j []))
           (by rw[hlen];exact t1) (λe he=>by obtain⟨s,_,rfl⟩:=zL.1 he;exact⟨rfl,rfl⟩)
           (λj i hj hi=>⟨by
            have hi0:i=0:=by omega
            subst hi0;rw[hlen]at hj;have e1:(cur.toList.take ss.length)[j]?=((VJ (s0::ks)).map encStr)[j]?:=by rw[zY]at t4;rw[t4]
            rw[List.getElem?_take_of_lt hj,zE]at e1;have hjk:j<(VJ (s0::ks)).length:=by rw[zV]at hlen;omega
            simp only[World.cell?,hg,Nat.zero_add,zY,Nat.add_zero];rw[e1];simp[zI,hjk],.inr rfl⟩)
           (λj e i cc hj hi=>by
            rw[zB,zA]at hj;obtain⟨s,g1,rfl⟩:=hj
            match i,hi with
            |0,hi =>
             injection hi with hi;subst hi;rw[zI,g1];exact .str _ _ (by simp)
            |i+1,hi=>simp[AV.cells]at hi)
           trivial none (.inl rfl)
          rw[hlen]at hv;exact hv
       ·cases h1
      ·cases h1
     ·cases h1
    ·cases h1
   ·cases h1
 ·cases h
end Go.Am
