/- The store -/
import Derived.Test.YtjmhpjoedfegkaaGreatDoorHmXx
import Derived.Test.YtjmhpjoedfegkaaGreatDoorHmBdx
open Option renaming some->K,none->X
open Bool renaming true->I,false->Y
open List renaming length->O
open Go.Am.AV renaming int->Q
open Go.IntKind renaming i64->J
open List renaming mem_cons_of_mem->zA,mem_singleton->zB,mem_cons->zC,map_cons->zD,mem_flatMap->zE,mem_append->zF,nodup_cons->zG,nodup_append->zH,cons_append->zI,flatMap_append->zJ,flatMap_cons->zK,map_nil->zL
namespace Go.Am
set_option linter.unusedSectionVars false
abbrev Zj:=dr
structure Fil where
 name:Zj
 text:Zj
 syn:Nat
structure Sto where
 limit:Nat
 peak:Nat
 files:List Fil
 crashed:Bool
 count:Nat
def Zs:List Fil->Nat
 |[]=>0
 |f::l=>O f.text+Zs l
theorem Ug (a b:List Fil):Zs (a++b)=Zs a+Zs b:=by
 induction a with
 |nil=>simp[Zs]
 |cons f a h=>simp only[zI,Zs,h];omega
def Y2 (l:List Fil)(n:Zj):Option Fil:=match l with
 |[]=>X
 |f::r=>if n=f.name then K f else Y2 r n
def Y9 (l:List Fil)(n:Zj)(g:Fil->Fil):List Fil:=match l with
 |[]=>[]
 |f::r=>if n=f.name then g f::r else f::Y9 r n g
def JI (l:List Fil)(n:Zj):List Fil:=match l with
 |[]=>[]
 |f::r=>if n=f.name then r else f::JI r n
theorem VY {l:List Fil}{n:Zj}{f:Fil}(h:Y2 l n=K f):∃ a b,l=a++f::b/\f.name=n/\(∀ g∈a,g.name≠n)/\(∀ u,Y9 l n u=a++u f::b)/\JI l n=a++b:=by
 induction l with
 |nil=>cases h
 |cons x l C =>
  unfold Y2 at h;split at h
  ·rename_i j;injection h with h;subst h;exact⟨[],l,rfl,j.symm,dh,λu=>by simp[Y9,j],by simp[JI,j]⟩
  ·rename_i j;obtain⟨a,b,rfl,y,z,A,B⟩:=C h;refine⟨x::a,b,rfl,y,λg w=>?_,λu=>by simp[Y9,j,A],by simp[JI,j,B]⟩;rcases zC.1 w with e|w
   ·subst e;exact λe=>j e.symm
   ·exact z g w
theorem Lf {l:List Fil}{n:Zj}:Y2 l n=X↔∀ g∈l,g.name≠n:=by
 induction l with
 |nil=>simp[Y2]
 |cons x l u =>
  unfold Y2;split
  ·rename_i h;simp[h]
  ·rename_i h;rw[u];constructor
   ·intro k g j;rcases zC.1 j with e|j
    ·subst e;exact λe=>h e.symm
    ·exact k g j
   ·intro k g j;exact k g (zA _ j)
def Kk (c:UInt8):Bool:=(97<=c&&c<=122) || (65<=c&&c<=90) || c==95 || c==46
def Uv (c:UInt8):Bool:=48<=c&&c<=57
def UN (s:Zj):Bool:=(match s with
 |[]=>Y
 |c::r=>Kk c&&r.all λc=>Kk c || Uv c)&&decide (O s<=32)
def Sto.tick (s:Sto):Sto:=if s.crashed then s else if s.count=1 then { s with crashed:=I,count:=0 } else { s with count:=s.count-1 }
def Sto.create (s:Sto)(n:Zj):Int×Sto :=
 if s.tick.crashed then (19,s.tick) else if UN n=Y then (4,s.tick) else match Y2 s.files n with
 |some _=>(6,s.tick)
 |none=>if 64<=O s.files then (3,s.tick) else (0,{ s.tick with files:=s.files++[⟨n,[],0⟩] })
def Sto.append (s:Sto)(n t:Zj):Int×Sto :=
 if s.tick.crashed then (19,s.tick) else match Y2 s.files n with
 |none=>(5,s.tick)
 |some _=>if s.limit<Zs s.files+O t then (12,s.tick) else (0,{ s.tick with files:=Y9 s.files n λf=>{ f with text:=f.text++t },peak:=max s.peak (Zs s.files+O t) })
def Sto.read (s:Sto)(n:Zj)(h k:Int):Zj×Int :=
 if s.tick.crashed then ([],19) else match Y2 s.files n with
 |none=>([],5)
 |some f=>if h<0\/(O f.text:Int)<h\/k<0 then ([],2) else ((f.text.drop h.toNat).take k.toNat,0)
def Sto.sync (s:Sto)(n:Zj):Int×Sto :=
 if s.tick.crashed then (19,s.tick) else match Y2 s.files n with
 |none=>(5,s.tick)
 |some _=>(0,{ s.tick with files:=Y9 s.files n λf=>{ f with syn:=O f.text } })
def Sto.remove (s:Sto)(n:Zj):Int×Sto :=
 if s.tick.crashed then (19,s.tick) else match Y2 s.files n with
 |none=>(5,s.tick)
 |some _=>(0,{ s.tick with files:=JI s.files n })
structure Stp (A:dv)(H H':Hp):Prop where
 len:O H<=O H'
 at':∀ a,a<O H->a∉A->H'[a]?=H[a]?
theorem Stp.refl (A:dv)(H:Hp):Stp A H H:=⟨Nat.le_refl _,λ_ _ _=>rfl⟩
theorem Stp.trans {A B C:dv}{H1 u w:Hp}(h:Stp A H1 u)(k:Stp B u w)(D:∀ a∈A,a∈C)(E:∀ a∈B,a∈C\/O H1<=a):Stp C H1 w :=
 ⟨Nat.le_trans h.len k.len,λa y z=>(k.at' a (Nat.lt_of_lt_of_le y h.len) λj=>(E a j).elim z (λh=>b5)).trans (h.at' a y λj=>z (D a j))⟩
theorem Stp.mono {A B:dv}{H H':Hp}(h:Stp A H H')(y:∀ a∈A,a∈B):Stp B H H':=⟨h.len,λa j w=>h.at' a j λu=>w (y a u)⟩
theorem Stp.set {A:dv}(H:Hp){o:Nat}(x:AObj)(j:o∈A):Stp A H (H.set o x):=⟨dh,λa u h=>List.getElem?_set_ne (λe=>by subst e;exact h j)⟩
theorem Stp.push {A:dv}(H:Hp)(l:Hp):Stp A H (H++l):=⟨dh,λa h j=>List.getElem?_append_left h⟩
theorem Stp.get {A:dv}{H H':Hp}(h:Stp A H H'){a:Nat}{x:AObj}(j:H[a]?=K x)(u:a∉A):H'[a]?=K x:=(h.at' a (Zq j) u).trans j
structure FD where
 fil:Fil
 f:Nat
 tx:AV
 born:Nat
def FD.ent (d:FD):AV×AV×Nat:=(.str d.fil.name,.ptr d.f 0,d.born)
def ZA:AV->dv
 |.vs _ (.own t _) _=>[t]
 |_=>[]
def FD.own (d:FD):dv:=d.f::ZA d.tx
def TxAt (H:Hp)(x:AV)(l:Zj):Prop:=x=.nils/\l=[]\/(∃ t e,x=.vs 1 (.own t e) (l.map bv)/\H[t]?=K (.tok e))\/x=.vs 1 .clip (l.map bv)
structure FileAt (H:Hp)(d:FD):Prop where
 cells:H[d.f]?=K (.cells [d.tx,Q J (d.fil.syn:Int)])
 text:TxAt H d.tx d.fil.text
theorem TxAt.frame {H H':Hp}{x:AV}{l:Zj}(h:TxAt H x l)(j:∀ a∈ZA x,H'[a]?=H[a]?):TxAt H' x l:=by
 rcases h with h|⟨t,e,rfl,u⟩|h
 ·exact .inl h
 ·exact .inr (.inl ⟨t,e,rfl,(j t (by simp[ZA])).trans u⟩)
 ·exact .inr (.inr h)
theorem FileAt.frame {H H':Hp}{d:FD}(h:FileAt H d)(j:∀ a∈d.own,H'[a]?=H[a]?):FileAt H' d :=
 ⟨(j _ (by simp[FD.own])).trans h.cells,h.text.frame λa u=>j a (by simp[FD.own,u])⟩
theorem FileAt.lt {H:Hp}{d:FD}(h:FileAt H d):∀ a∈d.own,a<O H:=by
 intro a j;rcases zC.1 j with e|j
 ·subst e;exact Zq h.cells
 ·rcases h.text with ⟨e,_⟩|⟨t,e,u,w⟩|e
  ·rw[e]at j;cases j
  ·rw[u]at j;rw[zB.1 j];exact Zq w
  ·rw[e]at j;cases j
theorem TxAt.len {H:Hp}{x:AV}{l:Zj}(h:TxAt H x l)(e:Nat):Zf (.slice e) x=K (Q J (O l:Int)):=by
 rcases h with ⟨rfl,rfl⟩|⟨t,j,rfl,u⟩|rfl
 ·rfl
 ·simp[Zf]
 ·simp[Zf]
theorem TxAt.app {H:Hp}{x:AV}{l:Zj}(h:TxAt H x l)(s:Zj)(E:O l+O s<=1048576) :
 ∃ A H',Ya 1 1 x (.str s) H=K (A,H')/\TxAt H' A (l++s)/\Stp (ZA x) H H'/\(∀ a∈ZA A,a∈ZA x\/a=O H)/\(∀ a∈ZA A,a<O H'):=by
 have u:Xe ((l.map bv).length+(s.map bv).length) 1=I:=by simp[Xe];omega
 have D:Go.Am.elems 1 (.str s) H=K (s.map bv):=rfl;unfold Ya;rw[D];by_cases C:s=[]
 ·subst C;have w:Xe ((l.map bv).length+([]:du).length) 1=I:=u;refine⟨x,H,?_,by simpa using h,Stp.refl _ _,λa j=>.inl j,λa j=>?_⟩
  ·rcases h with ⟨rfl,rfl⟩|⟨t,e,rfl,z⟩|rfl
   ·simp[YR]
   ·simp only[YR,zL,w,and_self,if_true]
   ·simp only[YR,zL,w,and_self,if_true]
  ·rcases h with ⟨rfl,rfl⟩|⟨t,e,rfl,z⟩|rfl
   ·cases j
   ·rw[zB.1 j];exact Zq z
   ·cases j
 ·have B:s.map bv≠[]:=by simpa using C
  rcases h with ⟨rfl,rfl⟩|⟨t,e,rfl,z⟩|rfl
  ·have y:Xe (s.map bv).length 1=I:=by simp[Xe];simp at E;omega
   refine⟨.vs 1 (.own (O H) (s.map bv).length) (s.map bv),H++[.tok (s.map bv).length],by simp only[YR,B,if_false,y,if_true],.inr (.inl ⟨O H,(s.map bv).length,dh,dh⟩),Stp.push _ _,λa j=>.inr (zB.1 j),λa j=>by rw[zB.1 j];simp⟩
  ·refine⟨.vs 1 (.own t (e+(s.map bv).length)) (l.map bv++s.map bv),H.set t (.tok (e+(s.map bv).length)),by simp only[YR,u,and_self,if_true,B,if_false,z],.inr (.inl ⟨t,e+(s.map bv).length,dh,Zu _ z⟩),Stp.set _ _ (by simp[ZA]),λa j=>.inl (by simpa[ZA]using j),λa j=>?_⟩;rw[zB.1 j];simp;exact Zq z
  ·refine⟨.vs 1 (.own (O H) ((l.map bv).length+(s.map bv).length)) (l.map bv++s.map bv),H++[.tok ((l.map bv).length+(s.map bv).length)],by simp only[YR,u,and_self,if_true,B,if_false],.inr (.inl ⟨O H,(l.map bv).length+(s.map bv).length,dh,dh⟩),Stp.push _ _,λa j=>.inr (zB.1 j),λa j=>by rw[zB.1 j];simp⟩
theorem TxAt.part {H:Hp}{x:AV}{l:Zj}(h:TxAt H x l){i j:Nat}(z:i<=j)(u:j<=O l)(H1:Hp) :
 ∃ y,Yk 1 x (K (Q J (i:Int))) (K (Q J (j:Int))) X=K y/\XM y H1=K (.str ((l.take j).drop i)):=by
 have w:Yy (O l) (O l) (K (Q J (i:Int))) (K (Q J (j:Int))) X=K (i,j,O l):=by
  rw[gW (len:=O l) (cap:=O l) .i64 .i64 b5 b5 b5];simp
 have key:∀ t,∃ y,Yk 1 (.vs 1 t (l.map bv)) (K (Q J (i:Int))) (K (Q J (j:Int))) X=K y/\XM y H1=K (.str ((l.take j).drop i)):=λt=>by
  unfold Yk;dsimp only;rw[if_pos rfl,List.length_map,w];refine⟨_,rfl,?_⟩;rw[<-List.map_take,<-List.map_drop];unfold XM;rw[ZfR]
 rcases h with ⟨rfl,rfl⟩|⟨t,e,rfl,A⟩|rfl
 ·have:i=0:=by simp at u;omega
  have:j=0:=by simpa using u
  subst_vars
  refine⟨.nils,?_,rfl⟩;unfold Yk;dsimp only;rw[show Yy 0 0 (K (Q J ((0:Nat):Int))) (K (Q J ((0:Nat):Int))) X=K (0,0,0) from by rw[gW (len:=0) (cap:=0) .i64 .i64 b5 b5 b5];simp]
 ·exact key _
 ·exact key _
theorem Zrq {A B C w:dv}{N:Nat}(h:(A++(C++B)).Nodup)(L:w.Nodup)(E:∀ x∈w,x∈C\/N<=x)(D:∀ x∈A++(C++B),x<N):(A++(w++B)).Nodup:=by
 rw[zH]at h ⊢;obtain⟨F,y,z⟩:=h;rw[zH]at y ⊢;obtain⟨M,G,H⟩:=y;refine⟨F,⟨L,G,λa u b j=>?_⟩,λa u b j=>?_⟩
 ·rcases E a u with k|k
  ·exact H a k b j
  ·have:=D b (by simp[j]);omega
 ·rcases zF.1 j with j|j
  ·rcases E b j with k|k
   ·exact z a u b (by simp[k])
   ·have:=D a (by simp[u]);omega
  ·exact z a u b (by simp[j])
structure StAt (H:Hp)(o m clk:Nat)(ds:List FD)(s:Sto):Prop where
 files:ds.map FD.fil=s.files
 cells:H[o]?=K (.cells [Q J (s.limit:Int),Q J (Zs s.files:Int),Q J (s.peak:Int),.map m,.bool s.crashed,Q J (s.count:Int)])
 map:H[m]?=K (.map (ds.map FD.ent) clk)
 file:∀ d∈ds,FileAt H d
 nd:(o::m::ds.flatMap FD.own).Nodup
 born:(ds.map FD.born).Nodup/\∀ d∈ds,d.born<clk
def StoreAt (H:Hp)(o:Nat)(s:Sto)(A:dv):Prop:=∃ m h j,StAt H o m h j s/\A=o::m::j.flatMap FD.own
structure StoOk (s:Sto):Prop where
 limit:s.limit<=262144
 used:Zs s.files<=s.limit
 peak:s.peak<=s.limit
 name:∀ f∈s.files,UN f.name=I
 nd:(s.files.map Fil.name).Nodup
 syn:∀ f∈s.files,f.syn<=O f.text
 len:O s.files<=64
 count:s.count<=9223372036854775807
theorem StAt.lt {H:Hp}{o m u:Nat}{w:List FD}{s:Sto}(h:StAt H o m u w s):∀ a∈o::m::w.flatMap FD.own,a<O H:=by
 intro a j;rcases zC.1 j with e|j
 ·subst e;exact Zq h.cells
 rcases zC.1 j with e|j
 ·subst e;exact Zq h.map
 obtain⟨d,y,j⟩:=zE.1 j;exact (h.file d y).lt a j
theorem StAt.frame {H H':Hp}{o m j:Nat}{u:List FD}{s:Sto}(h:StAt H o m j u s)(w:∀ a∈o::m::u.flatMap FD.own,H'[a]?=H[a]?):StAt H' o m j u s :=
 ⟨h.files,(w _ dh).trans h.cells,(w _ dh).trans h.map,λd y=>(h.file d y).frame λa z=>w a (zA _ (zA _ (zE.2 ⟨d,y,z⟩))),h.nd,h.born⟩
theorem StoreAt.lt {H:Hp}{o:Nat}{s:Sto}{A:dv}(h:StoreAt H o s A):∀ a∈A,a<O H:=by
 obtain⟨m,j,w,u,rfl⟩:=h;exact u.lt
theorem StoreAt.frame {H H':Hp}{o:Nat}{s:Sto}{A:dv}(h:StoreAt H o s A)(y:∀ a∈A,H'[a]?=H[a]?):StoreAt H' o s A:=by
 obtain⟨m,j,u,w,rfl⟩:=h;exact⟨m,j,u,w.frame y,rfl⟩
theorem StoreAt.stp {H H':Hp}{o:Nat}{s:Sto}{A B:dv}(h:StoreAt H o s A)(w:Stp B H H')(u:∀ a∈A,a∉B):StoreAt H' o s A :=
 h.frame λa j=>w.at' a (h.lt a j) (u a j)
theorem StAt.own_lt {H:Hp}{o m j:Nat}{u:List FD}{s:Sto}(h:StAt H o m j u s){d:FD}(B:d∈u){a:Nat}(A:a∈d.own):a≠o/\a≠m:=by
 have:=h.nd;rw[zG,zG]at this;obtain⟨y,z,_⟩:=this;have w:a∈u.flatMap FD.own:=zE.2 ⟨d,B,A⟩;exact⟨λe=>y (by rw[<-e];exact zA _ w),λe=>z (by rw[<-e];exact w)⟩
theorem StAt.om {H:Hp}{o m j:Nat}{u:List FD}{s:Sto}(h:StAt H o m j u s):o≠m:=by
 have:=h.nd;rw[zG]at this;exact λe=>this.1 (by simp[e])
theorem Zi0:∀ (j:List FD) (n:Zj) (i:Nat),Y2 (j.map FD.fil) n=X->X2 (.str n) (j.map FD.ent) i=K X:=by
 intro j n
 induction j with
 |nil=>intro i _;rfl
 |cons d j w =>
  intro i h;rw[zD,Y2]at h;split at h
  ·cases h
  ·rename_i u;rw[zD,X2];have:JB (.str n) d.ent.1=K (n==d.fil.name):=rfl;rw[this,show (n==d.fil.name)=Y by simpa using u];exact w _ h
theorem SN:∀ (a:List FD) (d:FD) (b:List FD) (n:Zj) (i:Nat),d.fil.name=n->(∀ g∈a,g.fil.name≠n)->X2 (.str n) ((a++d::b).map FD.ent) i=K (K (i+O a,.ptr d.f 0)):=by
 intro a
 induction a with
 |nil =>
  intro d b n i h _;rw[List.nil_append,zD,X2];have:JB (.str n) d.ent.1=K (n==d.fil.name):=rfl;rw[this,h,beq_self_eq_true];rfl
 |cons x a w =>
  intro d b n i h j;rw[zI,zD,X2];have:JB (.str n) x.ent.1=K (n==x.fil.name):=rfl;rw[this,show (n==x.fil.name)=Y by simpa using λe=>j x dh e.symm];dsimp only;rw[w d b n (i+1) h λg u=>j g (zA _ u)];simp only[List.length_cons];congr 3;omega
theorem Zwi {j:List FD}{n:Zj}{f:Fil}(h:Y2 (j.map FD.fil) n=K f):∃ a d b,j=a++d::b/\d.fil=f/\d.fil.name=n/\(∀ g∈a,g.fil.name≠n):=by
 induction j with
 |nil=>cases h
 |cons d j B =>
  rw[zD,Y2]at h;split at h
  ·rename_i w;injection h with h;exact⟨[],d,j,rfl,h,w.symm,dh⟩
  ·rename_i w;obtain⟨a,d',b,rfl,y,z,A⟩:=B h;refine⟨d::a,d',b,rfl,y,z,λg u=>?_⟩;rcases zC.1 u with e|u
   ·subst e;exact λe=>w e.symm
   ·exact A g u
theorem AW (a:List FD)(d:FD)(b:List FD)(n:Zj)(u:Fil->Fil)(j:d.fil.name=n)(h:∀ g∈a,g.fil.name≠n):Y9 ((a++d::b).map FD.fil) n u=a.map FD.fil++u d.fil::b.map FD.fil:=by
 induction a with
 |nil=>simp[Y9,j]
 |cons x a y =>
  rw[zI,zD,Y9,if_neg (λe=>h x dh e.symm),y λg w=>h g (zA _ w)];rfl
theorem Zzb (a:List FD)(d:FD)(b:List FD)(n:Zj)(j:d.fil.name=n)(h:∀ g∈a,g.fil.name≠n):JI ((a++d::b).map FD.fil) n=a.map FD.fil++b.map FD.fil:=by
 induction a with
 |nil=>simp[JI,j]
 |cons x a w =>
  rw[zI,zD,JI,if_neg (λe=>h x dh e.symm),w λg u=>h g (zA _ u)];rfl
theorem StAt.look {H:Hp}{o m u:Nat}{j:List FD}{s:Sto}(h:StAt H o m u j s)(n:Zj) :
 (Y2 s.files n=X/\Yj .string .nilp Y (.map m) (.str n) H=K .nilp)\/∃ a d b,j=a++d::b/\d.fil.name=n/\(∀ g∈a,g.fil.name≠n)/\Y2 s.files n=K d.fil/\Yj .string .nilp Y (.map m) (.str n) H=K (.ptr d.f 0):=by
 have z:Xs (.map m) H=K (j.map FD.ent):=by unfold Xs;dsimp only;rw[h.map]
 have B:Wr .string (.str n)=I:=rfl;rw[<-h.files]
 cases A:Y2 (j.map FD.fil) n with
 |none =>
  refine .inl ⟨rfl,?_⟩;unfold Yj;rw[if_pos B,z];dsimp only;rw[Zi0 j n 0 A];rfl
 |some f =>
  obtain⟨a,d,b,rfl,C,w,y⟩:=Zwi A;refine .inr ⟨a,d,b,rfl,w,y,by rw[C],?_⟩;unfold Yj;rw[if_pos B,z];dsimp only;rw[SN a d b n 0 w y];rfl
theorem StAt.upd {H H':Hp}{o m E:Nat}{a b:List FD}{d d':FD}{s s':Sto}(h:StAt H o m E (a++d::b) s)
 (j:H'[o]?=K (.cells [Q J (s'.limit:Int),Q J (Zs s'.files:Int),Q J (s'.peak:Int),.map m,.bool s'.crashed,Q J (s'.count:Int)]))
 (G:H'[m]?=H[m]?) (B:d'.ent=d.ent) (u:s'.files=a.map FD.fil++d'.fil::b.map FD.fil) (P:FileAt H' d') (hS:Stp (o::d.own) H H')
 (R:d'.own.Nodup) (L:∀ x∈d'.own,x∈d.own\/O H<=x):StAt H' o m E (a++d'::b) s' where
 files:=by rw[u];simp
 cells:=j
 map:=by rw[G,h.map];simp[B]
 file:=λx S=>by
  have C:∀ y∈a++b,FileAt H' y:=λy hy=>by
   have D:y∈a++d::b:=by rcases zF.1 hy with k|k <;> simp[k]
   refine (h.file y D).frame λz M=>hS.at' z ((h.file y D).lt z M) λw=>?_;rcases zC.1 w with e|w
   ·exact (h.own_lt D M).1 e
   ·have:=h.nd;rw[zG,zG,zJ,zK,zH,zH]at this;obtain⟨_,_,_,⟨_,_,q1⟩,q2⟩:=this;rcases zF.1 hy with k|k
    ·exact q2 z (zE.2 ⟨y,k,M⟩) z (by simp[w]) rfl
    ·exact q1 z w z (zE.2 ⟨y,k,M⟩) rfl
  rcases zF.1 S with k|k
  ·exact C x (by simp[k])
  ·rcases zC.1 k with e|k
   ·subst e;exact P
   ·exact C x (by simp[k])
 nd:=by
  have T:=h.nd;have F:=h.lt;rw[zJ,zK]at T F ⊢;exact Zrq (A:=o::m::a.flatMap FD.own) T R L F
 born:=by
  have Z:d'.born=d.born:=by have:=congrArg (λe=>e.2.2) B;exact this
  obtain⟨h1,N⟩:=h.born;refine⟨by simpa[Z]using h1,λx S=>?_⟩;rcases zF.1 S with k|k
  ·exact N x (by simp[k])
  ·rcases zC.1 k with e|k
   ·subst e;rw[Z];exact N d dh
   ·exact N x (by simp[k])
end Go.Am
