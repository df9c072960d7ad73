/- The store -/
import Derived.Test.YtmclihijlmlpkaaGreatDoorHmXx
import Derived.Test.YtmclihijlmlpkaaGreatDoorHmBdx
open Option renaming some->K,none->X
open Bool renaming true->I,false->Y
open List renaming length->O
open Go.Am.AV renaming int->Q
open Go.IntKind renaming i64->J
open List renaming mem_cons_of_mem->zA,mem_singleton->zB,mem_cons->zC,map_cons->zD,mem_flatMap->zE,mem_append->zF,nodup_cons->zG,nodup_append->zH,cons_append->zI,flatMap_append->zJ,flatMap_cons->zK,map_nil->zL
namespace Go.Am
set_option linter.unusedSectionVars false
abbrev Zx:=cz
structure Fil where
 name:Zx
 text:Zx
 syn:Nat
structure Sto where
 limit:Nat
 peak:Nat
 files:List Fil
 crashed:Bool
 count:Nat
def ZB:List Fil->Nat
 |[]=>0
 |f::l=>O f.text+ZB l
theorem Wn (a b:List Fil):ZB (a++b)=ZB a+ZB b:=by
 induction a with
 |nil=>simp[ZB]
 |cons f a g=>simp only[zI,ZB,g];omega
def Y5 (l:List Fil)(n:Zx):Option Fil:=match l with
 |[]=>X
 |f::r=>if n=f.name then K f else Y5 r n
def Ra (l:List Fil)(n:Zx)(g:Fil->Fil):List Fil:=match l with
 |[]=>[]
 |f::r=>if n=f.name then g f::r else f::Ra r n g
def Vt (l:List Fil)(n:Zx):List Fil:=match l with
 |[]=>[]
 |f::r=>if n=f.name then r else f::Vt r n
theorem Zun {l:List Fil}{n:Zx}:Y5 l n=X↔∀ g∈l,g.name≠n:=by
 induction l with
 |nil=>simp[Y5]
 |cons x l u =>
  unfold Y5;split
  ·rename_i h;simp[h]
  ·rename_i h;rw[u];constructor
   ·intro k g j;rcases zC.1 j with e|j
    ·subst e;exact λe=>h e.symm
    ·exact k g j
   ·intro k g j;exact k g (zA _ j)
def gF (c:UInt8):Bool:=(97<=c&&c<=122) || (65<=c&&c<=90) || c==95 || c==46
def Znk (c:UInt8):Bool:=48<=c&&c<=57
def FK (s:Zx):Bool:=(match s with
 |[]=>Y
 |c::r=>gF c&&r.all λc=>gF c || Znk c)&&decide (O s<=32)
def Sto.tick (s:Sto):Sto:=if s.crashed then s else if s.count=1 then { s with crashed:=I,count:=0 } else { s with count:=s.count-1 }
def Sto.create (s:Sto)(n:Zx):Int×Sto :=
 if s.tick.crashed then (19,s.tick) else if FK n=Y then (4,s.tick) else match Y5 s.files n with
 |some _=>(6,s.tick)
 |none=>if 64<=O s.files then (3,s.tick) else (0,{ s.tick with files:=s.files++[⟨n,[],0⟩] })
def Sto.append (s:Sto)(n t:Zx):Int×Sto :=
 if s.tick.crashed then (19,s.tick) else match Y5 s.files n with
 |none=>(5,s.tick)
 |some _=>if s.limit<ZB s.files+O t then (12,s.tick) else (0,{ s.tick with files:=Ra s.files n λf=>{ f with text:=f.text++t },peak:=max s.peak (ZB s.files+O t) })
def Sto.read (s:Sto)(n:Zx)(g k:Int):Zx×Int :=
 if s.tick.crashed then ([],19) else match Y5 s.files n with
 |none=>([],5)
 |some f=>if g<0\/(O f.text:Int)<g\/k<0 then ([],2) else ((f.text.drop g.toNat).take k.toNat,0)
def Sto.sync (s:Sto)(n:Zx):Int×Sto :=
 if s.tick.crashed then (19,s.tick) else match Y5 s.files n with
 |none=>(5,s.tick)
 |some _=>(0,{ s.tick with files:=Ra s.files n λf=>{ f with syn:=O f.text } })
def Sto.remove (s:Sto)(n:Zx):Int×Sto :=
 if s.tick.crashed then (19,s.tick) else match Y5 s.files n with
 |none=>(5,s.tick)
 |some _=>(0,{ s.tick with files:=Vt s.files n })
structure Stp (A:da)(H H':Hp):Prop where
 len:O H<=O H'
 at':∀ a,a<O H->a∉A->H'[a]?=H[a]?
theorem Stp.refl (A:da)(H:Hp):Stp A H H:=⟨Nat.le_refl _,λ_ _ _=>rfl⟩
theorem Stp.trans {A B C:da}{H1 j u:Hp}(h:Stp A H1 j)(k:Stp B j u)(z:∀ a∈A,a∈C)(D:∀ a∈B,a∈C\/O H1<=a):Stp C H1 u :=
 ⟨Nat.le_trans h.len k.len,λa w y=>(k.at' a (Nat.lt_of_lt_of_le w h.len) λg=>(D a g).elim y (λh=>cm)).trans (h.at' a w λg=>y (z a g))⟩
theorem Stp.mono {A B:da}{H H':Hp}(h:Stp A H H')(w:∀ a∈A,a∈B):Stp B H H':=⟨h.len,λa g u=>h.at' a g λj=>u (w a j)⟩
theorem Stp.set {A:da}(H:Hp){o:Nat}(x:AObj)(h:o∈A):Stp A H (H.set o x):=⟨cn,λa j g=>List.getElem?_set_ne (λe=>by subst e;exact g h)⟩
theorem Stp.push {A:da}(H:Hp)(l:Hp):Stp A H (H++l):=⟨cn,λa g h=>List.getElem?_append_left g⟩
theorem Stp.get {A:da}{H H':Hp}(h:Stp A H H'){a:Nat}{x:AObj}(g:H[a]?=K x)(j:a∉A):H'[a]?=K x:=(h.at' a (Zn g) j).trans g
structure FD where
 fil:Fil
 f:Nat
 tx:AV
 born:Nat
def FD.ent (d:FD):AV×AV×Nat:=(.str d.fil.name,.ptr d.f 0,d.born)
def ZN:AV->da
 |.vs _ (.own t _) _=>[t]
 |_=>[]
def FD.own (d:FD):da:=d.f::ZN d.tx
def TxAt (H:Hp)(x:AV)(l:Zx):Prop:=x=.nils/\l=[]\/(∃ t e,x=.vs 1 (.own t e) (l.map bv)/\H[t]?=K (.tok e))\/x=.vs 1 .clip (l.map bv)
structure FileAt (H:Hp)(d:FD):Prop where
 cells:H[d.f]?=K (.cells [d.tx,Q J (d.fil.syn:Int)])
 text:TxAt H d.tx d.fil.text
theorem TxAt.frame {H H':Hp}{x:AV}{l:Zx}(h:TxAt H x l)(g:∀ a∈ZN x,H'[a]?=H[a]?):TxAt H' x l:=by
 rcases h with h|⟨t,e,rfl,j⟩|h
 ·exact .inl h
 ·exact .inr (.inl ⟨t,e,rfl,(g t (by simp[ZN])).trans j⟩)
 ·exact .inr (.inr h)
theorem FileAt.frame {H H':Hp}{d:FD}(h:FileAt H d)(g:∀ a∈d.own,H'[a]?=H[a]?):FileAt H' d :=
 ⟨(g _ (by simp[FD.own])).trans h.cells,h.text.frame λa j=>g a (by simp[FD.own,j])⟩
theorem FileAt.lt {H:Hp}{d:FD}(h:FileAt H d):∀ a∈d.own,a<O H:=by
 intro a g;rcases zC.1 g with e|g
 ·subst e;exact Zn h.cells
 ·rcases h.text with ⟨e,_⟩|⟨t,e,j,u⟩|e
  ·rw[e]at g;cases g
  ·rw[j]at g;rw[zB.1 g];exact Zn u
  ·rw[e]at g;cases g
theorem TxAt.len {H:Hp}{x:AV}{l:Zx}(h:TxAt H x l)(e:Nat):Zk (.slice e) x=K (Q J (O l:Int)):=by
 rcases h with ⟨rfl,rfl⟩|⟨t,g,rfl,j⟩|rfl
 ·rfl
 ·simp[Zk]
 ·simp[Zk]
theorem TxAt.app {H:Hp}{x:AV}{l:Zx}(h:TxAt H x l)(s:Zx)(D:O l+O s<=1048576) :
 ∃ z H',ZR 1 1 x (.str s) H=K (z,H')/\TxAt H' z (l++s)/\Stp (ZN x) H H'/\(∀ a∈ZN z,a∈ZN x\/a=O H)/\(∀ a∈ZN z,a<O H'):=by
 have j:YB ((l.map bv).length+(s.map bv).length) 1=I:=by simp[YB];omega
 have C:Go.Am.elems 1 (.str s) H=K (s.map bv):=rfl;unfold ZR;rw[C];by_cases B:s=[]
 ·subst B;have u:YB ((l.map bv).length+([]:c6).length) 1=I:=j;refine⟨x,H,?_,by simpa using h,Stp.refl _ _,λa g=>.inl g,λa g=>?_⟩
  ·rcases h with ⟨rfl,rfl⟩|⟨t,e,rfl,y⟩|rfl
   ·simp[Ys]
   ·simp only[Ys,zL,u,and_self,if_true]
   ·simp only[Ys,zL,u,and_self,if_true]
  ·rcases h with ⟨rfl,rfl⟩|⟨t,e,rfl,y⟩|rfl
   ·cases g
   ·rw[zB.1 g];exact Zn y
   ·cases g
 ·have A:s.map bv≠[]:=by simpa using B
  rcases h with ⟨rfl,rfl⟩|⟨t,e,rfl,y⟩|rfl
  ·have w:YB (s.map bv).length 1=I:=by simp[YB];simp at D;omega
   refine⟨.vs 1 (.own (O H) (s.map bv).length) (s.map bv),H++[.tok (s.map bv).length],by simp only[Ys,A,if_false,w,if_true],.inr (.inl ⟨O H,(s.map bv).length,cn,cn⟩),Stp.push _ _,λa g=>.inr (zB.1 g),λa g=>by rw[zB.1 g];simp⟩
  ·refine⟨.vs 1 (.own t (e+(s.map bv).length)) (l.map bv++s.map bv),H.set t (.tok (e+(s.map bv).length)),by simp only[Ys,j,and_self,if_true,A,if_false,y],.inr (.inl ⟨t,e+(s.map bv).length,cn,Zs _ y⟩),Stp.set _ _ (by simp[ZN]),λa g=>.inl (by simpa[ZN]using g),λa g=>?_⟩;rw[zB.1 g];simp;exact Zn y
  ·refine⟨.vs 1 (.own (O H) ((l.map bv).length+(s.map bv).length)) (l.map bv++s.map bv),H++[.tok ((l.map bv).length+(s.map bv).length)],by simp only[Ys,j,and_self,if_true,A,if_false],.inr (.inl ⟨O H,(l.map bv).length+(s.map bv).length,cn,cn⟩),Stp.push _ _,λa g=>.inr (zB.1 g),λa g=>by rw[zB.1 g];simp⟩
theorem TxAt.part {H:Hp}{x:AV}{l:Zx}(h:TxAt H x l){i j:Nat}(w:i<=j)(g:j<=O l)(H1:Hp) :
 ∃ y,YC 1 x (K (Q J (i:Int))) (K (Q J (j:Int))) X=K y/\Uh y H1=K (.str ((l.take j).drop i)):=by
 have u:YQ (O l) (O l) (K (Q J (i:Int))) (K (Q J (j:Int))) X=K (i,j,O l):=by
  rw[eQ (len:=O l) (cap:=O l) .i64 .i64 cm cm cm];simp
 have key:∀ t,∃ y,YC 1 (.vs 1 t (l.map bv)) (K (Q J (i:Int))) (K (Q J (j:Int))) X=K y/\Uh y H1=K (.str ((l.take j).drop i)):=λt=>by
  unfold YC;dsimp only;rw[if_pos rfl,List.length_map,u];refine⟨_,rfl,?_⟩;rw[<-List.map_take,<-List.map_drop];unfold Uh;rw[ZwD]
 rcases h with ⟨rfl,rfl⟩|⟨t,e,rfl,z⟩|rfl
 ·have:i=0:=by simp at g;omega
  have:j=0:=by simpa using g
  subst_vars
  refine⟨.nils,?_,rfl⟩;unfold YC;dsimp only;rw[show YQ 0 0 (K (Q J ((0:Nat):Int))) (K (Q J ((0:Nat):Int))) X=K (0,0,0) from by rw[eQ (len:=0) (cap:=0) .i64 .i64 cm cm cm];simp]
 ·exact key _
 ·exact key _
theorem Zsd {A B C u:da}{N:Nat}(h:(A++(C++B)).Nodup)(L:u.Nodup)(D:∀ x∈u,x∈C\/N<=x)(z:∀ x∈A++(C++B),x<N):(A++(u++B)).Nodup:=by
 rw[zH]at h ⊢;obtain⟨E,w,y⟩:=h;rw[zH]at w ⊢;obtain⟨M,F,H⟩:=w;refine⟨E,⟨L,F,λa j b g=>?_⟩,λa j b g=>?_⟩
 ·rcases D a j with k|k
  ·exact H a k b g
  ·have:=z b (by simp[g]);omega
 ·rcases zF.1 g with g|g
  ·rcases D b g with k|k
   ·exact y a j b (by simp[k])
   ·have:=z a (by simp[j]);omega
  ·exact y a j b (by simp[g])
structure StAt (H:Hp)(o m clk:Nat)(ds:List FD)(s:Sto):Prop where
 files:ds.map FD.fil=s.files
 cells:H[o]?=K (.cells [Q J (s.limit:Int),Q J (ZB s.files:Int),Q J (s.peak:Int),.map m,.bool s.crashed,Q J (s.count:Int)])
 map:H[m]?=K (.map (ds.map FD.ent) clk)
 file:∀ d∈ds,FileAt H d
 nd:(o::m::ds.flatMap FD.own).Nodup
 born:(ds.map FD.born).Nodup/\∀ d∈ds,d.born<clk
def StoreAt (H:Hp)(o:Nat)(s:Sto)(A:da):Prop:=∃ m g h,StAt H o m g h s/\A=o::m::h.flatMap FD.own
structure StoOk (s:Sto):Prop where
 limit:s.limit<=262144
 used:ZB s.files<=s.limit
 peak:s.peak<=s.limit
 name:∀ f∈s.files,FK f.name=I
 nd:(s.files.map Fil.name).Nodup
 syn:∀ f∈s.files,f.syn<=O f.text
 len:O s.files<=64
 count:s.count<=9223372036854775807
theorem StAt.lt {H:Hp}{o m j:Nat}{u:List FD}{s:Sto}(h:StAt H o m j u s):∀ a∈o::m::u.flatMap FD.own,a<O H:=by
 intro a g;rcases zC.1 g with e|g
 ·subst e;exact Zn h.cells
 rcases zC.1 g with e|g
 ·subst e;exact Zn h.map
 obtain⟨d,w,g⟩:=zE.1 g;exact (h.file d w).lt a g
theorem StAt.frame {H H':Hp}{o m g:Nat}{j:List FD}{s:Sto}(h:StAt H o m g j s)(u:∀ a∈o::m::j.flatMap FD.own,H'[a]?=H[a]?):StAt H' o m g j s :=
 ⟨h.files,(u _ cn).trans h.cells,(u _ cn).trans h.map,λd w=>(h.file d w).frame λa y=>u a (zA _ (zA _ (zE.2 ⟨d,w,y⟩))),h.nd,h.born⟩
theorem StoreAt.lt {H:Hp}{o:Nat}{s:Sto}{A:da}(h:StoreAt H o s A):∀ a∈A,a<O H:=by
 obtain⟨m,g,u,j,rfl⟩:=h;exact j.lt
theorem StoreAt.frame {H H':Hp}{o:Nat}{s:Sto}{A:da}(h:StoreAt H o s A)(w:∀ a∈A,H'[a]?=H[a]?):StoreAt H' o s A:=by
 obtain⟨m,g,j,u,rfl⟩:=h;exact⟨m,g,j,u.frame w,rfl⟩
theorem StoreAt.stp {H H':Hp}{o:Nat}{s:Sto}{A B:da}(h:StoreAt H o s A)(u:Stp B H H')(j:∀ a∈A,a∉B):StoreAt H' o s A :=
 h.frame λa g=>u.at' a (h.lt a g) (j a g)
theorem StAt.own_lt {H:Hp}{o m g:Nat}{j:List FD}{s:Sto}(h:StAt H o m g j s){d:FD}(A:d∈j){a:Nat}(z:a∈d.own):a≠o/\a≠m:=by
 have:=h.nd;rw[zG,zG]at this;obtain⟨w,y,_⟩:=this;have u:a∈j.flatMap FD.own:=zE.2 ⟨d,A,z⟩;exact⟨λe=>w (by rw[<-e];exact zA _ u),λe=>y (by rw[<-e];exact u)⟩
theorem StAt.om {H:Hp}{o m g:Nat}{j:List FD}{s:Sto}(h:StAt H o m g j s):o≠m:=by
 have:=h.nd;rw[zG]at this;exact λe=>this.1 (by simp[e])
theorem Zi4:∀ (g:List FD) (n:Zx) (i:Nat),Y5 (g.map FD.fil) n=X->YX (.str n) (g.map FD.ent) i=K X:=by
 intro g n
 induction g with
 |nil=>intro i _;rfl
 |cons d g u =>
  intro i h;rw[zD,Y5]at h;split at h
  ·cases h
  ·rename_i j;rw[zD,YX];have:Jb (.str n) d.ent.1=K (n==d.fil.name):=rfl;rw[this,show (n==d.fil.name)=Y by simpa using j];exact u _ h
theorem EZ:∀ (a:List FD) (d:FD) (b:List FD) (n:Zx) (i:Nat),d.fil.name=n->(∀ g∈a,g.fil.name≠n)->YX (.str n) ((a++d::b).map FD.ent) i=K (K (i+O a,.ptr d.f 0)):=by
 intro a
 induction a with
 |nil =>
  intro d b n i h _;rw[List.nil_append,zD,YX];have:Jb (.str n) d.ent.1=K (n==d.fil.name):=rfl;rw[this,h,beq_self_eq_true];rfl
 |cons x a w =>
  intro d b n i h j;rw[zI,zD,YX];have:Jb (.str n) x.ent.1=K (n==x.fil.name):=rfl;rw[this,show (n==x.fil.name)=Y by simpa using λe=>j x cn e.symm];dsimp only;rw[w d b n (i+1) h λg u=>j g (zA _ u)];simp only[List.length_cons];congr 3;omega
theorem ZwI {j:List FD}{n:Zx}{f:Fil}(h:Y5 (j.map FD.fil) n=K f):∃ a d b,j=a++d::b/\d.fil=f/\d.fil.name=n/\(∀ g∈a,g.fil.name≠n):=by
 induction j with
 |nil=>cases h
 |cons d j B =>
  rw[zD,Y5]at h;split at h
  ·rename_i w;injection h with h;exact⟨[],d,j,rfl,h,w.symm,cn⟩
  ·rename_i w;obtain⟨a,d',b,rfl,y,z,A⟩:=B h;refine⟨d::a,d',b,rfl,y,z,λg u=>?_⟩;rcases zC.1 u with e|u
   ·subst e;exact λe=>w e.symm
   ·exact A g u
theorem iX (a:List FD)(d:FD)(b:List FD)(n:Zx)(u:Fil->Fil)(j:d.fil.name=n)(h:∀ g∈a,g.fil.name≠n):Ra ((a++d::b).map FD.fil) n u=a.map FD.fil++u d.fil::b.map FD.fil:=by
 induction a with
 |nil=>simp[Ra,j]
 |cons x a y =>
  rw[zI,zD,Ra,if_neg (λe=>h x cn e.symm),y λg w=>h g (zA _ w)];rfl
theorem Zzq (a:List FD)(d:FD)(b:List FD)(n:Zx)(j:d.fil.name=n)(h:∀ g∈a,g.fil.name≠n):Vt ((a++d::b).map FD.fil) n=a.map FD.fil++b.map FD.fil:=by
 induction a with
 |nil=>simp[Vt,j]
 |cons x a w =>
  rw[zI,zD,Vt,if_neg (λe=>h x cn e.symm),w λg u=>h g (zA _ u)];rfl
theorem StAt.look {H:Hp}{o m u:Nat}{j:List FD}{s:Sto}(h:StAt H o m u j s)(n:Zx) :
 (Y5 s.files n=X/\Yo .string .nilp Y (.map m) (.str n) H=K .nilp)\/∃ a d b,j=a++d::b/\d.fil.name=n/\(∀ g∈a,g.fil.name≠n)/\Y5 s.files n=K d.fil/\Yo .string .nilp Y (.map m) (.str n) H=K (.ptr d.f 0):=by
 have z:Xq (.map m) H=K (j.map FD.ent):=by unfold Xq;dsimp only;rw[h.map]
 have B:Wo .string (.str n)=I:=rfl;rw[<-h.files]
 cases A:Y5 (j.map FD.fil) n with
 |none =>
  refine .inl ⟨rfl,?_⟩;unfold Yo;rw[if_pos B,z];dsimp only;rw[Zi4 j n 0 A];rfl
 |some f =>
  obtain⟨a,d,b,rfl,C,w,y⟩:=ZwI A;refine .inr ⟨a,d,b,rfl,w,y,by rw[C],?_⟩;unfold Yo;rw[if_pos B,z];dsimp only;rw[EZ a d b n 0 w y];rfl
theorem StAt.upd {H H':Hp}{o m D:Nat}{a b:List FD}{d d':FD}{s s':Sto}(h:StAt H o m D (a++d::b) s)
 (g:H'[o]?=K (.cells [Q J (s'.limit:Int),Q J (ZB s'.files:Int),Q J (s'.peak:Int),.map m,.bool s'.crashed,Q J (s'.count:Int)]))
 (F:H'[m]?=H[m]?) (w:d'.ent=d.ent) (j:s'.files=a.map FD.fil++d'.fil::b.map FD.fil) (R:FileAt H' d') (hS:Stp (o::d.own) H H')
 (S:d'.own.Nodup) (L:∀ x∈d'.own,x∈d.own\/O H<=x):StAt H' o m D (a++d'::b) s' where
 files:=by rw[j];simp
 cells:=g
 map:=by rw[F,h.map];simp[w]
 file:=λx T=>by
  have B:∀ y∈a++b,FileAt H' y:=λy hy=>by
   have C:y∈a++d::b:=by rcases zF.1 hy with k|k <;> simp[k]
   refine (h.file y C).frame λz M=>hS.at' z ((h.file y C).lt z M) λu=>?_;rcases zC.1 u with e|u
   ·exact (h.own_lt C M).1 e
   ·have:=h.nd;rw[zG,zG,zJ,zK,zH,zH]at this;obtain⟨_,_,_,⟨_,_,q1⟩,q2⟩:=this;rcases zF.1 hy with k|k
    ·exact q2 z (zE.2 ⟨y,k,M⟩) z (by simp[u]) rfl
    ·exact q1 z u z (zE.2 ⟨y,k,M⟩) rfl
  rcases zF.1 T with k|k
  ·exact B x (by simp[k])
  ·rcases zC.1 k with e|k
   ·subst e;exact R
   ·exact B x (by simp[k])
 nd:=by
  have Z:=h.nd;have E:=h.lt;rw[zJ,zK]at Z E ⊢;exact Zsd (A:=o::m::a.flatMap FD.own) Z S L E
 born:=by
  have hb:d'.born=d.born:=by have:=congrArg (λe=>e.2.2) w;exact this
  obtain⟨h1,N⟩:=h.born;refine⟨by simpa[hb]using h1,λx T=>?_⟩;rcases zF.1 T with k|k
  ·exact N x (by simp[k])
  ·rcases zC.1 k with e|k
   ·subst e;rw[hb];exact N d cn
   ·exact N x (by simp[k])
end Go.Am
