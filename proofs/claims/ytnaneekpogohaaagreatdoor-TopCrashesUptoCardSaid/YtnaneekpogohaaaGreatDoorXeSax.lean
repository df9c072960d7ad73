/- The store -/
import Derived.Test.YtnaneekpogohaaaGreatDoorHmXx
import Derived.Test.YtnaneekpogohaaaGreatDoorHmBdx
open Go.Am.AV renaming int->J
open Go.IntKind renaming i64->zM
open List renaming mem_cons_of_mem->zA,mem_singleton->zB,mem_cons->zC,map_cons->zD,mem_flatMap->zE,mem_append->zF,nodup_cons->zG,nodup_append->zH,cons_append->zI,flatMap_append->zJ,flatMap_cons->zK,map_nil->zL
namespace Go.Am
set_option linter.unusedSectionVars false
abbrev Zm:=List UInt8
structure Fil where
 name:Zm
 text:Zm
 syn:Nat
structure Sto where
 limit:Nat
 peak:Nat
 files:List Fil
 crashed:Bool
 count:Nat
def Zr:List Fil->Nat
 |[]=>0
 |f::l=>f.text.length+Zr l
theorem XQ (a b:List Fil):Zr (a++b)=Zr a+Zr b:=by
 induction a with
 |nil=>simp[Zr]
 |cons f a g=>simp only[zI,Zr,g];omega
def ZP (l:List Fil)(n:Zm):Option Fil:=match l with
 |[]=>none
 |f::r=>if n=f.name then some f else ZP r n
def X6 (l:List Fil)(n:Zm)(g:Fil->Fil):List Fil:=match l with
 |[]=>[]
 |f::r=>if n=f.name then g f::r else f::X6 r n g
def VR (l:List Fil)(n:Zm):List Fil:=match l with
 |[]=>[]
 |f::r=>if n=f.name then r else f::VR r n
theorem TD {l:List Fil}{n:Zm}{f:Fil}(h:ZP l n=some f):∃ a b,l=a++f::b/\f.name=n/\(∀ g∈a,g.name≠n)/\(∀ u,X6 l n u=a++u f::b)/\VR l n=a++b:=by
 induction l with
 |nil=>cases h
 |cons x l C =>
  unfold ZP at h;split at h
  ·rename_i j;injection h with h;subst h;exact⟨[],l,rfl,j.symm,by simp,fun u=>by simp[X6,j],by simp[VR,j]⟩
  ·rename_i j;obtain⟨a,b,rfl,y,z,A,B⟩:=C h;refine⟨x::a,b,rfl,y,fun g w=>?_,fun u=>by simp[X6,j,A],by simp[VR,j,B]⟩;rcases zC.1 w with e|w
   ·subst e;exact fun e=>j e.symm
   ·exact z g w
theorem Zkl {l:List Fil}{n:Zm}:ZP l n=none↔∀ g∈l,g.name≠n:=by
 induction l with
 |nil=>simp[ZP]
 |cons x l u =>
  unfold ZP;split
  ·rename_i h;simp[h]
  ·rename_i h;rw[u];constructor
   ·intro k g j;rcases zC.1 j with e|j
    ·subst e;exact fun e=>h e.symm
    ·exact k g j
   ·intro k g j;exact k g (zA _ j)
def ZaJ (c:UInt8):Bool:=(97<=c&&c<=122) || (65<=c&&c<=90) || c==95 || c==46
def Zar (c:UInt8):Bool:=48<=c&&c<=57
def TS (s:Zm):Bool:=(match s with
 |[]=>false
 |c::r=>ZaJ c&&r.all fun c=>ZaJ c || Zar c)&&decide (s.length<=32)
def Sto.tick (s:Sto):Sto:=if s.crashed then s else if s.count=1 then { s with crashed:=true,count:=0 } else { s with count:=s.count-1 }
def Sto.create (s:Sto)(n:Zm):Int×Sto :=
 if s.tick.crashed then (19,s.tick) else if TS n=false then (4,s.tick) else match ZP s.files n with
 |some _=>(6,s.tick)
 |none=>if 64<=s.files.length then (3,s.tick) else (0,{ s.tick with files:=s.files++[⟨n,[],0⟩] })
def Sto.append (s:Sto)(n t:Zm):Int×Sto :=
 if s.tick.crashed then (19,s.tick) else match ZP s.files n with
 |none=>(5,s.tick)
 |some _=>if s.limit<Zr s.files+t.length then (12,s.tick) else (0,{ s.tick with files:=X6 s.files n fun f=>{ f with text:=f.text++t },peak:=max s.peak (Zr s.files+t.length) })
def Sto.read (s:Sto)(n:Zm)(g k:Int):Zm×Int :=
 if s.tick.crashed then ([],19) else match ZP s.files n with
 |none=>([],5)
 |some f=>if g<0\/(f.text.length:Int)<g\/k<0 then ([],2) else ((f.text.drop g.toNat).take k.toNat,0)
def Sto.sync (s:Sto)(n:Zm):Int×Sto :=
 if s.tick.crashed then (19,s.tick) else match ZP s.files n with
 |none=>(5,s.tick)
 |some _=>(0,{ s.tick with files:=X6 s.files n fun f=>{ f with syn:=f.text.length } })
def Sto.remove (s:Sto)(n:Zm):Int×Sto :=
 if s.tick.crashed then (19,s.tick) else match ZP s.files n with
 |none=>(5,s.tick)
 |some _=>(0,{ s.tick with files:=VR s.files n })
structure Stp (A:List Nat)(H H':Hp):Prop where
 len:H.length<=H'.length
 at':∀ a,a<H.length->a∉A->H'[a]?=H[a]?
theorem Stp.refl (A:List Nat)(H:Hp):Stp A H H:=⟨Nat.le_refl _,fun _ _ _=>rfl⟩
theorem Stp.trans {A B C:List Nat}{H1 j u:Hp}(h:Stp A H1 j)(k:Stp B j u)(z:∀ a∈A,a∈C)(D:∀ a∈B,a∈C\/H1.length<=a):Stp C H1 u :=
 ⟨Nat.le_trans h.len k.len,fun a w y=>(k.at' a (Nat.lt_of_lt_of_le w h.len) fun g=>(D a g).elim y (fun h=>by omega)).trans (h.at' a w fun g=>y (z a g))⟩
theorem Stp.mono {A B:List Nat}{H H':Hp}(h:Stp A H H')(w:∀ a∈A,a∈B):Stp B H H':=⟨h.len,fun a g u=>h.at' a g fun j=>u (w a j)⟩
theorem Stp.set {A:List Nat}(H:Hp){o:Nat}(x:AObj)(h:o∈A):Stp A H (H.set o x):=⟨by simp,fun a j g=>List.getElem?_set_ne (fun e=>by subst e;exact g h)⟩
theorem Stp.push {A:List Nat}(H:Hp)(l:Hp):Stp A H (H++l):=⟨by simp,fun a g h=>List.getElem?_append_left g⟩
theorem Stp.get {A:List Nat}{H H':Hp}(h:Stp A H H'){a:Nat}{x:AObj}(g:H[a]?=some x)(j:a∉A):H'[a]?=some x:=(h.at' a (Zg g) j).trans g
structure FD where
 fil:Fil
 f:Nat
 tx:AV
 born:Nat
def FD.ent (d:FD):AV×AV×Nat:=(.str d.fil.name,.ptr d.f 0,d.born)
def ZI:AV->List Nat
 |.vs _ (.own t _) _=>[t]
 |_=>[]
def FD.own (d:FD):List Nat:=d.f::ZI d.tx
def TxAt (H:Hp)(x:AV)(l:Zm):Prop:=x=.nils/\l=[]\/(∃ t e,x=.vs 1 (.own t e) (l.map bv)/\H[t]?=some (.tok e))\/x=.vs 1 .clip (l.map bv)
structure FileAt (H:Hp)(d:FD):Prop where
 cells:H[d.f]?=some (.cells [d.tx,J zM (d.fil.syn:Int)])
 text:TxAt H d.tx d.fil.text
theorem TxAt.frame {H H':Hp}{x:AV}{l:Zm}(h:TxAt H x l)(g:∀ a∈ZI x,H'[a]?=H[a]?):TxAt H' x l:=by
 rcases h with h|⟨t,e,rfl,j⟩|h
 ·exact .inl h
 ·exact .inr (.inl ⟨t,e,rfl,(g t (by simp[ZI])).trans j⟩)
 ·exact .inr (.inr h)
theorem FileAt.frame {H H':Hp}{d:FD}(h:FileAt H d)(g:∀ a∈d.own,H'[a]?=H[a]?):FileAt H' d :=
 ⟨(g _ (by simp[FD.own])).trans h.cells,h.text.frame fun a j=>g a (by simp[FD.own,j])⟩
theorem FileAt.lt {H:Hp}{d:FD}(h:FileAt H d):∀ a∈d.own,a<H.length:=by
 intro a g;rcases zC.1 g with e|g
 ·subst e;exact Zg h.cells
 ·rcases h.text with ⟨e,_⟩|⟨t,e,j,u⟩|e
  ·rw[e]at g;cases g
  ·rw[j]at g;rw[zB.1 g];exact Zg u
  ·rw[e]at g;cases g
theorem TxAt.len {H:Hp}{x:AV}{l:Zm}(h:TxAt H x l)(e:Nat):Zk (.slice e) x=some (J zM (l.length:Int)):=by
 rcases h with ⟨rfl,rfl⟩|⟨t,g,rfl,j⟩|rfl
 ·rfl
 ·simp[Zk]
 ·simp[Zk]
theorem TxAt.app {H:Hp}{x:AV}{l:Zm}(h:TxAt H x l)(s:Zm)(D:l.length+s.length<=1048576) :
 ∃ z H',Y9 1 1 x (.str s) H=some (z,H')/\TxAt H' z (l++s)/\Stp (ZI x) H H'/\(∀ a∈ZI z,a∈ZI x\/a=H.length)/\(∀ a∈ZI z,a<H'.length):=by
 have j:Xg ((l.map bv).length+(s.map bv).length) 1=true:=by simp[Xg];omega
 have C:Go.Am.elems 1 (.str s) H=some (s.map bv):=rfl;unfold Y9;rw[C];by_cases B:s=[]
 ·subst B;have u:Xg ((l.map bv).length+([]:List AV).length) 1=true:=j;refine⟨x,H,?_,by simpa using h,Stp.refl _ _,fun a g=>.inl g,fun a g=>?_⟩
  ·rcases h with ⟨rfl,rfl⟩|⟨t,e,rfl,y⟩|rfl
   ·simp[YN]
   ·simp only[YN,zL,u,and_self,if_true]
   ·simp only[YN,zL,u,and_self,if_true]
  ·rcases h with ⟨rfl,rfl⟩|⟨t,e,rfl,y⟩|rfl
   ·cases g
   ·rw[zB.1 g];exact Zg y
   ·cases g
 ·have A:s.map bv≠[]:=by simpa using B
  rcases h with ⟨rfl,rfl⟩|⟨t,e,rfl,y⟩|rfl
  ·have w:Xg (s.map bv).length 1=true:=by simp[Xg];simp at D;omega
   refine⟨.vs 1 (.own H.length (s.map bv).length) (s.map bv),H++[.tok (s.map bv).length],by simp only[YN,A,if_false,w,if_true],.inr (.inl ⟨H.length,(s.map bv).length,by simp,by simp⟩),Stp.push _ _,fun a g=>.inr (zB.1 g),fun a g=>by rw[zB.1 g];simp⟩
  ·refine⟨.vs 1 (.own t (e+(s.map bv).length)) (l.map bv++s.map bv),H.set t (.tok (e+(s.map bv).length)),by simp only[YN,j,and_self,if_true,A,if_false,y],.inr (.inl ⟨t,e+(s.map bv).length,by simp,Zq _ y⟩),Stp.set _ _ (by simp[ZI]),fun a g=>.inl (by simpa[ZI]using g),fun a g=>?_⟩;rw[zB.1 g];simp;exact Zg y
  ·refine⟨.vs 1 (.own H.length ((l.map bv).length+(s.map bv).length)) (l.map bv++s.map bv),H++[.tok ((l.map bv).length+(s.map bv).length)],by simp only[YN,j,and_self,if_true,A,if_false],.inr (.inl ⟨H.length,(l.map bv).length+(s.map bv).length,by simp,by simp⟩),Stp.push _ _,fun a g=>.inr (zB.1 g),fun a g=>by rw[zB.1 g];simp⟩
theorem TxAt.part {H:Hp}{x:AV}{l:Zm}(h:TxAt H x l){i j:Nat}(w:i<=j)(g:j<=l.length)(H1:Hp) :
 ∃ y,Yg 1 x (some (J zM (i:Int))) (some (J zM (j:Int))) none=some y/\Qb y H1=some (.str ((l.take j).drop i)):=by
 have u:Ys l.length l.length (some (J zM (i:Int))) (some (J zM (j:Int))) none=some (i,j,l.length):=by
  rw[Za9 (len:=l.length) (cap:=l.length) .i64 .i64 (by omega) (by omega) (by omega)];simp
 have key:∀ t,∃ y,Yg 1 (.vs 1 t (l.map bv)) (some (J zM (i:Int))) (some (J zM (j:Int))) none=some y/\Qb y H1=some (.str ((l.take j).drop i)):=fun t=>by
  unfold Yg;dsimp only;rw[if_pos rfl,List.length_map,u];refine⟨_,rfl,?_⟩;rw[<-List.map_take,<-List.map_drop];unfold Qb;rw[Zv8]
 rcases h with ⟨rfl,rfl⟩|⟨t,e,rfl,z⟩|rfl
 ·have:i=0:=by simp at g;omega
  have:j=0:=by simpa using g
  subst_vars
  refine⟨.nils,?_,rfl⟩;unfold Yg;dsimp only;rw[show Ys 0 0 (some (J zM ((0:Nat):Int))) (some (J zM ((0:Nat):Int))) none=some (0,0,0) from by rw[Za9 (len:=0) (cap:=0) .i64 .i64 (by omega) (by omega) (by omega)];simp]
 ·exact key _
 ·exact key _
theorem ZqX {A B C u:List Nat}{N:Nat}(h:(A++(C++B)).Nodup)(I:u.Nodup)(D:∀ x∈u,x∈C\/N<=x)(z:∀ x∈A++(C++B),x<N):(A++(u++B)).Nodup:=by
 rw[zH]at h ⊢;obtain⟨E,w,y⟩:=h;rw[zH]at w ⊢;obtain⟨K,F,H⟩:=w;refine⟨E,⟨I,F,fun a j b g=>?_⟩,fun a j b g=>?_⟩
 ·rcases D a j with k|k
  ·exact H a k b g
  ·have:=z b (by simp[g]);omega
 ·rcases zF.1 g with g|g
  ·rcases D b g with k|k
   ·exact y a j b (by simp[k])
   ·have:=z a (by simp[j]);omega
  ·exact y a j b (by simp[g])
structure StAt (H:Hp)(o m clk:Nat)(ds:List FD)(s:Sto):Prop where
 files:ds.map FD.fil=s.files
 cells:H[o]?=some (.cells [J zM (s.limit:Int),J zM (Zr s.files:Int),J zM (s.peak:Int),.map m,.bool s.crashed,J zM (s.count:Int)])
 map:H[m]?=some (.map (ds.map FD.ent) clk)
 file:∀ d∈ds,FileAt H d
 nd:(o::m::ds.flatMap FD.own).Nodup
 born:(ds.map FD.born).Nodup/\∀ d∈ds,d.born<clk
def StoreAt (H:Hp)(o:Nat)(s:Sto)(A:List Nat):Prop:=∃ m g h,StAt H o m g h s/\A=o::m::h.flatMap FD.own
structure StoOk (s:Sto):Prop where
 limit:s.limit<=262144
 used:Zr s.files<=s.limit
 peak:s.peak<=s.limit
 name:∀ f∈s.files,TS f.name=true
 nd:(s.files.map Fil.name).Nodup
 syn:∀ f∈s.files,f.syn<=f.text.length
 len:s.files.length<=64
 count:s.count<=9223372036854775807
theorem StAt.lt {H:Hp}{o m j:Nat}{u:List FD}{s:Sto}(h:StAt H o m j u s):∀ a∈o::m::u.flatMap FD.own,a<H.length:=by
 intro a g;rcases zC.1 g with e|g
 ·subst e;exact Zg h.cells
 rcases zC.1 g with e|g
 ·subst e;exact Zg h.map
 obtain⟨d,w,g⟩:=zE.1 g;exact (h.file d w).lt a g
theorem StAt.frame {H H':Hp}{o m g:Nat}{j:List FD}{s:Sto}(h:StAt H o m g j s)(u:∀ a∈o::m::j.flatMap FD.own,H'[a]?=H[a]?):StAt H' o m g j s :=
 ⟨h.files,(u _ (by simp)).trans h.cells,(u _ (by simp)).trans h.map,fun d w=>(h.file d w).frame fun a y=>u a (zA _ (zA _ (zE.2 ⟨d,w,y⟩))),h.nd,h.born⟩
theorem StoreAt.lt {H:Hp}{o:Nat}{s:Sto}{A:List Nat}(h:StoreAt H o s A):∀ a∈A,a<H.length:=by
 obtain⟨m,g,u,j,rfl⟩:=h;exact j.lt
theorem StoreAt.frame {H H':Hp}{o:Nat}{s:Sto}{A:List Nat}(h:StoreAt H o s A)(w:∀ a∈A,H'[a]?=H[a]?):StoreAt H' o s A:=by
 obtain⟨m,g,j,u,rfl⟩:=h;exact⟨m,g,j,u.frame w,rfl⟩
theorem StoreAt.stp {H H':Hp}{o:Nat}{s:Sto}{A B:List Nat}(h:StoreAt H o s A)(u:Stp B H H')(j:∀ a∈A,a∉B):StoreAt H' o s A :=
 h.frame fun a g=>u.at' a (h.lt a g) (j a g)
theorem StAt.own_lt {H:Hp}{o m g:Nat}{j:List FD}{s:Sto}(h:StAt H o m g j s){d:FD}(z:d∈j){a:Nat}(y:a∈d.own):a≠o/\a≠m:=by
 have:=h.nd;rw[zG,zG]at this;obtain⟨u,w,_⟩:=this;have hm:a∈j.flatMap FD.own:=zE.2 ⟨d,z,y⟩;exact⟨fun e=>u (by rw[<-e];exact zA _ hm),fun e=>w (by rw[<-e];exact hm)⟩
theorem StAt.om {H:Hp}{o m g:Nat}{j:List FD}{s:Sto}(h:StAt H o m g j s):o≠m:=by
 have:=h.nd;rw[zG]at this;exact fun e=>this.1 (by simp[e])
theorem Zib:∀ (g:List FD) (n:Zm) (i:Nat),ZP (g.map FD.fil) n=none->YT (.str n) (g.map FD.ent) i=some none:=by
 intro g n
 induction g with
 |nil=>intro i _;rfl
 |cons d g u =>
  intro i h;rw[zD,ZP]at h;split at h
  ·cases h
  ·rename_i j;rw[zD,YT];have:JC (.str n) d.ent.1=some (n==d.fil.name):=rfl;rw[this,show (n==d.fil.name)=false by simpa using j];exact u _ h
theorem En:∀ (a:List FD) (d:FD) (b:List FD) (n:Zm) (i:Nat),d.fil.name=n->(∀ g∈a,g.fil.name≠n)->YT (.str n) ((a++d::b).map FD.ent) i=some (some (i+a.length,.ptr d.f 0)):=by
 intro a
 induction a with
 |nil =>
  intro d b n i h _;rw[List.nil_append,zD,YT];have:JC (.str n) d.ent.1=some (n==d.fil.name):=rfl;rw[this,h,beq_self_eq_true];rfl
 |cons x a w =>
  intro d b n i h j;rw[zI,zD,YT];have:JC (.str n) x.ent.1=some (n==x.fil.name):=rfl;rw[this,show (n==x.fil.name)=false by simpa using fun e=>j x (by simp) e.symm];dsimp only;rw[w d b n (i+1) h fun g u=>j g (zA _ u)];simp only[List.length_cons];congr 3;omega
theorem Zvf {j:List FD}{n:Zm}{f:Fil}(h:ZP (j.map FD.fil) n=some f):∃ a d b,j=a++d::b/\d.fil=f/\d.fil.name=n/\(∀ g∈a,g.fil.name≠n):=by
 induction j with
 |nil=>cases h
 |cons d j B =>
  rw[zD,ZP]at h;split at h
  ·rename_i w;injection h with h;exact⟨[],d,j,rfl,h,w.symm,by simp⟩
  ·rename_i w;obtain⟨a,d',b,rfl,y,z,A⟩:=B h;refine⟨d::a,d',b,rfl,y,z,fun g u=>?_⟩;rcases zC.1 u with e|u
   ·subst e;exact fun e=>w e.symm
   ·exact A g u
theorem CR (a:List FD)(d:FD)(b:List FD)(n:Zm)(u:Fil->Fil)(j:d.fil.name=n)(h:∀ g∈a,g.fil.name≠n):X6 ((a++d::b).map FD.fil) n u=a.map FD.fil++u d.fil::b.map FD.fil:=by
 induction a with
 |nil=>simp[X6,j]
 |cons x a y =>
  rw[zI,zD,X6,if_neg (fun e=>h x (by simp) e.symm),y fun g w=>h g (zA _ w)];rfl
theorem Zy8 (a:List FD)(d:FD)(b:List FD)(n:Zm)(j:d.fil.name=n)(h:∀ g∈a,g.fil.name≠n):VR ((a++d::b).map FD.fil) n=a.map FD.fil++b.map FD.fil:=by
 induction a with
 |nil=>simp[VR,j]
 |cons x a w =>
  rw[zI,zD,VR,if_neg (fun e=>h x (by simp) e.symm),w fun g u=>h g (zA _ u)];rfl
theorem StAt.look {H:Hp}{o m u:Nat}{j:List FD}{s:Sto}(h:StAt H o m u j s)(n:Zm) :
 (ZP s.files n=none/\Y7 .string .nilp false (.map m) (.str n) H=some .nilp)\/∃ a d b,j=a++d::b/\d.fil.name=n/\(∀ g∈a,g.fil.name≠n)/\ZP s.files n=some d.fil/\Y7 .string .nilp false (.map m) (.str n) H=some (.ptr d.f 0):=by
 have z:Xk (.map m) H=some (j.map FD.ent):=by unfold Xk;dsimp only;rw[h.map]
 have hk:Wn .string (.str n)=true:=rfl;rw[<-h.files]
 cases A:ZP (j.map FD.fil) n with
 |none =>
  refine .inl ⟨rfl,?_⟩;unfold Y7;rw[if_pos hk,z];dsimp only;rw[Zib j n 0 A];rfl
 |some f =>
  obtain⟨a,d,b,rfl,B,w,y⟩:=Zvf A;refine .inr ⟨a,d,b,rfl,w,y,by rw[B],?_⟩;unfold Y7;rw[if_pos hk,z];dsimp only;rw[En a d b n 0 w y];rfl
theorem StAt.upd {H H':Hp}{o m D:Nat}{a b:List FD}{d d':FD}{s s':Sto}(h:StAt H o m D (a++d::b) s)
 (g:H'[o]?=some (.cells [J zM (s'.limit:Int),J zM (Zr s'.files:Int),J zM (s'.peak:Int),.map m,.bool s'.crashed,J zM (s'.count:Int)]))
 (F:H'[m]?=H[m]?) (w:d'.ent=d.ent) (j:s'.files=a.map FD.fil++d'.fil::b.map FD.fil) (M:FileAt H' d') (U:Stp (o::d.own) H H')
 (N:d'.own.Nodup) (I:∀ x∈d'.own,x∈d.own\/H.length<=x):StAt H' o m D (a++d'::b) s' where
 files:=by rw[j];simp
 cells:=g
 map:=by rw[F,h.map];simp[w]
 file:=fun x O=>by
  have B:∀ y∈a++b,FileAt H' y:=fun y S=>by
   have C:y∈a++d::b:=by rcases zF.1 S with k|k <;> simp[k]
   refine (h.file y C).frame fun z K=>U.at' z ((h.file y C).lt z K) fun u=>?_;rcases zC.1 u with e|u
   ·exact (h.own_lt C K).1 e
   ·have:=h.nd;rw[zG,zG,zJ,zK,zH,zH]at this;obtain⟨_,_,_,⟨_,_,V⟩,W⟩:=this;rcases zF.1 S with k|k
    ·exact W z (zE.2 ⟨y,k,K⟩) z (by simp[u]) rfl
    ·exact V z u z (zE.2 ⟨y,k,K⟩) rfl
  rcases zF.1 O with k|k
  ·exact B x (by simp[k])
  ·rcases zC.1 k with e|k
   ·subst e;exact M
   ·exact B x (by simp[k])
 nd:=by
  have Q:=h.nd;have E:=h.lt;rw[zJ,zK]at Q E ⊢;exact ZqX (A:=o::m::a.flatMap FD.own) Q N I E
 born:=by
  have R:d'.born=d.born:=by have:=congrArg (fun e=>e.2.2) w;exact this
  obtain⟨T,L⟩:=h.born;refine⟨by simpa[R]using T,fun x O=>?_⟩;rcases zF.1 O with k|k
  ·exact L x (by simp[k])
  ·rcases zC.1 k with e|k
   ·subst e;rw[R];exact L d (by simp)
   ·exact L x (by simp[k])
end Go.Am
