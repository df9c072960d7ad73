/- The store -/
import Derived.Test.YtnaneekpogohaaaGreatDoorHmXx
import Derived.Test.YtnaneekpogohaaaGreatDoorHmBdx
open Go.Am.AV renaming int->zM
open Go.IntKind renaming i64->J
open List renaming mem_cons_of_mem->zA,mem_singleton->zB,mem_cons->zC,map_cons->zD,mem_flatMap->zE,mem_append->zF,nodup_cons->zG,nodup_append->zH,cons_append->zI,flatMap_append->zJ,flatMap_cons->zK,map_nil->zL
namespace Go.Am
set_option linter.unusedSectionVars false
abbrev Zm:=List UInt8
structure Fil where
 name:Zm
 text:Zm
 syn:Nat
structure Sto where
 limit:Nat
 peak:Nat
 files:List Fil
 crashed:Bool
 count:Nat
def Zv:List Fil->Nat
 |[]=>0
 |f::l=>f.text.length+Zv l
theorem XJ (a b:List Fil):Zv (a++b)=Zv a+Zv b:=by
 induction a with
 |nil=>simp[Zv]
 |cons f a g=>simp only[zI,Zv,g];omega
def ZQ (l:List Fil)(n:Zm):Option Fil:=match l with
 |[]=>none
 |f::r=>if n=f.name then some f else ZQ r n
def Jb (l:List Fil)(n:Zm)(g:Fil->Fil):List Fil:=match l with
 |[]=>[]
 |f::r=>if n=f.name then g f::r else f::Jb r n g
def Vv (l:List Fil)(n:Zm):List Fil:=match l with
 |[]=>[]
 |f::r=>if n=f.name then r else f::Vv r n
theorem Ob {l:List Fil}{n:Zm}{f:Fil}(h:ZQ l n=some f):∃ a b,l=a++f::b/\f.name=n/\(∀ g∈a,g.name≠n)/\(∀ u,Jb l n u=a++u f::b)/\Vv l n=a++b:=by
 induction l with
 |nil=>cases h
 |cons x l C =>
  unfold ZQ at h;split at h
  ·rename_i j;injection h with h;subst h;exact⟨[],l,rfl,j.symm,by simp,fun u=>by simp[Jb,j],by simp[Vv,j]⟩
  ·rename_i j;obtain⟨a,b,rfl,y,z,A,B⟩:=C h;refine⟨x::a,b,rfl,y,fun g w=>?_,fun u=>by simp[Jb,j,A],by simp[Vv,j,B]⟩;rcases zC.1 w with e|w
   ·subst e;exact fun e=>j e.symm
   ·exact z g w
theorem Zjj {l:List Fil}{n:Zm}:ZQ l n=none↔∀ g∈l,g.name≠n:=by
 induction l with
 |nil=>simp[ZQ]
 |cons x l u =>
  unfold ZQ;split
  ·rename_i h;simp[h]
  ·rename_i h;rw[u];constructor
   ·intro k g j;rcases zC.1 j with e|j
    ·subst e;exact fun e=>h e.symm
    ·exact k g j
   ·intro k g j;exact k g (zA _ j)
def Of (c:UInt8):Bool:=(97<=c&&c<=122) || (65<=c&&c<=90) || c==95 || c==46
def IR (c:UInt8):Bool:=48<=c&&c<=57
def RW (s:Zm):Bool:=(match s with
 |[]=>false
 |c::r=>Of c&&r.all fun c=>Of c || IR c)&&decide (s.length<=32)
def Sto.tick (s:Sto):Sto:=if s.crashed then s else if s.count=1 then { s with crashed:=true,count:=0 } else { s with count:=s.count-1 }
def Sto.create (s:Sto)(n:Zm):Int×Sto :=
 if s.tick.crashed then (19,s.tick) else if RW n=false then (4,s.tick) else match ZQ s.files n with
 |some _=>(6,s.tick)
 |none=>if 64<=s.files.length then (3,s.tick) else (0,{ s.tick with files:=s.files++[⟨n,[],0⟩] })
def Sto.append (s:Sto)(n t:Zm):Int×Sto :=
 if s.tick.crashed then (19,s.tick) else match ZQ s.files n with
 |none=>(5,s.tick)
 |some _=>if s.limit<Zv s.files+t.length then (12,s.tick) else (0,{ s.tick with files:=Jb s.files n fun f=>{ f with text:=f.text++t },peak:=max s.peak (Zv s.files+t.length) })
def Sto.read (s:Sto)(n:Zm)(g k:Int):Zm×Int :=
 if s.tick.crashed then ([],19) else match ZQ s.files n with
 |none=>([],5)
 |some f=>if g<0\/(f.text.length:Int)<g\/k<0 then ([],2) else ((f.text.drop g.toNat).take k.toNat,0)
def Sto.sync (s:Sto)(n:Zm):Int×Sto :=
 if s.tick.crashed then (19,s.tick) else match ZQ s.files n with
 |none=>(5,s.tick)
 |some _=>(0,{ s.tick with files:=Jb s.files n fun f=>{ f with syn:=f.text.length } })
def Sto.remove (s:Sto)(n:Zm):Int×Sto :=
 if s.tick.crashed then (19,s.tick) else match ZQ s.files n with
 |none=>(5,s.tick)
 |some _=>(0,{ s.tick with files:=Vv s.files n })
structure Stp (A:List Nat)(H H':Hp):Prop where
 len:H.length<=H'.length
 at':∀ a,a<H.length->a∉A->H'[a]?=H[a]?
theorem Stp.refl (A:List Nat)(H:Hp):Stp A H H:=⟨Nat.le_refl _,fun _ _ _=>rfl⟩
theorem Stp.trans {A B C:List Nat}{H1 j u:Hp}(h:Stp A H1 j)(k:Stp B j u)(z:∀ a∈A,a∈C)(D:∀ a∈B,a∈C\/H1.length<=a):Stp C H1 u :=
 ⟨Nat.le_trans h.len k.len,fun a w y=>(k.at' a (Nat.lt_of_lt_of_le w h.len) fun g=>(D a g).elim y (fun h=>by omega)).trans (h.at' a w fun g=>y (z a g))⟩
theorem Stp.mono {A B:List Nat}{H H':Hp}(h:Stp A H H')(w:∀ a∈A,a∈B):Stp B H H':=⟨h.len,fun a g u=>h.at' a g fun j=>u (w a j)⟩
theorem Stp.set {A:List Nat}(H:Hp){o:Nat}(x:AObj)(h:o∈A):Stp A H (H.set o x):=⟨by simp,fun a j g=>List.getElem?_set_ne (fun e=>by subst e;exact g h)⟩
theorem Stp.push {A:List Nat}(H:Hp)(l:Hp):Stp A H (H++l):=⟨by simp,fun a g h=>List.getElem?_append_left g⟩
theorem Stp.get {A:List Nat}{H H':Hp}(h:Stp A H H'){a:Nat}{x:AObj}(g:H[a]?=some x)(j:a∉A):H'[a]?=some x:=(h.at' a (Zh g) j).trans g
structure FD where
 fil:Fil
 f:Nat
 tx:AV
 born:Nat
def FD.ent (d:FD):AV×AV×Nat:=(.str d.fil.name,.ptr d.f 0,d.born)
def ZI:AV->List Nat
 |.vs _ (.own t _) _=>[t]
 |_=>[]
def FD.own (d:FD):List Nat:=d.f::ZI d.tx
def TxAt (H:Hp)(x:AV)(l:Zm):Prop:=x=.nils/\l=[]\/(∃ t e,x=.vs 1 (.own t e) (l.map bv)/\H[t]?=some (.tok e))\/x=.vs 1 .clip (l.map bv)
structure FileAt (H:Hp)(d:FD):Prop where
 cells:H[d.f]?=some (.cells [d.tx,zM J (d.fil.syn:Int)])
 text:TxAt H d.tx d.fil.text
theorem TxAt.frame {H H':Hp}{x:AV}{l:Zm}(h:TxAt H x l)(g:∀ a∈ZI x,H'[a]?=H[a]?):TxAt H' x l:=by
 rcases h with h|⟨t,e,rfl,j⟩|h
 ·exact .inl h
 ·exact .inr (.inl ⟨t,e,rfl,(g t (by simp[ZI])).trans j⟩)
 ·exact .inr (.inr h)
theorem FileAt.frame {H H':Hp}{d:FD}(h:FileAt H d)(g:∀ a∈d.own,H'[a]?=H[a]?):FileAt H' d :=
 ⟨(g _ (by simp[FD.own])).trans h.cells,h.text.frame fun a j=>g a (by simp[FD.own,j])⟩
theorem FileAt.lt {H:Hp}{d:FD}(h:FileAt H d):∀ a∈d.own,a<H.length:=by
 intro a g;rcases zC.1 g with e|g
 ·subst e;exact Zh h.cells
 ·rcases h.text with ⟨e,_⟩|⟨t,e,j,u⟩|e
  ·rw[e]at g;cases g
  ·rw[j]at g;rw[zB.1 g];exact Zh u
  ·rw[e]at g;cases g
theorem TxAt.len {H:Hp}{x:AV}{l:Zm}(h:TxAt H x l)(e:Nat):Zk (.slice e) x=some (zM J (l.length:Int)):=by
 rcases h with ⟨rfl,rfl⟩|⟨t,g,rfl,j⟩|rfl
 ·rfl
 ·simp[Zk]
 ·simp[Zk]
theorem TxAt.app {H:Hp}{x:AV}{l:Zm}(h:TxAt H x l)(s:Zm)(D:l.length+s.length<=1048576) :
 ∃ z H',Y7 1 1 x (.str s) H=some (z,H')/\TxAt H' z (l++s)/\Stp (ZI x) H H'/\(∀ a∈ZI z,a∈ZI x\/a=H.length)/\(∀ a∈ZI z,a<H'.length):=by
 have j:X9 ((l.map bv).length+(s.map bv).length) 1=true:=by simp[X9];omega
 have C:Go.Am.elems 1 (.str s) H=some (s.map bv):=rfl;unfold Y7;rw[C];by_cases B:s=[]
 ·subst B;have u:X9 ((l.map bv).length+([]:List AV).length) 1=true:=j;refine⟨x,H,?_,by simpa using h,Stp.refl _ _,fun a g=>.inl g,fun a g=>?_⟩
  ·rcases h with ⟨rfl,rfl⟩|⟨t,e,rfl,y⟩|rfl
   ·simp[YL]
   ·simp only[YL,zL,u,and_self,if_true]
   ·simp only[YL,zL,u,and_self,if_true]
  ·rcases h with ⟨rfl,rfl⟩|⟨t,e,rfl,y⟩|rfl
   ·cases g
   ·rw[zB.1 g];exact Zh y
   ·cases g
 ·have A:s.map bv≠[]:=by simpa using B
  rcases h with ⟨rfl,rfl⟩|⟨t,e,rfl,y⟩|rfl
  ·have w:X9 (s.map bv).length 1=true:=by simp[X9];simp at D;omega
   refine⟨.vs 1 (.own H.length (s.map bv).length) (s.map bv),H++[.tok (s.map bv).length],by simp only[YL,A,if_false,w,if_true],.inr (.inl ⟨H.length,(s.map bv).length,by simp,by simp⟩),Stp.push _ _,fun a g=>.inr (zB.1 g),fun a g=>by rw[zB.1 g];simp⟩
  ·refine⟨.vs 1 (.own t (e+(s.map bv).length)) (l.map bv++s.map bv),H.set t (.tok (e+(s.map bv).length)),by simp only[YL,j,and_self,if_true,A,if_false,y],.inr (.inl ⟨t,e+(s.map bv).length,by simp,Zs _ y⟩),Stp.set _ _ (by simp[ZI]),fun a g=>.inl (by simpa[ZI]using g),fun a g=>?_⟩;rw[zB.1 g];simp;exact Zh y
  ·refine⟨.vs 1 (.own H.length ((l.map bv).length+(s.map bv).length)) (l.map bv++s.map bv),H++[.tok ((l.map bv).length+(s.map bv).length)],by simp only[YL,j,and_self,if_true,A,if_false],.inr (.inl ⟨H.length,(l.map bv).length+(s.map bv).length,by simp,by simp⟩),Stp.push _ _,fun a g=>.inr (zB.1 g),fun a g=>by rw[zB.1 g];simp⟩
theorem TxAt.part {H:Hp}{x:AV}{l:Zm}(h:TxAt H x l){i j:Nat}(w:i<=j)(g:j<=l.length)(H1:Hp) :
 ∃ y,Yx 1 x (some (zM J (i:Int))) (some (zM J (j:Int))) none=some y/\UG y H1=some (.str ((l.take j).drop i)):=by
 have u:YM l.length l.length (some (zM J (i:Int))) (some (zM J (j:Int))) none=some (i,j,l.length):=by
  rw[IA (len:=l.length) (cap:=l.length) .i64 .i64 (by omega) (by omega) (by omega)];simp
 have key:∀ t,∃ y,Yx 1 (.vs 1 t (l.map bv)) (some (zM J (i:Int))) (some (zM J (j:Int))) none=some y/\UG y H1=some (.str ((l.take j).drop i)):=fun t=>by
  unfold Yx;dsimp only;rw[if_pos rfl,List.length_map,u];refine⟨_,rfl,?_⟩;rw[<-List.map_take,<-List.map_drop];unfold UG;rw[Zu2]
 rcases h with ⟨rfl,rfl⟩|⟨t,e,rfl,z⟩|rfl
 ·have:i=0:=by simp at g;omega
  have:j=0:=by simpa using g
  subst_vars
  refine⟨.nils,?_,rfl⟩;unfold Yx;dsimp only;rw[show YM 0 0 (some (zM J ((0:Nat):Int))) (some (zM J ((0:Nat):Int))) none=some (0,0,0) from by rw[IA (len:=0) (cap:=0) .i64 .i64 (by omega) (by omega) (by omega)];simp]
 ·exact key _
 ·exact key _
theorem ZpY {A B C u:List Nat}{N:Nat}(h:(A++(C++B)).Nodup)(K:u.Nodup)(D:∀ x∈u,x∈C\/N<=x)(z:∀ x∈A++(C++B),x<N):(A++(u++B)).Nodup:=by
 rw[zH]at h ⊢;obtain⟨E,w,y⟩:=h;rw[zH]at w ⊢;obtain⟨L,F,H⟩:=w;refine⟨E,⟨K,F,fun a j b g=>?_⟩,fun a j b g=>?_⟩
 ·rcases D a j with k|k
  ·exact H a k b g
  ·have:=z b (by simp[g]);omega
 ·rcases zF.1 g with g|g
  ·rcases D b g with k|k
   ·exact y a j b (by simp[k])
   ·have:=z a (by simp[j]);omega
  ·exact y a j b (by simp[g])
structure StAt (H:Hp)(o m clk:Nat)(ds:List FD)(s:Sto):Prop where
 files:ds.map FD.fil=s.files
 cells:H[o]?=some (.cells [zM J (s.limit:Int),zM J (Zv s.files:Int),zM J (s.peak:Int),.map m,.bool s.crashed,zM J (s.count:Int)])
 map:H[m]?=some (.map (ds.map FD.ent) clk)
 file:∀ d∈ds,FileAt H d
 nd:(o::m::ds.flatMap FD.own).Nodup
 born:(ds.map FD.born).Nodup/\∀ d∈ds,d.born<clk
def StoreAt (H:Hp)(o:Nat)(s:Sto)(A:List Nat):Prop:=∃ m g h,StAt H o m g h s/\A=o::m::h.flatMap FD.own
structure StoOk (s:Sto):Prop where
 limit:s.limit<=262144
 used:Zv s.files<=s.limit
 peak:s.peak<=s.limit
 name:∀ f∈s.files,RW f.name=true
 nd:(s.files.map Fil.name).Nodup
 syn:∀ f∈s.files,f.syn<=f.text.length
 len:s.files.length<=64
 count:s.count<=9223372036854775807
theorem StAt.lt {H:Hp}{o m j:Nat}{u:List FD}{s:Sto}(h:StAt H o m j u s):∀ a∈o::m::u.flatMap FD.own,a<H.length:=by
 intro a g;rcases zC.1 g with e|g
 ·subst e;exact Zh h.cells
 rcases zC.1 g with e|g
 ·subst e;exact Zh h.map
 obtain⟨d,w,g⟩:=zE.1 g;exact (h.file d w).lt a g
theorem StAt.frame {H H':Hp}{o m g:Nat}{j:List FD}{s:Sto}(h:StAt H o m g j s)(u:∀ a∈o::m::j.flatMap FD.own,H'[a]?=H[a]?):StAt H' o m g j s :=
 ⟨h.files,(u _ (by simp)).trans h.cells,(u _ (by simp)).trans h.map,fun d w=>(h.file d w).frame fun a y=>u a (zA _ (zA _ (zE.2 ⟨d,w,y⟩))),h.nd,h.born⟩
theorem StoreAt.lt {H:Hp}{o:Nat}{s:Sto}{A:List Nat}(h:StoreAt H o s A):∀ a∈A,a<H.length:=by
 obtain⟨m,g,u,j,rfl⟩:=h;exact j.lt
theorem StoreAt.frame {H H':Hp}{o:Nat}{s:Sto}{A:List Nat}(h:StoreAt H o s A)(w:∀ a∈A,H'[a]?=H[a]?):StoreAt H' o s A:=by
 obtain⟨m,g,j,u,rfl⟩:=h;exact⟨m,g,j,u.frame w,rfl⟩
theorem StoreAt.stp {H H':Hp}{o:Nat}{s:Sto}{A B:List Nat}(h:StoreAt H o s A)(u:Stp B H H')(j:∀ a∈A,a∉B):StoreAt H' o s A :=
 h.frame fun a g=>u.at' a (h.lt a g) (j a g)
theorem StAt.own_lt {H:Hp}{o m g:Nat}{j:List FD}{s:Sto}(h:StAt H o m g j s){d:FD}(z:d∈j){a:Nat}(y:a∈d.own):a≠o/\a≠m:=by
 have:=h.nd;rw[zG,zG]at this;obtain⟨u,w,_⟩:=this;have hm:a∈j.flatMap FD.own:=zE.2 ⟨d,z,y⟩;exact⟨fun e=>u (by rw[<-e];exact zA _ hm),fun e=>w (by rw[<-e];exact hm)⟩
theorem StAt.om {H:Hp}{o m g:Nat}{j:List FD}{s:Sto}(h:StAt H o m g j s):o≠m:=by
 have:=h.nd;rw[zG]at this;exact fun e=>this.1 (by simp[e])
theorem Zh4:∀ (g:List FD) (n:Zm) (i:Nat),ZQ (g.map FD.fil) n=none->YQ (.str n) (g.map FD.ent) i=some none:=by
 intro g n
 induction g with
 |nil=>intro i _;rfl
 |cons d g u =>
  intro i h;rw[zD,ZQ]at h;split at h
  ·cases h
  ·rename_i j;rw[zD,YQ];have:J4 (.str n) d.ent.1=some (n==d.fil.name):=rfl;rw[this,show (n==d.fil.name)=false by simpa using j];exact u _ h
theorem L7:∀ (a:List FD) (d:FD) (b:List FD) (n:Zm) (i:Nat),d.fil.name=n->(∀ g∈a,g.fil.name≠n)->YQ (.str n) ((a++d::b).map FD.ent) i=some (some (i+a.length,.ptr d.f 0)):=by
 intro a
 induction a with
 |nil =>
  intro d b n i h _;rw[List.nil_append,zD,YQ];have:J4 (.str n) d.ent.1=some (n==d.fil.name):=rfl;rw[this,h,beq_self_eq_true];rfl
 |cons x a w =>
  intro d b n i h j;rw[zI,zD,YQ];have:J4 (.str n) x.ent.1=some (n==x.fil.name):=rfl;rw[this,show (n==x.fil.name)=false by simpa using fun e=>j x (by simp) e.symm];dsimp only;rw[w d b n (i+1) h fun g u=>j g (zA _ u)];simp only[List.length_cons];congr 3;omega
theorem Zu9 {j:List FD}{n:Zm}{f:Fil}(h:ZQ (j.map FD.fil) n=some f):∃ a d b,j=a++d::b/\d.fil=f/\d.fil.name=n/\(∀ g∈a,g.fil.name≠n):=by
 induction j with
 |nil=>cases h
 |cons d j B =>
  rw[zD,ZQ]at h;split at h
  ·rename_i w;injection h with h;exact⟨[],d,j,rfl,h,w.symm,by simp⟩
  ·rename_i w;obtain⟨a,d',b,rfl,y,z,A⟩:=B h;refine⟨d::a,d',b,rfl,y,z,fun g u=>?_⟩;rcases zC.1 u with e|u
   ·subst e;exact fun e=>w e.symm
   ·exact A g u
theorem OZ (a:List FD)(d:FD)(b:List FD)(n:Zm)(u:Fil->Fil)(j:d.fil.name=n)(h:∀ g∈a,g.fil.name≠n):Jb ((a++d::b).map FD.fil) n u=a.map FD.fil++u d.fil::b.map FD.fil:=by
 induction a with
 |nil=>simp[Jb,j]
 |cons x a y =>
  rw[zI,zD,Jb,if_neg (fun e=>h x (by simp) e.symm),y fun g w=>h g (zA _ w)];rfl
theorem ZwY (a:List FD)(d:FD)(b:List FD)(n:Zm)(j:d.fil.name=n)(h:∀ g∈a,g.fil.name≠n):Vv ((a++d::b).map FD.fil) n=a.map FD.fil++b.map FD.fil:=by
 induction a with
 |nil=>simp[Vv,j]
 |cons x a w =>
  rw[zI,zD,Vv,if_neg (fun e=>h x (by simp) e.symm),w fun g u=>h g (zA _ u)];rfl
theorem StAt.look {H:Hp}{o m u:Nat}{j:List FD}{s:Sto}(h:StAt H o m u j s)(n:Zm) :
 (ZQ s.files n=none/\Y9 .string .nilp false (.map m) (.str n) H=some .nilp)\/∃ a d b,j=a++d::b/\d.fil.name=n/\(∀ g∈a,g.fil.name≠n)/\ZQ s.files n=some d.fil/\Y9 .string .nilp false (.map m) (.str n) H=some (.ptr d.f 0):=by
 have z:Xe (.map m) H=some (j.map FD.ent):=by unfold Xe;dsimp only;rw[h.map]
 have hk:Wf .string (.str n)=true:=rfl;rw[<-h.files]
 cases A:ZQ (j.map FD.fil) n with
 |none =>
  refine .inl ⟨rfl,?_⟩;unfold Y9;rw[if_pos hk,z];dsimp only;rw[Zh4 j n 0 A];rfl
 |some f =>
  obtain⟨a,d,b,rfl,B,w,y⟩:=Zu9 A;refine .inr ⟨a,d,b,rfl,w,y,by rw[B],?_⟩;unfold Y9;rw[if_pos hk,z];dsimp only;rw[L7 a d b n 0 w y];rfl
theorem StAt.upd {H H':Hp}{o m D:Nat}{a b:List FD}{d d':FD}{s s':Sto}(h:StAt H o m D (a++d::b) s)
 (g:H'[o]?=some (.cells [zM J (s'.limit:Int),zM J (Zv s'.files:Int),zM J (s'.peak:Int),.map m,.bool s'.crashed,zM J (s'.count:Int)]))
 (F:H'[m]?=H[m]?) (w:d'.ent=d.ent) (j:s'.files=a.map FD.fil++d'.fil::b.map FD.fil) (N:FileAt H' d') (V:Stp (o::d.own) H H')
 (O:d'.own.Nodup) (K:∀ x∈d'.own,x∈d.own\/H.length<=x):StAt H' o m D (a++d'::b) s' where
 files:=by rw[j];simp
 cells:=g
 map:=by rw[F,h.map];simp[w]
 file:=fun x Q=>by
  have B:∀ y∈a++b,FileAt H' y:=fun y T=>by
   have C:y∈a++d::b:=by rcases zF.1 T with k|k <;> simp[k]
   refine (h.file y C).frame fun z L=>V.at' z ((h.file y C).lt z L) fun u=>?_;rcases zC.1 u with e|u
   ·exact (h.own_lt C L).1 e
   ·have:=h.nd;rw[zG,zG,zJ,zK,zH,zH]at this;obtain⟨_,_,_,⟨_,_,W⟩,X⟩:=this;rcases zF.1 T with k|k
    ·exact X z (zE.2 ⟨y,k,L⟩) z (by simp[u]) rfl
    ·exact W z u z (zE.2 ⟨y,k,L⟩) rfl
  rcases zF.1 Q with k|k
  ·exact B x (by simp[k])
  ·rcases zC.1 k with e|k
   ·subst e;exact N
   ·exact B x (by simp[k])
 nd:=by
  have R:=h.nd;have E:=h.lt;rw[zJ,zK]at R E ⊢;exact ZpY (A:=o::m::a.flatMap FD.own) R O K E
 born:=by
  have S:d'.born=d.born:=by have:=congrArg (fun e=>e.2.2) w;exact this
  obtain⟨U,M⟩:=h.born;refine⟨by simpa[S]using U,fun x Q=>?_⟩;rcases zF.1 Q with k|k
  ·exact M x (by simp[k])
  ·rcases zC.1 k with e|k
   ·subst e;rw[S];exact M d (by simp)
   ·exact M x (by simp[k])
end Go.Am
