/- The store -/
import Derived.Test.YtnaneekpogohaaaGreatDoorHmXx
import Derived.Test.YtnaneekpogohaaaGreatDoorHmBdx
open List renaming mem_cons_of_mem->zA,mem_singleton->zB,mem_cons->zC,map_cons->zD,mem_flatMap->zE,mem_append->zF,nodup_cons->zG,nodup_append->zH,cons_append->zI,flatMap_append->zJ,flatMap_cons->zK,map_nil->zL
namespace Go.Am
set_option linter.unusedSectionVars false
abbrev Zo:=List UInt8
structure Fil where
 name:Zo
 text:Zo
 syn:Nat
structure Sto where
 limit:Nat
 peak:Nat
 files:List Fil
 crashed:Bool
 count:Nat
def Zs:List Fil->Nat
 |[]=>0
 |f::l=>f.text.length+Zs l
theorem W9 (a b:List Fil):Zs (a++b)=Zs a+Zs b:=by
 induction a with
 |nil=>simp[Zs]
 |cons f a g=>simp only[zI,Zs,g];omega
def ZQ (l:List Fil)(n:Zo):Option Fil:=match l with
 |[]=>none
 |f::r=>if n=f.name then some f else ZQ r n
def Fy (l:List Fil)(n:Zo)(g:Fil->Fil):List Fil:=match l with
 |[]=>[]
 |f::r=>if n=f.name then g f::r else f::Fy r n g
def Vc (l:List Fil)(n:Zo):List Fil:=match l with
 |[]=>[]
 |f::r=>if n=f.name then r else f::Vc r n
theorem Ztt {l:List Fil}{n:Zo}:ZQ l n=none↔∀ g∈l,g.name≠n:=by
 induction l with
 |nil=>simp[ZQ]
 |cons x l u =>
  unfold ZQ;split
  ·rename_i h;simp[h]
  ·rename_i h;rw[u];constructor
   ·intro k g j;rcases zC.1 j with e|j
    ·subst e;exact fun e=>h e.symm
    ·exact k g j
   ·intro k g j;exact k g (zA _ j)
def Zab (c:UInt8):Bool:=(97<=c&&c<=122) || (65<=c&&c<=90) || c==95 || c==46
def Zm6 (c:UInt8):Bool:=48<=c&&c<=57
def F5 (s:Zo):Bool:=(match s with
 |[]=>false
 |c::r=>Zab c&&r.all fun c=>Zab c || Zm6 c)&&decide (s.length<=32)
def Sto.tick (s:Sto):Sto:=if s.crashed then s else if s.count=1 then { s with crashed:=true,count:=0 } else { s with count:=s.count-1 }
def Sto.create (s:Sto)(n:Zo):Int×Sto :=
 if s.tick.crashed then (19,s.tick) else if F5 n=false then (4,s.tick) else match ZQ s.files n with
 |some _=>(6,s.tick)
 |none=>if 64<=s.files.length then (3,s.tick) else (0,{ s.tick with files:=s.files++[⟨n,[],0⟩] })
def Sto.append (s:Sto)(n t:Zo):Int×Sto :=
 if s.tick.crashed then (19,s.tick) else match ZQ s.files n with
 |none=>(5,s.tick)
 |some _=>if s.limit<Zs s.files+t.length then (12,s.tick) else (0,{ s.tick with files:=Fy s.files n fun f=>{ f with text:=f.text++t },peak:=max s.peak (Zs s.files+t.length) })
def Sto.read (s:Sto)(n:Zo)(g k:Int):Zo×Int :=
 if s.tick.crashed then ([],19) else match ZQ s.files n with
 |none=>([],5)
 |some f=>if g<0\/(f.text.length:Int)<g\/k<0 then ([],2) else ((f.text.drop g.toNat).take k.toNat,0)
def Sto.sync (s:Sto)(n:Zo):Int×Sto :=
 if s.tick.crashed then (19,s.tick) else match ZQ s.files n with
 |none=>(5,s.tick)
 |some _=>(0,{ s.tick with files:=Fy s.files n fun f=>{ f with syn:=f.text.length } })
def Sto.remove (s:Sto)(n:Zo):Int×Sto :=
 if s.tick.crashed then (19,s.tick) else match ZQ s.files n with
 |none=>(5,s.tick)
 |some _=>(0,{ s.tick with files:=Vc s.files n })
structure Stp (A:List Nat)(H H':Hp):Prop where
 len:H.length<=H'.length
 at':∀ a,a<H.length->a∉A->H'[a]?=H[a]?
theorem Stp.refl (A:List Nat)(H:Hp):Stp A H H:=⟨Nat.le_refl _,fun _ _ _=>rfl⟩
theorem Stp.trans {A B C:List Nat}{H1 j u:Hp}(h:Stp A H1 j)(k:Stp B j u)(z:∀ a∈A,a∈C)(D:∀ a∈B,a∈C\/H1.length<=a):Stp C H1 u :=
 ⟨Nat.le_trans h.len k.len,fun a w y=>(k.at' a (Nat.lt_of_lt_of_le w h.len) fun g=>(D a g).elim y (fun h=>by omega)).trans (h.at' a w fun g=>y (z a g))⟩
theorem Stp.mono {A B:List Nat}{H H':Hp}(h:Stp A H H')(w:∀ a∈A,a∈B):Stp B H H':=⟨h.len,fun a g u=>h.at' a g fun j=>u (w a j)⟩
theorem Stp.set {A:List Nat}(H:Hp){o:Nat}(x:AObj)(j:o∈A):Stp A H (H.set o x):=⟨by simp,fun a u g=>List.getElem?_set_ne (fun e=>by subst e;exact g j)⟩
theorem Stp.push {A:List Nat}(H:Hp)(l:Hp):Stp A H (H++l):=⟨by simp,fun a g j=>List.getElem?_append_left g⟩
theorem Stp.get {A:List Nat}{H H':Hp}(h:Stp A H H'){a:Nat}{x:AObj}(g:H[a]?=some x)(j:a∉A):H'[a]?=some x:=(h.at' a (Zh g) j).trans g
structure FD where
 fil:Fil
 f:Nat
 tx:AV
 born:Nat
def FD.ent (d:FD):AV×AV×Nat:=(.str d.fil.name,.ptr d.f 0,d.born)
def ZG:AV->List Nat
 |.vs _ (.own t _) _=>[t]
 |_=>[]
def FD.own (d:FD):List Nat:=d.f::ZG d.tx
def TxAt (H:Hp)(x:AV)(l:Zo):Prop:=x=.nils/\l=[]\/(∃ t e,x=.vs 1 (.own t e) (l.map bv)/\H[t]?=some (.tok e))\/x=.vs 1 .clip (l.map bv)
structure FileAt (H:Hp)(d:FD):Prop where
 cells:H[d.f]?=some (.cells [d.tx,.int .i64 (d.fil.syn:Int)])
 text:TxAt H d.tx d.fil.text
theorem TxAt.frame {H H':Hp}{x:AV}{l:Zo}(h:TxAt H x l)(g:∀ a∈ZG x,H'[a]?=H[a]?):TxAt H' x l:=by
 rcases h with h|⟨t,e,rfl,j⟩|h
 ·exact .inl h
 ·exact .inr (.inl ⟨t,e,rfl,(g t (by simp[ZG])).trans j⟩)
 ·exact .inr (.inr h)
theorem FileAt.frame {H H':Hp}{d:FD}(h:FileAt H d)(g:∀ a∈d.own,H'[a]?=H[a]?):FileAt H' d :=
 ⟨(g _ (by simp[FD.own])).trans h.cells,h.text.frame fun a j=>g a (by simp[FD.own,j])⟩
theorem FileAt.lt {H:Hp}{d:FD}(h:FileAt H d):∀ a∈d.own,a<H.length:=by
 intro a g;rcases zC.1 g with e|g
 ·subst e;exact Zh h.cells
 ·rcases h.text with ⟨e,_⟩|⟨t,e,j,u⟩|e
  ·rw[e]at g;cases g
  ·rw[j]at g;rw[zB.1 g];exact Zh u
  ·rw[e]at g;cases g
theorem TxAt.len {H:Hp}{x:AV}{l:Zo}(h:TxAt H x l)(e:Nat):Zl (.slice e) x=some (.int .i64 (l.length:Int)):=by
 rcases h with ⟨rfl,rfl⟩|⟨t,g,rfl,j⟩|rfl
 ·rfl
 ·simp[Zl]
 ·simp[Zl]
theorem TxAt.app {H:Hp}{x:AV}{l:Zo}(h:TxAt H x l)(s:Zo)(D:l.length+s.length<=1048576) :
 ∃ z H',Ym 1 1 x (.str s) H=some (z,H')/\TxAt H' z (l++s)/\Stp (ZG x) H H'/\(∀ a∈ZG z,a∈ZG x\/a=H.length)/\(∀ a∈ZG z,a<H'.length):=by
 have j:YD ((l.map bv).length+(s.map bv).length) 1=true:=by simp[YD];omega
 have C:Go.Am.elems 1 (.str s) H=some (s.map bv):=rfl;unfold Ym;rw[C];by_cases B:s=[]
 ·subst B;have u:YD ((l.map bv).length+([]:List AV).length) 1=true:=j;refine⟨x,H,?_,by simpa using h,Stp.refl _ _,fun a g=>.inl g,fun a g=>?_⟩
  ·rcases h with ⟨rfl,rfl⟩|⟨t,e,rfl,y⟩|rfl
   ·simp[Yv]
   ·simp only[Yv,zL,u,and_self,if_true]
   ·simp only[Yv,zL,u,and_self,if_true]
  ·rcases h with ⟨rfl,rfl⟩|⟨t,e,rfl,y⟩|rfl
   ·cases g
   ·rw[zB.1 g];exact Zh y
   ·cases g
 ·have A:s.map bv≠[]:=by simpa using B
  rcases h with ⟨rfl,rfl⟩|⟨t,e,rfl,y⟩|rfl
  ·have w:YD (s.map bv).length 1=true:=by simp[YD];simp at D;omega
   refine⟨.vs 1 (.own H.length (s.map bv).length) (s.map bv),H++[.tok (s.map bv).length],by simp only[Yv,A,if_false,w,if_true],.inr (.inl ⟨H.length,(s.map bv).length,by simp,by simp⟩),Stp.push _ _,fun a g=>.inr (zB.1 g),fun a g=>by rw[zB.1 g];simp⟩
  ·refine⟨.vs 1 (.own t (e+(s.map bv).length)) (l.map bv++s.map bv),H.set t (.tok (e+(s.map bv).length)),by simp only[Yv,j,and_self,if_true,A,if_false,y],.inr (.inl ⟨t,e+(s.map bv).length,by simp,Zt _ y⟩),Stp.set _ _ (by simp[ZG]),fun a g=>.inl (by simpa[ZG]using g),fun a g=>?_⟩;rw[zB.1 g];simp;exact Zh y
  ·refine⟨.vs 1 (.own H.length ((l.map bv).length+(s.map bv).length)) (l.map bv++s.map bv),H++[.tok ((l.map bv).length+(s.map bv).length)],by simp only[Yv,j,and_self,if_true,A,if_false],.inr (.inl ⟨H.length,(l.map bv).length+(s.map bv).length,by simp,by simp⟩),Stp.push _ _,fun a g=>.inr (zB.1 g),fun a g=>by rw[zB.1 g];simp⟩
theorem TxAt.part {H:Hp}{x:AV}{l:Zo}(h:TxAt H x l){i j:Nat}(w:i<=j)(g:j<=l.length)(H1:Hp) :
 ∃ y,Yk 1 x (some (.int .i64 (i:Int))) (some (.int .i64 (j:Int))) none=some y/\BI y H1=some (.str ((l.take j).drop i)):=by
 have u:Yw l.length l.length (some (.int .i64 (i:Int))) (some (.int .i64 (j:Int))) none=some (i,j,l.length):=by
  rw[Ox (len:=l.length) (cap:=l.length) .i64 .i64 (by omega) (by omega) (by omega)];simp
 have key:∀ t,∃ y,Yk 1 (.vs 1 t (l.map bv)) (some (.int .i64 (i:Int))) (some (.int .i64 (j:Int))) none=some y/\BI y H1=some (.str ((l.take j).drop i)):=fun t=>by
  unfold Yk;dsimp only;rw[if_pos rfl,List.length_map,u];refine⟨_,rfl,?_⟩;rw[<-List.map_take,<-List.map_drop];unfold BI;rw[ZvQ]
 rcases h with ⟨rfl,rfl⟩|⟨t,e,rfl,z⟩|rfl
 ·have:i=0:=by simp at g;omega
  have:j=0:=by simpa using g
  subst_vars
  refine⟨.nils,?_,rfl⟩;unfold Yk;dsimp only;rw[show Yw 0 0 (some (.int .i64 ((0:Nat):Int))) (some (.int .i64 ((0:Nat):Int))) none=some (0,0,0) from by rw[Ox (len:=0) (cap:=0) .i64 .i64 (by omega) (by omega) (by omega)];simp]
 ·exact key _
 ·exact key _
theorem Zri {A B C u:List Nat}{N:Nat}(h:(A++(C++B)).Nodup)(I:u.Nodup)(D:∀ x∈u,x∈C\/N<=x)(z:∀ x∈A++(C++B),x<N):(A++(u++B)).Nodup:=by
 rw[zH]at h ⊢;obtain⟨E,w,y⟩:=h;rw[zH]at w ⊢;obtain⟨J,F,H⟩:=w;refine⟨E,⟨I,F,fun a j b g=>?_⟩,fun a j b g=>?_⟩
 ·rcases D a j with k|k
  ·exact H a k b g
  ·have:=z b (by simp[g]);omega
 ·rcases zF.1 g with g|g
  ·rcases D b g with k|k
   ·exact y a j b (by simp[k])
   ·have:=z a (by simp[j]);omega
  ·exact y a j b (by simp[g])
structure StAt (H:Hp)(o m clk:Nat)(ds:List FD)(s:Sto):Prop where
 files:ds.map FD.fil=s.files
 cells:H[o]?=some (.cells [.int .i64 (s.limit:Int),.int .i64 (Zs s.files:Int),.int .i64 (s.peak:Int),.map m,.bool s.crashed,.int .i64 (s.count:Int)])
 map:H[m]?=some (.map (ds.map FD.ent) clk)
 file:∀ d∈ds,FileAt H d
 nd:(o::m::ds.flatMap FD.own).Nodup
 born:(ds.map FD.born).Nodup/\∀ d∈ds,d.born<clk
def StoreAt (H:Hp)(o:Nat)(s:Sto)(A:List Nat):Prop:=∃ m g j,StAt H o m g j s/\A=o::m::j.flatMap FD.own
structure StoOk (s:Sto):Prop where
 limit:s.limit<=262144
 used:Zs s.files<=s.limit
 peak:s.peak<=s.limit
 name:∀ f∈s.files,F5 f.name=true
 nd:(s.files.map Fil.name).Nodup
 syn:∀ f∈s.files,f.syn<=f.text.length
 len:s.files.length<=64
 count:s.count<=9223372036854775807
theorem StAt.lt {H:Hp}{o m j:Nat}{u:List FD}{s:Sto}(h:StAt H o m j u s):∀ a∈o::m::u.flatMap FD.own,a<H.length:=by
 intro a g;rcases zC.1 g with e|g
 ·subst e;exact Zh h.cells
 rcases zC.1 g with e|g
 ·subst e;exact Zh h.map
 obtain⟨d,w,g⟩:=zE.1 g;exact (h.file d w).lt a g
theorem StAt.frame {H H':Hp}{o m g:Nat}{j:List FD}{s:Sto}(h:StAt H o m g j s)(u:∀ a∈o::m::j.flatMap FD.own,H'[a]?=H[a]?):StAt H' o m g j s :=
 ⟨h.files,(u _ (by simp)).trans h.cells,(u _ (by simp)).trans h.map,fun d w=>(h.file d w).frame fun a y=>u a (zA _ (zA _ (zE.2 ⟨d,w,y⟩))),h.nd,h.born⟩
theorem StoreAt.lt {H:Hp}{o:Nat}{s:Sto}{A:List Nat}(h:StoreAt H o s A):∀ a∈A,a<H.length:=by
 obtain⟨m,g,u,j,rfl⟩:=h;exact j.lt
theorem StoreAt.frame {H H':Hp}{o:Nat}{s:Sto}{A:List Nat}(h:StoreAt H o s A)(w:∀ a∈A,H'[a]?=H[a]?):StoreAt H' o s A:=by
 obtain⟨m,g,j,u,rfl⟩:=h;exact⟨m,g,j,u.frame w,rfl⟩
theorem StoreAt.stp {H H':Hp}{o:Nat}{s:Sto}{A B:List Nat}(h:StoreAt H o s A)(u:Stp B H H')(j:∀ a∈A,a∉B):StoreAt H' o s A :=
 h.frame fun a g=>u.at' a (h.lt a g) (j a g)
theorem StAt.own_lt {H:Hp}{o m g:Nat}{j:List FD}{s:Sto}(h:StAt H o m g j s){d:FD}(A:d∈j){a:Nat}(z:a∈d.own):a≠o/\a≠m:=by
 have:=h.nd;rw[zG,zG]at this;obtain⟨w,y,_⟩:=this;have u:a∈j.flatMap FD.own:=zE.2 ⟨d,A,z⟩;exact⟨fun e=>w (by rw[<-e];exact zA _ u),fun e=>y (by rw[<-e];exact u)⟩
theorem StAt.om {H:Hp}{o m g:Nat}{j:List FD}{s:Sto}(h:StAt H o m g j s):o≠m:=by
 have:=h.nd;rw[zG]at this;exact fun e=>this.1 (by simp[e])
theorem ZhT:∀ (g:List FD) (n:Zo) (i:Nat),ZQ (g.map FD.fil) n=none->YS (.str n) (g.map FD.ent) i=some none:=by
 intro g n
 induction g with
 |nil=>intro i _;rfl
 |cons d g u =>
  intro i h;rw[zD,ZQ]at h;split at h
  ·cases h
  ·rename_i j;rw[zD,YS];have:QL (.str n) d.ent.1=some (n==d.fil.name):=rfl;rw[this,show (n==d.fil.name)=false by simpa using j];exact u _ h
theorem Lx:∀ (a:List FD) (d:FD) (b:List FD) (n:Zo) (i:Nat),d.fil.name=n->(∀ g∈a,g.fil.name≠n)->YS (.str n) ((a++d::b).map FD.ent) i=some (some (i+a.length,.ptr d.f 0)):=by
 intro a
 induction a with
 |nil =>
  intro d b n i j _;rw[List.nil_append,zD,YS];have:QL (.str n) d.ent.1=some (n==d.fil.name):=rfl;rw[this,j,beq_self_eq_true];rfl
 |cons x a y =>
  intro d b n i j u;rw[zI,zD,YS];have:QL (.str n) x.ent.1=some (n==x.fil.name):=rfl;rw[this,show (n==x.fil.name)=false by simpa using fun e=>u x (by simp) e.symm];dsimp only;rw[y d b n (i+1) j fun g w=>u g (zA _ w)];simp only[List.length_cons];congr 3;omega
theorem ZvW {j:List FD}{n:Zo}{f:Fil}(h:ZQ (j.map FD.fil) n=some f):∃ a d b,j=a++d::b/\d.fil=f/\d.fil.name=n/\(∀ g∈a,g.fil.name≠n):=by
 induction j with
 |nil=>cases h
 |cons d j B =>
  rw[zD,ZQ]at h;split at h
  ·rename_i w;injection h with h;exact⟨[],d,j,rfl,h,w.symm,by simp⟩
  ·rename_i w;obtain⟨a,d',b,rfl,y,z,A⟩:=B h;refine⟨d::a,d',b,rfl,y,z,fun g u=>?_⟩;rcases zC.1 u with e|u
   ·subst e;exact fun e=>w e.symm
   ·exact A g u
theorem ZaG (a:List FD)(d:FD)(b:List FD)(n:Zo)(u:Fil->Fil)(w:d.fil.name=n)(j:∀ g∈a,g.fil.name≠n):Fy ((a++d::b).map FD.fil) n u=a.map FD.fil++u d.fil::b.map FD.fil:=by
 induction a with
 |nil=>simp[Fy,w]
 |cons x a z =>
  rw[zI,zD,Fy,if_neg (fun e=>j x (by simp) e.symm),z fun g y=>j g (zA _ y)];rfl
theorem Zz3 (a:List FD)(d:FD)(b:List FD)(n:Zo)(u:d.fil.name=n)(j:∀ g∈a,g.fil.name≠n):Vc ((a++d::b).map FD.fil) n=a.map FD.fil++b.map FD.fil:=by
 induction a with
 |nil=>simp[Vc,u]
 |cons x a y =>
  rw[zI,zD,Vc,if_neg (fun e=>j x (by simp) e.symm),y fun g w=>j g (zA _ w)];rfl
theorem StAt.look {H:Hp}{o m u:Nat}{j:List FD}{s:Sto}(h:StAt H o m u j s)(n:Zo) :
 (ZQ s.files n=none/\Yc .string .nilp false (.map m) (.str n) H=some .nilp)\/∃ a d b,j=a++d::b/\d.fil.name=n/\(∀ g∈a,g.fil.name≠n)/\ZQ s.files n=some d.fil/\Yc .string .nilp false (.map m) (.str n) H=some (.ptr d.f 0):=by
 have z:Xi (.map m) H=some (j.map FD.ent):=by unfold Xi;dsimp only;rw[h.map]
 have B:Wa .string (.str n)=true:=rfl;rw[<-h.files]
 cases A:ZQ (j.map FD.fil) n with
 |none =>
  refine .inl ⟨rfl,?_⟩;unfold Yc;rw[if_pos B,z];dsimp only;rw[ZhT j n 0 A];rfl
 |some f =>
  obtain⟨a,d,b,rfl,C,w,y⟩:=ZvW A;refine .inr ⟨a,d,b,rfl,w,y,by rw[C],?_⟩;unfold Yc;rw[if_pos B,z];dsimp only;rw[Lx a d b n 0 w y];rfl
theorem StAt.upd {H H':Hp}{o m D:Nat}{a b:List FD}{d d':FD}{s s':Sto}(h:StAt H o m D (a++d::b) s)
 (g:H'[o]?=some (.cells [.int .i64 (s'.limit:Int),.int .i64 (Zs s'.files:Int),.int .i64 (s'.peak:Int),.map m,.bool s'.crashed,.int .i64 (s'.count:Int)]))
 (F:H'[m]?=H[m]?) (w:d'.ent=d.ent) (j:s'.files=a.map FD.fil++d'.fil::b.map FD.fil) (L:FileAt H' d') (T:Stp (o::d.own) H H')
 (M:d'.own.Nodup) (I:∀ x∈d'.own,x∈d.own\/H.length<=x):StAt H' o m D (a++d'::b) s' where
 files:=by rw[j];simp
 cells:=g
 map:=by rw[F,h.map];simp[w]
 file:=fun x N=>by
  have B:∀ y∈a++b,FileAt H' y:=fun y R=>by
   have C:y∈a++d::b:=by rcases zF.1 R with k|k <;> simp[k]
   refine (h.file y C).frame fun z J=>T.at' z ((h.file y C).lt z J) fun u=>?_;rcases zC.1 u with e|u
   ·exact (h.own_lt C J).1 e
   ·have:=h.nd;rw[zG,zG,zJ,zK,zH,zH]at this;obtain⟨_,_,_,⟨_,_,U⟩,V⟩:=this;rcases zF.1 R with k|k
    ·exact V z (zE.2 ⟨y,k,J⟩) z (by simp[u]) rfl
    ·exact U z u z (zE.2 ⟨y,k,J⟩) rfl
  rcases zF.1 N with k|k
  ·exact B x (by simp[k])
  ·rcases zC.1 k with e|k
   ·subst e;exact L
   ·exact B x (by simp[k])
 nd:=by
  have O:=h.nd;have E:=h.lt;rw[zJ,zK]at O E ⊢;exact Zri (A:=o::m::a.flatMap FD.own) O M I E
 born:=by
  have Q:d'.born=d.born:=by have:=congrArg (fun e=>e.2.2) w;exact this
  obtain⟨S,K⟩:=h.born;refine⟨by simpa[Q]using S,fun x N=>?_⟩;rcases zF.1 N with k|k
  ·exact K x (by simp[k])
  ·rcases zC.1 k with e|k
   ·subst e;rw[Q];exact K d (by simp)
   ·exact K x (by simp[k])
end Go.Am
