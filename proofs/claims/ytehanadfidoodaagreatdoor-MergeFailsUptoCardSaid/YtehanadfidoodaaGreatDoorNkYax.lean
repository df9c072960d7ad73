/-
  The arguments of the statements about orders of lines.
-/
import Derived.Test.YtehanadfidoodaaGreatDoorNkNx
import Derived.Test.YtehanadfidoodaaGreatDoorNkYzx
import Derived.Test.YtehanadfidoodaaGreatDoorRows
import Derived.Test.YtehanadfidoodaaGreatDoorEmXx
import Derived.Test.YtehanadfidoodaaGreatDoorEmBex
namespace Go.Am
open Go.Proofs Go.Proofs.YtehanadfidoodaaGreatDoor
set_option linter.unusedVariables false
set_option maxRecDepth 100000
section
variable {H:Type}
theorem Zr8 {n:Nat}{d:DataW H}{cs:List AV}(h:TV Tryz.prog n 149 d cs):∃ k:Ke,KeOk k∧cs=k.cells:=by
 obtain⟨ds,parts,m,rfl,rfl,h1,h2,h3⟩:=h.fields ZiI
 obtain⟨a,b,c,d,e,rfl⟩:=I7 h1
 obtain⟨a',b',c',d',e',rfl⟩:=I7 h2
 obtain⟨x,_,rfl,hx⟩:=(h3 0 3 a a' rfl rfl rfl).int JX
 obtain⟨y,_,rfl,hy⟩:=(h3 1 3 b b' rfl rfl rfl).int JX
 obtain⟨z,_,rfl,hz⟩:=(h3 2 3 c c' rfl rfl rfl).int JX
 obtain⟨u,_,rfl,hu⟩:=(h3 3 3 d d' rfl rfl rfl).int JX
 obtain⟨v,_,rfl,hv⟩:=(h3 4 3 e e' rfl rfl rfl).int JX
 exact⟨⟨x,y,z,u,v⟩,⟨ZjT hx,ZjT hy,ZjT hz,ZjT hu⟩,rfl⟩
theorem ZpX {n:Nat}{d:DataW H}{vals:List AV}(h:TV Tryz.prog n 27 d vals)(hb:Ww d):∃ (x:AV) (ks:List Ke),vals=[x]∧Sl 5 x (ks.map Ke.av)∧(∀ k∈ks,KeOk k)∧ks.length≤1048576 :=
 LB ZoQ Zkr (fun m d' cs ht hb=>by
  obtain⟨k,hk,e2⟩:=Zr8 ht
  exact⟨k,hk,by rw[e2,Zph];rfl⟩) h hb
theorem ZqZ {n:Nat}{d:DataW H}{vals:List AV}(h:TV Tryz.prog n 24 d vals)(hb:Ww d):∃ (x:AV) (ks:List (List UInt8×Int)),vals=[x]∧Sl 2 x (ks.map Jk)∧(∀ k∈ks,k.1.length≤4611686018427387904)∧ks.length≤1048576 :=
 LB ZoP Zks (fun m d' cs ht hb=>by
  obtain⟨ds,parts,m,rfl,rfl,h1,h2,h3⟩:=ht.fields ZiJ
  obtain⟨a,b,rfl⟩:=Zc2 h1
  obtain⟨a',b',rfl⟩:=Zc2 h2
  have s0:=VY hb (i:=0) rfl
  obtain⟨s,es,rfl,hs⟩:=(h3 0 9 a a' rfl rfl rfl).str TD
  rw[es]at s0
  obtain⟨y,_,rfl,_⟩:=(h3 1 3 b b' rfl rfl rfl).int JX
  exact⟨(s,y),Nat.le_trans (B3 s0) (by decide),by rw[Zpi];rfl⟩) h hb
theorem ZpO {n:Nat}{d:DataW H}{vals:List AV}(h:TV Tryz.prog n 260 d vals):∃ ks:List Int,ks.length=4∧vals=ks.map (AV.int .u64):=by
 cases n with
 |zero=>exact h.elim
 |succ n =>
  unfold TV at h
  rw[Zms]at h
  obtain⟨ds,parts,rfl,rfl,h1,h2,h3⟩:=h
  obtain⟨a,b,c,d,rfl⟩:=Zhk h1
  obtain⟨a',b',c',d',rfl⟩:=Zhk h2
  obtain⟨x,_,rfl,_⟩:=(h3 0 a a' rfl rfl).int Sq
  obtain⟨y,_,rfl,_⟩:=(h3 1 b b' rfl rfl).int Sq
  obtain⟨z,_,rfl,_⟩:=(h3 2 c c' rfl rfl).int Sq
  obtain⟨u,_,rfl,_⟩:=(h3 3 d d' rfl rfl).int Sq
  exact⟨[x,y,z,u],rfl,rfl⟩
theorem ZpA {n:Nat}{d:DataW H}{vals:List AV}(h:TV Tryz.prog n 23 d vals)(hb:Ww d):∃ (x:AV) (ks:List (List UInt8×List Int)),vals=[x]∧Sl 5 x (ks.map Vm)∧(∀ k∈ks,k.2.length=4∧k.1.length≤4611686018427387904)∧ks.length≤1048576 :=
 LB ZoO Zkt (fun m d' cs ht hb=>by
  obtain⟨ds,parts,m,rfl,rfl,h1,h2,h3⟩:=ht.fields ZiL
  obtain⟨a,b,rfl⟩:=Zc2 h1
  obtain⟨a',b',rfl⟩:=Zc2 h2
  have s0:=VY hb (i:=0) rfl
  obtain⟨s,es,rfl,hs⟩:=(h3 0 9 a a' rfl rfl rfl).str TD
  rw[es]at s0
  obtain⟨ds2,parts2,m2,rfl,rfl,g1,g2,g3⟩:=(h3 1 262 b b' rfl rfl rfl).fields ZiK
  obtain⟨c,rfl⟩:=ZlK g1
  obtain⟨c',rfl⟩:=ZlK g2
  obtain⟨ks,hk,rfl⟩:=ZpO (g3 0 260 c c' rfl rfl rfl)
  exact⟨(s,ks),⟨hk,Nat.le_trans (B3 s0) (by decide)⟩,by rw[Zpj];simp[Vm,Wd]⟩) h hb
end
end Go.Am
namespace Go.Am
set_option linter.unusedSimpArgs false
set_option linter.unusedVariables false
set_option linter.unusedSectionVars false
abbrev Zm:=List UInt8
structure Fil where
 name:Zm
 text:Zm
 syn:Nat
structure Sto where
 limit:Nat
 peak:Nat
 files:List Fil
 crashed:Bool
 count:Nat
def Zt:List Fil→Nat
 |[]=>0
 |f::l=>f.text.length+Zt l
theorem U3 (a b:List Fil):Zt (a++b)=Zt a+Zt b:=by
 induction a with
 |nil=>simp[Zt]
 |cons f a ih=>simp only[List.cons_append,Zt,ih];omega
def ZQ (l:List Fil)(n:Zm):Option Fil:=match l with
 |[]=>none
 |f::r=>if n=f.name then some f else ZQ r n
def GS (l:List Fil)(n:Zm)(g:Fil→Fil):List Fil:=match l with
 |[]=>[]
 |f::r=>if n=f.name then g f::r else f::GS r n g
def Kc (l:List Fil)(n:Zm):List Fil:=match l with
 |[]=>[]
 |f::r=>if n=f.name then r else f::Kc r n
theorem Zl9 {l:List Fil}{n:Zm}:ZQ l n=none↔∀ g∈l,g.name≠n:=by
 induction l with
 |nil=>simp[ZQ]
 |cons x l ih =>
  unfold ZQ
  split
  ·rename_i h;simp[h]
  ·rename_i h
   rw[ih]
   constructor
   ·intro k g hg
    rcases List.mem_cons.1 hg with e|hg
    ·subst e;exact fun e=>h e.symm
    ·exact k g hg
   ·intro k g hg;exact k g (List.mem_cons_of_mem _ hg)
def EP (c:UInt8):Bool:=(97≤c&&c≤122) || (65≤c&&c≤90) || c==95 || c==46
def ZeS (c:UInt8):Bool:=48≤c&&c≤57
def D6 (s:Zm):Bool:=(match s with
 |[]=>false
 |c::r=>EP c&&r.all fun c=>EP c || ZeS c)&&decide (s.length≤32)
def Sto.tick (s:Sto):Sto:=if s.crashed then s else if s.count=1 then { s with crashed:=true,count:=0 } else { s with count:=s.count-1 }
def Sto.create (s:Sto)(n:Zm):Int×Sto :=
 if s.tick.crashed then (19,s.tick) else if D6 n=false then (4,s.tick) else match ZQ s.files n with
 |some _=>(6,s.tick)
 |none=>if 64≤s.files.length then (3,s.tick) else (0,{ s.tick with files:=s.files++[⟨n,[],0⟩] })
def Sto.append (s:Sto)(n t:Zm):Int×Sto :=
 if s.tick.crashed then (19,s.tick) else match ZQ s.files n with
 |none=>(5,s.tick)
 |some _=>if s.limit<Zt s.files+t.length then (12,s.tick) else (0,{ s.tick with files:=GS s.files n fun f=>{ f with text:=f.text++t },peak:=max s.peak (Zt s.files+t.length) })
def Sto.read (s:Sto)(n:Zm)(at' k:Int):Zm×Int :=
 if s.tick.crashed then ([],19) else match ZQ s.files n with
 |none=>([],5)
 |some f=>if at'<0∨(f.text.length:Int)<at'∨k<0 then ([],2) else ((f.text.drop at'.toNat).take k.toNat,0)
def Sto.sync (s:Sto)(n:Zm):Int×Sto :=
 if s.tick.crashed then (19,s.tick) else match ZQ s.files n with
 |none=>(5,s.tick)
 |some _=>(0,{ s.tick with files:=GS s.files n fun f=>{ f with syn:=f.text.length } })
def Sto.remove (s:Sto)(n:Zm):Int×Sto :=
 if s.tick.crashed then (19,s.tick) else match ZQ s.files n with
 |none=>(5,s.tick)
 |some _=>(0,{ s.tick with files:=Kc s.files n })
structure Stp (A:List Nat)(H H':Hp):Prop where
 len:H.length≤H'.length
 at':∀ a,a<H.length→a∉A→H'[a]?=H[a]?
theorem Stp.refl (A:List Nat)(H:Hp):Stp A H H:=⟨Nat.le_refl _,fun _ _ _=>rfl⟩
theorem Stp.trans {A B C:List Nat}{H1 H2 H3:Hp}(h:Stp A H1 H2)(k:Stp B H2 H3)(hA:∀ a∈A,a∈C)(hB:∀ a∈B,a∈C∨H1.length≤a):Stp C H1 H3 :=
 ⟨Nat.le_trans h.len k.len,fun a ha hn=>(k.at' a (Nat.lt_of_lt_of_le ha h.len) fun hb=>(hB a hb).elim hn (fun h=>by omega)).trans (h.at' a ha fun hb=>hn (hA a hb))⟩
theorem Stp.mono {A B:List Nat}{H H':Hp}(h:Stp A H H')(hs:∀ a∈A,a∈B):Stp B H H':=⟨h.len,fun a ha hn=>h.at' a ha fun hb=>hn (hs a hb)⟩
theorem Stp.set {A:List Nat}(H:Hp){o:Nat}(x:AObj)(ho:o∈A):Stp A H (H.set o x):=⟨by simp,fun a ha hn=>List.getElem?_set_ne (fun e=>by subst e;exact hn ho)⟩
theorem Stp.push {A:List Nat}(H:Hp)(l:Hp):Stp A H (H++l):=⟨by simp,fun a ha hn=>List.getElem?_append_left ha⟩
theorem Stp.get {A:List Nat}{H H':Hp}(h:Stp A H H'){a:Nat}{x:AObj}(hx:H[a]?=some x)(hn:a∉A):H'[a]?=some x:=(h.at' a (Zf hx) hn).trans hx
structure FD where
 fil:Fil
 f:Nat
 tx:AV
 born:Nat
def FD.ent (d:FD):AV×AV×Nat:=(.str d.fil.name,.ptr d.f 0,d.born)
def ZJ:AV→List Nat
 |.vs _ (.own t _) _=>[t]
 |_=>[]
def FD.own (d:FD):List Nat:=d.f::ZJ d.tx
def TxAt (H:Hp)(x:AV)(l:Zm):Prop:=x=.nils∧l=[]∨(∃ t e,x=.vs 1 (.own t e) (l.map bv)∧H[t]?=some (.tok e))∨x=.vs 1 .clip (l.map bv)
structure FileAt (H:Hp)(d:FD):Prop where
 cells:H[d.f]?=some (.cells [d.tx,.int .i64 (d.fil.syn:Int)])
 text:TxAt H d.tx d.fil.text
theorem TxAt.frame {H H':Hp}{x:AV}{l:Zm}(h:TxAt H x l)(hf:∀ a∈ZJ x,H'[a]?=H[a]?):TxAt H' x l:=by
 rcases h with h|⟨t,e,rfl,ht⟩|h
 ·exact .inl h
 ·exact .inr (.inl ⟨t,e,rfl,(hf t (by simp[ZJ])).trans ht⟩)
 ·exact .inr (.inr h)
theorem FileAt.frame {H H':Hp}{d:FD}(h:FileAt H d)(hf:∀ a∈d.own,H'[a]?=H[a]?):FileAt H' d :=
 ⟨(hf _ (by simp[FD.own])).trans h.cells,h.text.frame fun a ha=>hf a (by simp[FD.own,ha])⟩
theorem FileAt.lt {H:Hp}{d:FD}(h:FileAt H d):∀ a∈d.own,a<H.length:=by
 intro a ha
 rcases List.mem_cons.1 ha with e|ha
 ·subst e;exact Zf h.cells
 ·rcases h.text with ⟨e,_⟩|⟨t,e,e1,ht⟩|e
  ·rw[e]at ha;cases ha
  ·rw[e1]at ha
   rw[List.mem_singleton.1 ha];exact Zf ht
  ·rw[e]at ha;cases ha
theorem TxAt.len {H:Hp}{x:AV}{l:Zm}(h:TxAt H x l)(e:Nat):Zk (.slice e) x=some (.int .i64 (l.length:Int)):=by
 rcases h with ⟨rfl,rfl⟩|⟨t,e',rfl,ht⟩|rfl
 ·rfl
 ·simp[Zk]
 ·simp[Zk]
theorem TxAt.app {H:Hp}{x:AV}{l:Zm}(h:TxAt H x l)(s:Zm)(hf:l.length+s.length≤1048576) :
 ∃ x' H',Y6 1 1 x (.str s) H=some (x',H')∧TxAt H' x' (l++s)∧Stp (ZJ x) H H'∧(∀ a∈ZJ x',a∈ZJ x∨a=H.length)∧(∀ a∈ZJ x',a<H'.length):=by
 have hfit:fits ((l.map bv).length+(s.map bv).length) 1=true:=by simp[fits];omega
 have he:Go.Am.elems 1 (.str s) H=some (s.map bv):=rfl
 unfold Y6
 rw[he]
 by_cases hs:s=[]
 ·subst hs
  have hfit0:fits ((l.map bv).length+([]:List AV).length) 1=true:=hfit
  refine⟨x,H,?_,by simpa using h,Stp.refl _ _,fun a ha=>.inl ha,fun a ha=>?_⟩
  ·rcases h with ⟨rfl,rfl⟩|⟨t,e,rfl,ht⟩|rfl
   ·simp[Yo]
   ·simp only[Yo,List.map_nil,hfit0,and_self,if_true]
   ·simp only[Yo,List.map_nil,hfit0,and_self,if_true]
  ·rcases h with ⟨rfl,rfl⟩|⟨t,e,rfl,ht⟩|rfl
   ·cases ha
   ·rw[List.mem_singleton.1 ha];exact Zf ht
   ·cases ha
 ·have hn:s.map bv≠[]:=by simpa using hs
  rcases h with ⟨rfl,rfl⟩|⟨t,e,rfl,ht⟩|rfl
  ·have hfit2:fits (s.map bv).length 1=true:=by simp[fits];simp at hf;omega
   refine⟨.vs 1 (.own H.length (s.map bv).length) (s.map bv),H++[.tok (s.map bv).length],by simp only[Yo,hn,if_false,hfit2,if_true],.inr (.inl ⟨H.length,(s.map bv).length,by simp,by simp⟩),Stp.push _ _,fun a ha=>.inr (List.mem_singleton.1 ha),fun a ha=>by rw[List.mem_singleton.1 ha];simp⟩
  ·refine⟨.vs 1 (.own t (e+(s.map bv).length)) (l.map bv++s.map bv),H.set t (.tok (e+(s.map bv).length)),by simp only[Yo,hfit,and_self,if_true,hn,if_false,ht],.inr (.inl ⟨t,e+(s.map bv).length,by simp,Zv _ ht⟩),Stp.set _ _ (by simp[ZJ]),fun a ha=>.inl (by simpa[ZJ]using ha),fun a ha=>?_⟩
   rw[List.mem_singleton.1 ha];simp;exact Zf ht
  ·refine⟨.vs 1 (.own H.length ((l.map bv).length+(s.map bv).length)) (l.map bv++s.map bv),H++[.tok ((l.map bv).length+(s.map bv).length)],by simp only[Yo,hfit,and_self,if_true,hn,if_false],.inr (.inl ⟨H.length,(l.map bv).length+(s.map bv).length,by simp,by simp⟩),Stp.push _ _,fun a ha=>.inr (List.mem_singleton.1 ha),fun a ha=>by rw[List.mem_singleton.1 ha];simp⟩
theorem TxAt.part {H:Hp}{x:AV}{l:Zm}(h:TxAt H x l){i j:Nat}(hij:i≤j)(hj:j≤l.length)(H1:Hp) :
 ∃ y,YE 1 x (some (.int .i64 (i:Int))) (some (.int .i64 (j:Int))) none=some y∧Q2 y H1=some (.str ((l.take j).drop i)):=by
 have hb:YO l.length l.length (some (.int .i64 (i:Int))) (some (.int .i64 (j:Int))) none=some (i,j,l.length):=by
  rw[Ei (len:=l.length) (cap:=l.length) .i64 .i64 (by omega) (by omega) (by omega)]
  simp
 have key:∀ t,∃ y,YE 1 (.vs 1 t (l.map bv)) (some (.int .i64 (i:Int))) (some (.int .i64 (j:Int))) none=some y∧Q2 y H1=some (.str ((l.take j).drop i)):=fun t=>by
  unfold YE
  dsimp only
  rw[if_pos rfl,List.length_map,hb]
  refine⟨_,rfl,?_⟩
  rw[←List.map_take,←List.map_drop]
  unfold Q2
  rw[Zni]
 rcases h with ⟨rfl,rfl⟩|⟨t,e,rfl,ht⟩|rfl
 ·have:i=0:=by simp at hj;omega
  have:j=0:=by simpa using hj
  subst_vars
  refine⟨.nils,?_,rfl⟩
  unfold YE
  dsimp only
  rw[show YO 0 0 (some (.int .i64 ((0:Nat):Int))) (some (.int .i64 ((0:Nat):Int))) none=some (0,0,0) from by rw[Ei (len:=0) (cap:=0) .i64 .i64 (by omega) (by omega) (by omega)];simp]
 ·exact key _
 ·exact key _
theorem Zjh {A B C C':List Nat}{N:Nat}(h:(A++(C++B)).Nodup)(hC:C'.Nodup)(hs:∀ x∈C',x∈C∨N≤x)(hN:∀ x∈A++(C++B),x<N):(A++(C'++B)).Nodup:=by
 rw[List.nodup_append]at h ⊢
 obtain⟨h1,h2,h3⟩:=h
 rw[List.nodup_append]at h2 ⊢
 obtain⟨h4,h5,h6⟩:=h2
 refine⟨h1,⟨hC,h5,fun a ha b hb=>?_⟩,fun a ha b hb=>?_⟩
 ·rcases hs a ha with k|k
  ·exact h6 a k b hb
  ·have:=hN b (by simp[hb]);omega
 ·rcases List.mem_append.1 hb with hb|hb
  ·rcases hs b hb with k|k
   ·exact h3 a ha b (by simp[k])
   ·have:=hN a (by simp[ha]);omega
  ·exact h3 a ha b (by simp[hb])
structure StAt (H:Hp)(o m clk:Nat)(ds:List FD)(s:Sto):Prop where
 files:ds.map FD.fil=s.files
 cells:H[o]?=some (.cells [.int .i64 (s.limit:Int),.int .i64 (Zt s.files:Int),.int .i64 (s.peak:Int),.map m,.bool s.crashed,.int .i64 (s.count:Int)])
 map:H[m]?=some (.map (ds.map FD.ent) clk)
 file:∀ d∈ds,FileAt H d
 nd:(o::m::ds.flatMap FD.own).Nodup
 born:(ds.map FD.born).Nodup∧∀ d∈ds,d.born<clk
def StoreAt (H:Hp)(o:Nat)(s:Sto)(A:List Nat):Prop:=∃ m clk ds,StAt H o m clk ds s∧A=o::m::ds.flatMap FD.own
structure StoOk (s:Sto):Prop where
 limit:s.limit≤262144
 used:Zt s.files≤s.limit
 peak:s.peak≤s.limit
 name:∀ f∈s.files,D6 f.name=true
 nd:(s.files.map Fil.name).Nodup
 syn:∀ f∈s.files,f.syn≤f.text.length
 len:s.files.length≤64
 count:s.count≤9223372036854775807
theorem StAt.lt {H:Hp}{o m clk:Nat}{ds:List FD}{s:Sto}(h:StAt H o m clk ds s):∀ a∈o::m::ds.flatMap FD.own,a<H.length:=by
 intro a ha
 rcases List.mem_cons.1 ha with e|ha
 ·subst e;exact Zf h.cells
 rcases List.mem_cons.1 ha with e|ha
 ·subst e;exact Zf h.map
 obtain⟨d,hd,ha⟩:=List.mem_flatMap.1 ha
 exact (h.file d hd).lt a ha
theorem StAt.frame {H H':Hp}{o m clk:Nat}{ds:List FD}{s:Sto}(h:StAt H o m clk ds s)(hf:∀ a∈o::m::ds.flatMap FD.own,H'[a]?=H[a]?):StAt H' o m clk ds s :=
 ⟨h.files,(hf _ (by simp)).trans h.cells,(hf _ (by simp)).trans h.map,fun d hd=>(h.file d hd).frame fun a ha=>hf a (List.mem_cons_of_mem _ (List.mem_cons_of_mem _ (List.mem_flatMap.2 ⟨d,hd,ha⟩))),h.nd,h.born⟩
theorem StoreAt.lt {H:Hp}{o:Nat}{s:Sto}{A:List Nat}(h:StoreAt H o s A):∀ a∈A,a<H.length:=by
 obtain⟨m,clk,ds,h1,rfl⟩:=h
 exact h1.lt
theorem StoreAt.frame {H H':Hp}{o:Nat}{s:Sto}{A:List Nat}(h:StoreAt H o s A)(hf:∀ a∈A,H'[a]?=H[a]?):StoreAt H' o s A:=by
 obtain⟨m,clk,ds,h1,rfl⟩:=h
 exact⟨m,clk,ds,h1.frame hf,rfl⟩
theorem StoreAt.stp {H H':Hp}{o:Nat}{s:Sto}{A B:List Nat}(h:StoreAt H o s A)(hs:Stp B H H')(hd:∀ a∈A,a∉B):StoreAt H' o s A :=
 h.frame fun a ha=>hs.at' a (h.lt a ha) (hd a ha)
theorem StAt.own_lt {H:Hp}{o m clk:Nat}{ds:List FD}{s:Sto}(h:StAt H o m clk ds s){d:FD}(hd:d∈ds){a:Nat}(ha:a∈d.own):a≠o∧a≠m:=by
 have:=h.nd
 rw[List.nodup_cons,List.nodup_cons]at this
 obtain⟨h1,h2,_⟩:=this
 have hm:a∈ds.flatMap FD.own:=List.mem_flatMap.2 ⟨d,hd,ha⟩
 exact⟨fun e=>h1 (by rw[←e];exact List.mem_cons_of_mem _ hm),fun e=>h2 (by rw[←e];exact hm)⟩
theorem StAt.om {H:Hp}{o m clk:Nat}{ds:List FD}{s:Sto}(h:StAt H o m clk ds s):o≠m:=by
 have:=h.nd
 rw[List.nodup_cons]at this
 exact fun e=>this.1 (by simp[e])
theorem Zbi:∀ (ds:List FD) (n:Zm) (i:Nat),ZQ (ds.map FD.fil) n=none→Yw (.str n) (ds.map FD.ent) i=some none:=by
 intro ds n
 induction ds with
 |nil=>intro i _;rfl
 |cons d ds ih =>
  intro i h
  rw[List.map_cons,ZQ]at h
  split at h
  ·cases h
  ·rename_i hn
   rw[List.map_cons,Yw]
   have:UC (.str n) d.ent.1=some (n==d.fil.name):=rfl
   rw[this,show (n==d.fil.name)=false by simpa using hn]
   exact ih _ h
theorem Tg:∀ (a:List FD) (d:FD) (b:List FD) (n:Zm) (i:Nat),d.fil.name=n→(∀ g∈a,g.fil.name≠n)→Yw (.str n) ((a++d::b).map FD.ent) i=some (some (i+a.length,.ptr d.f 0)):=by
 intro a
 induction a with
 |nil =>
  intro d b n i h1 _
  rw[List.nil_append,List.map_cons,Yw]
  have:UC (.str n) d.ent.1=some (n==d.fil.name):=rfl
  rw[this,h1,beq_self_eq_true]
  rfl
 |cons x a ih =>
  intro d b n i h1 h2
  rw[List.cons_append,List.map_cons,Yw]
  have:UC (.str n) x.ent.1=some (n==x.fil.name):=rfl
  rw[this,show (n==x.fil.name)=false by simpa using fun e=>h2 x (by simp) e.symm]
  dsimp only
  rw[ih d b n (i+1) h1 fun g hg=>h2 g (List.mem_cons_of_mem _ hg)]
  simp only[List.length_cons]
  congr 3
  omega
theorem Zno {ds:List FD}{n:Zm}{f:Fil}(h:ZQ (ds.map FD.fil) n=some f):∃ a d b,ds=a++d::b∧d.fil=f∧d.fil.name=n∧(∀ g∈a,g.fil.name≠n):=by
 induction ds with
 |nil=>cases h
 |cons d ds ih =>
  rw[List.map_cons,ZQ]at h
  split at h
  ·rename_i hn
   injection h with h
   exact⟨[],d,ds,rfl,h,hn.symm,by simp⟩
  ·rename_i hn
   obtain⟨a,d',b,rfl,h2,h3,h4⟩:=ih h
   refine⟨d::a,d',b,rfl,h2,h3,fun g hg=>?_⟩
   rcases List.mem_cons.1 hg with e|hg
   ·subst e;exact fun e=>hn e.symm
   ·exact h4 g hg
theorem Ss (a:List FD)(d:FD)(b:List FD)(n:Zm)(u:Fil→Fil)(h1:d.fil.name=n)(h2:∀ g∈a,g.fil.name≠n):GS ((a++d::b).map FD.fil) n u=a.map FD.fil++u d.fil::b.map FD.fil:=by
 induction a with
 |nil=>simp[GS,h1]
 |cons x a ih =>
  rw[List.cons_append,List.map_cons,GS,if_neg (fun e=>h2 x (by simp) e.symm),ih fun g hg=>h2 g (List.mem_cons_of_mem _ hg)]
  rfl
theorem Zqj (a:List FD)(d:FD)(b:List FD)(n:Zm)(h1:d.fil.name=n)(h2:∀ g∈a,g.fil.name≠n):Kc ((a++d::b).map FD.fil) n=a.map FD.fil++b.map FD.fil:=by
 induction a with
 |nil=>simp[Kc,h1]
 |cons x a ih =>
  rw[List.cons_append,List.map_cons,Kc,if_neg (fun e=>h2 x (by simp) e.symm),ih fun g hg=>h2 g (List.mem_cons_of_mem _ hg)]
  rfl
theorem StAt.look {H:Hp}{o m clk:Nat}{ds:List FD}{s:Sto}(h:StAt H o m clk ds s)(n:Zm) :
 (ZQ s.files n=none∧ZZ .string .nilp false (.map m) (.str n) H=some .nilp)∨∃ a d b,ds=a++d::b∧d.fil.name=n∧(∀ g∈a,g.fil.name≠n)∧ZQ s.files n=some d.fil∧ZZ .string .nilp false (.map m) (.str n) H=some (.ptr d.f 0):=by
 have he:YP (.map m) H=some (ds.map FD.ent):=by unfold YP;dsimp only;rw[h.map]
 have hk:Xy .string (.str n)=true:=rfl
 rw[←h.files]
 cases hg:ZQ (ds.map FD.fil) n with
 |none =>
  refine .inl ⟨rfl,?_⟩
  unfold ZZ
  rw[if_pos hk,he]
  dsimp only
  rw[Zbi ds n 0 hg]
  rfl
 |some f =>
  obtain⟨a,d,b,rfl,h2,h3,h4⟩:=Zno hg
  refine .inr ⟨a,d,b,rfl,h3,h4,by rw[h2],?_⟩
  unfold ZZ
  rw[if_pos hk,he]
  dsimp only
  rw[Tg a d b n 0 h3 h4]
  rfl
theorem StAt.upd {H H':Hp}{o m clk:Nat}{a b:List FD}{d d':FD}{s s':Sto}(h:StAt H o m clk (a++d::b) s)
 (hcells:H'[o]?=some (.cells [.int .i64 (s'.limit:Int),.int .i64 (Zt s'.files:Int),.int .i64 (s'.peak:Int),.map m,.bool s'.crashed,.int .i64 (s'.count:Int)]))
 (hmap:H'[m]?=H[m]?) (hent:d'.ent=d.ent) (hfiles:s'.files=a.map FD.fil++d'.fil::b.map FD.fil) (hat:FileAt H' d') (hS:Stp (o::d.own) H H')
 (hnd:d'.own.Nodup) (hown:∀ x∈d'.own,x∈d.own∨H.length≤x):StAt H' o m clk (a++d'::b) s' where
 files:=by rw[hfiles];simp
 cells:=hcells
 map:=by rw[hmap,h.map];simp[hent]
 file:=fun x hx=>by
  have hold:∀ y∈a++b,FileAt H' y:=fun y hy=>by
   have hy2:y∈a++d::b:=by rcases List.mem_append.1 hy with k|k <;> simp[k]
   refine (h.file y hy2).frame fun z hz=>hS.at' z ((h.file y hy2).lt z hz) fun hz2=>?_
   rcases List.mem_cons.1 hz2 with e|hz2
   ·exact (h.own_lt hy2 hz).1 e
   ·have:=h.nd
    rw[List.nodup_cons,List.nodup_cons,List.flatMap_append,List.flatMap_cons,List.nodup_append,List.nodup_append]at this
    obtain⟨_,_,_,⟨_,_,q1⟩,q2⟩:=this
    rcases List.mem_append.1 hy with k|k
    ·exact q2 z (List.mem_flatMap.2 ⟨y,k,hz⟩) z (by simp[hz2]) rfl
    ·exact q1 z hz2 z (List.mem_flatMap.2 ⟨y,k,hz⟩) rfl
  rcases List.mem_append.1 hx with k|k
  ·exact hold x (by simp[k])
  ·rcases List.mem_cons.1 k with e|k
   ·subst e;exact hat
   ·exact hold x (by simp[k])
 nd:=by
  have h0:=h.nd
  have hlt:=h.lt
  rw[List.flatMap_append,List.flatMap_cons]at h0 hlt ⊢
  exact Zjh (A:=o::m::a.flatMap FD.own) h0 hnd hown hlt
 born:=by
  have hb:d'.born=d.born:=by have:=congrArg (fun e=>e.2.2) hent;exact this
  obtain⟨h1,h2⟩:=h.born
  refine⟨by simpa[hb]using h1,fun x hx=>?_⟩
  rcases List.mem_append.1 hx with k|k
  ·exact h2 x (by simp[k])
  ·rcases List.mem_cons.1 k with e|k
   ·subst e;rw[hb];exact h2 d (by simp)
   ·exact h2 x (by simp[k])
end Go.Am
