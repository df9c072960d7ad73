/-
  Lists of lists of strings, in the machine.
-/
import Derived.Test.YtehanadfidoodaaGreatDoorNkMzx
import Derived.Test.YtehanadfidoodaaGreatDoorNkYax
import Derived.Test.YtehanadfidoodaaGreatDoorNkGSx
import Derived.Test.YtehanadfidoodaaGreatDoorNkEx
import Derived.Test.YtehanadfidoodaaGreatDoorNkNx
import Derived.Lib.ItoaLen
namespace Go.Am
set_option linter.unusedSimpArgs false
set_option linter.unusedVariables false
set_option linter.unusedSectionVars false
set_option maxRecDepth 100000
theorem SS.cell {e:AV}{l:List Zj}(h:SS e l):e.cells=[e]∧e.known=true:=by
 rcases h with ⟨rfl,_⟩|⟨t,rfl⟩ <;> exact⟨rfl,rfl⟩
structure EE (es:List AV)(ls:List (List Zj)):Prop where
 len:es.length=ls.length
 at':∀ (i:Nat) (l:List Zj),ls[i]?=some l→∃ e,es[i]?=some e∧SS e l
theorem EE.nil:EE [] []:=⟨rfl,fun i l h=>by simp at h⟩
theorem Zqx {o e i:Nat}{H:Hp}{es:List AV}{a:AV}(h:H[o]?=some (.row e es))(hv:es[i]?=some a):Z4 false 1 (.wp o e (i*1)) H=some a:=by
 simp[Z4,h,Go.Am.apart,hv]
theorem ZhB {l:List AV}{i:Nat}{a:AV}(h:i<l.length):splice l (i*1) [a]=l.set i a:=by
 unfold splice
 rw[Nat.mul_one,List.set_eq_take_append_cons_drop,if_pos h]
 simp
theorem ZoT {o e i:Nat}{H:Hp}{es:List AV}{a:AV}(h:H[o]?=some (.row e es))(ha:a.cells=[a]∧a.known=true)(hi:i<es.length):Zh 1 (.wp o e (i*1)) a H=some (.tuple [],H.set o (.row e (es.set i a))):=by
 unfold Zh Xe
 simp only[h]
 rw[if_pos ⟨trivial,ha.2,by rw[ha.1];rfl,by omega⟩,ha.1,ZhB hi]
theorem ZoU {o e n i:Nat}(h:i<n):Zn 1 (.ws false 1 o e n) (.int .i64 (i:Int))=some (.wp o e (i*1)):=by
 unfold Zn
 dsimp only
 rw[if_pos (by omega)]
 rfl
theorem Zgr:∀ l:List AV,V6 false 1 l.length l=l:=by
 intro l
 induction l with
 |nil=>rfl
 |cons a l ih=>simp only[List.length_cons,V6];rw[List.drop_one,List.tail_cons,ih];rfl
def LL (H:Hp)(x:AV)(ls:List (List Zj)):Prop :=
 ls=[]∧(x=.nils∨x=.vs 1 .clip [])∨(∃ t es,x=.vs 1 t es∧EE es ls)∨∃ o e es,x=.ws false 1 o e ls.length∧H[o]?=some (.row e es)∧EE es ls
theorem LL.len {H:Hp}{x:AV}{ls:List (List Zj)}(h:LL H x ls)(e:Nat):Zk (.slice e) x=some (.int .i64 (ls.length:Int)):=by
 rcases h with ⟨rfl,rfl|rfl⟩|⟨t,es,rfl,he⟩|⟨o,e,es,rfl,ho,he⟩
 ·rfl
 ·rfl
 ·show some (AV.int .i64 (es.length:Int))=_;rw[he.len]
 ·rfl
theorem EE.tail {e:AV}{es:List AV}{l:List Zj}{ls:List (List Zj)}(h:EE (e::es) (l::ls)):SS e l∧EE es ls:=by
 obtain⟨e',h1,h2⟩:=h.at' 0 l rfl
 obtain rfl:e=e':=Option.some.inj h1
 exact⟨h2,by have:=h.len;simpa using this,fun i m hm=>by
  obtain⟨e',q1,q2⟩:=h.at' (i+1) m (by simpa using hm)
  exact⟨e',by simpa using q1,q2⟩⟩
theorem EE.cons {e:AV}{es:List AV}{l:List Zj}{ls:List (List Zj)}(h:SS e l)(k:EE es ls):EE (e::es) (l::ls) :=
 ⟨by simp[k.len],fun i m hm=>by
  cases i with
  |zero=>simp at hm;subst hm;exact⟨e,rfl,h⟩
  |succ i=>simpa using k.at' i m (by simpa using hm)⟩
theorem EE.close {es:List AV}{ls:List (List Zj)}(h:EE es ls)(H:Hp)(n f:Nat):∃ es',es.mapM (Z9 H n (f+2))=some es'∧EE es' ls:=by
 induction es generalizing ls with
 |nil =>
  have:ls=[]:=List.length_eq_zero_iff.1 (by rw[←h.len];rfl)
  subst this
  exact⟨[],rfl,EE.nil⟩
 |cons e es ih =>
  cases ls with
  |nil=>have:=h.len;simp at this
  |cons l ls =>
   obtain⟨h1,h2⟩:=h.tail
   obtain⟨e',q1,q2⟩:=SS.closed h1 H n f
   obtain⟨es',q3,q4⟩:=ih h2
   exact⟨e'::es',by rw[List.mapM_cons,q1];simp[q3],EE.cons q2 q4⟩
theorem Es (H:Hp)(n f k:Nat)(t:Tok)(l:List AV):Z9 H n (f+1) (.vs k t l)=match l.mapM (Z9 H n f) with
 |some l=>some (.vs k (match t with|.own t e=>if t<n then .own t e else .no|tok=>tok) l)
 |none=>none:=rfl
theorem Zir (H:Hp)(n f:Nat)(ag:Bool)(k o e len:Nat):Z9 H n (f+1) (.ws ag k o e len)=if o<n then some (.ws ag k o e len) else
 match elems k (.ws ag k o e len) H with
 |some l=>match l.mapM (Z9 H n f) with
  |some l=>some (.vs k .no l)
  |none=>none
 |none=>none:=rfl
def LsV (x:AV)(ls:List (List Zj)):Prop:=x=.nils∧ls=[]∨∃ t es,x=.vs 1 t es∧EE es ls
theorem LsV.ll {x:AV}{ls:List (List Zj)}(h:LsV x ls)(H:Hp):LL H x ls:=by
 rcases h with ⟨h1,h2⟩|h
 ·exact .inl ⟨h2,.inl h1⟩
 ·exact .inr (.inl h)
theorem LsV.len {x:AV}{ls:List (List Zj)}(h:LsV x ls)(e:Nat):Zk (.slice e) x=some (.int .i64 (ls.length:Int)):=(h.ll []).len e
theorem LsV.get' {x:AV}{ls:List (List Zj)}(h:LsV x ls){i:Nat}{l:List Zj}(hi:ls[i]?=some l):∃ a,Zn 1 x (.int .i64 (i:Int))=some (.vp [a])∧SS a l:=by
 rcases h with ⟨rfl,rfl⟩|⟨t,es,rfl,he⟩
 ·simp at hi
 ·obtain⟨a,h1,h2⟩:=he.at' i l hi
  refine⟨a,?_,h2⟩
  unfold Zn
  dsimp only
  rw[if_pos ⟨rfl,by omega⟩,Int.toNat_natCast,h1]
  dsimp only
  rw[h2.cell.1]
theorem LsV.close {x:AV}{ls:List (List Zj)}(h:LsV x ls)(H:Hp)(n f:Nat):∃ x',Z9 H n (f+3) x=some x'∧LsV x' ls:=by
 rcases h with ⟨rfl,rfl⟩|⟨t,es,rfl,he⟩
 ·exact⟨.nils,rfl,.inl ⟨rfl,rfl⟩⟩
 ·obtain⟨es',q1,q2⟩:=he.close H n f
  exact⟨_,by rw[Es,q1],.inr ⟨_,es',rfl,q2⟩⟩
def Ug (m:Nat)(s:Sto):List AV:=[.int .i64 (s.limit:Int),.int .i64 (Zt s.files:Int),.int .i64 (s.peak:Int),.map m,.bool s.crashed,.int .i64 (s.count:Int)]
theorem StAt.cell {H H':Hp}{o m clk:Nat}{ds:List FD}{s s':Sto}(h:StAt H o m clk ds s)(hS:Stp [o] H H')(hc:H'[o]?=some (.cells (Ug m s')))(hf:s'.files=s.files):StAt H' o m clk ds s' where
 files:=by rw[hf];exact h.files
 cells:=hc
 map:=hS.get h.map (by simpa using h.om.symm)
 file:=fun d hd=>(h.file d hd).frame fun a ha=>hS.at' a ((h.file d hd).lt a ha) (by simpa using (h.own_lt hd ha).1)
 nd:=h.nd
 born:=h.born
theorem ld {H:Hp}{o:Nat}{l:List AV}(h:H[o]?=some (.cells l))(i:Nat){v:AV}(hv:l[i]?=some v):Z4 false 1 (.ptr o (0+i)) H=some v:=by
 rw[U7 h,Nat.zero_add];exact hv
theorem st {H:Hp}{o:Nat}{l:List AV}(h:H[o]?=some (.cells l))(i:Nat){v:AV}(hv:v.cells=[v])(hk:v.known=true)(hi:i<l.length):Zh 1 (.ptr o (0+i)) v H=some (.tuple [],H.set o (.cells (l.set i v))):=by
 rw[Nat.zero_add,VK h hk (by rw[hv];rfl) (by omega),hv]
 congr 4
 have:=ZhB (l:=l) (i:=i) (a:=v) hi
 rwa [Nat.mul_one]at this
theorem ZcZ {H:Hp}{o m clk:Nat}{ds:List FD}{s:Sto}(h:StAt H o m clk ds s)(hk:s.count≤9223372036854775807) :
 ∃ H',Vi [.ptr o 0] H=some (.bool s.tick.crashed,H')∧StAt H' o m clk ds s.tick∧Stp [o] H H':=by
 have hc:H[o]?=some (.cells (Ug m s)):=h.cells
 have l4:=ld hc 4 (v:=.bool s.crashed) rfl
 have l5:=ld hc 5 (v:=.int .i64 (s.count:Int)) rfl
 rw[Mo]
 unfold Dh
 cases hcr:s.crashed with
 |true =>
  have ht:s.tick=s:=by unfold Sto.tick;rw[if_pos hcr]
  rw[ht,hcr]
  rw[hcr]at l4
  exact⟨H,by simp only[go_sem,l4,XY],h,Stp.refl _ _⟩
 |false =>
  rw[hcr]at l4
  by_cases h1:s.count=1
  ·have ht:s.tick={ s with crashed:=true,count:=0 }:=by unfold Sto.tick;rw[if_neg (by simp[hcr]),if_pos h1]
   have e1:((s.count:Int)==1)=true:=by rw[h1];rfl
   have s4:=st hc 4 (v:=.bool true) rfl rfl (by simp[Ug])
   have hc2:=Zv (AObj.cells (List.set (Ug m s) 4 (.bool true))) hc
   have s5:=st hc2 5 (v:=.int .i64 0) rfl rfl (by simp[Ug])
   have hc3:=Zv (AObj.cells (List.set (List.set (Ug m s) 4 (.bool true)) 5 (AV.int .i64 0))) hc2
   have l4':=ld hc3 4 (v:=.bool true) rfl
   refine⟨(H.set o (.cells ((Ug m s).set 4 (.bool true)))).set o (.cells (((Ug m s).set 4 (.bool true)).set 5 (.int .i64 0))),by simp only[go_sem,l4,l5,e1,s4,s5,XY,l4',ht],?_,?_⟩
   ·rw[ht]
    refine h.cell ?_ ?_ rfl
    ·exact (Stp.set H _ (by simp)).trans (Stp.set _ _ (List.mem_singleton.2 rfl)) (fun a ha=>ha) (fun a ha=>.inl ha)
    ·exact hc3
   ·exact (Stp.set H _ (by simp)).trans (Stp.set _ _ (List.mem_singleton.2 rfl)) (fun a ha=>ha) (fun a ha=>.inl ha)
  ·have e1:((s.count:Int)==1)=false:=by rw[beq_eq_false_iff_ne];omega
   have ht:s.tick={ s with count:=s.count-1 }:=by unfold Sto.tick;rw[if_neg (by simp[hcr]),if_neg h1]
   by_cases h2:1<s.count
   ·have e2:decide ((1:Int)<(s.count:Int))=true:=by rw[decide_eq_true_eq];omega
    have hw:IntKind.i64.wrap ((s.count:Int)-1)=((s.count-1:Nat):Int):=by rw[Zr (by omega) (by omega)];omega
    have s5:=st hc 5 (v:=.int .i64 ((s.count-1:Nat):Int)) rfl rfl (by simp[Ug])
    have hc3:=Zv (AObj.cells (List.set (Ug m s) 5 (AV.int .i64 ((s.count-1:Nat):Int)))) hc
    have l4':=ld hc3 4 (v:=.bool s.crashed) rfl
    rw[hcr]at l4'
    refine⟨H.set o (.cells ((Ug m s).set 5 (.int .i64 ((s.count-1:Nat):Int)))),by simp only[go_sem,l4,l5,e1,e2,hw,s5,XY,l4',ht,hcr],?_,Stp.set _ _ (by simp)⟩
    rw[ht]
    exact h.cell (Stp.set _ _ (by simp)) hc3 rfl
   ·have e2:decide ((1:Int)<(s.count:Int))=false:=by simp;omega
    have h0:s.count=0:=by omega
    have ht2:s.tick=s:=by rw[ht];cases s;simp only at h0;subst h0;rfl
    rw[ht2,hcr]
    exact⟨H,by simp only[go_sem,l4,l5,e1,e2,XY],h,Stp.refl _ _⟩
theorem U2 (s:Sto):s.tick.files=s.files:=by unfold Sto.tick;split;rfl;split <;> rfl
theorem ZjJ (s:Sto):s.tick.limit=s.limit:=by unfold Sto.tick;split;rfl;split <;> rfl
theorem Zmo (s:Sto):s.tick.peak=s.peak:=by unfold Sto.tick;split;rfl;split <;> rfl
theorem S5 {H:Hp}{o m clk:Nat}{ds:List FD}{s:Sto}(h:StAt H o m clk ds s)(hk:s.count≤9223372036854775807)(n:Zm) :
 ∃ (p:AV) (e:Int) (H':Hp),Xp [.ptr o 0,.str n] H=some (.tuple [p,.int .i64 e],H')∧StAt H' o m clk ds s.tick∧Stp [o] H H' ∧
  (s.tick.crashed=true∧e=19∨s.tick.crashed=false∧ZQ s.files n=none∧e=5 ∨
   s.tick.crashed=false∧e=0∧∃ a d b,ds=a++d::b∧d.fil.name=n∧(∀ g∈a,g.fil.name≠n)∧ZQ s.files n=some d.fil∧p=.ptr d.f 0):=by
 obtain⟨H1,q1,q2,q3⟩:=ZcZ h hk
 rw[Lq]
 unfold FA
 cases hcr:s.tick.crashed with
 |true =>
  rw[hcr]at q1
  exact⟨.nilp,19,H1,by simp only[go_sem,Ud,q1],q2,q3,.inl ⟨rfl,rfl⟩⟩
 |false =>
  rw[hcr]at q1
  have l3:=ld q2.cells 3 (v:=.map m) rfl
  have hlk:=q2.look n
  rw[U2]at hlk
  rcases hlk with ⟨k1,k2⟩|⟨a,d,b,k1,k2,k3,k4,k5⟩
  ·exact⟨.nilp,5,H1,by simp only[go_sem,Ud,q1,Gd,l3,k2],q2,q3,.inr (.inl ⟨rfl,k1,rfl⟩)⟩
  ·exact⟨.ptr d.f 0,0,H1,by simp only[go_sem,Ud,q1,Gd,l3,k5,MX],q2,q3,.inr (.inr ⟨rfl,rfl,a,d,b,k1,k2,k3,k4,rfl⟩)⟩
structure StoRes (H H':Hp)(o:Nat)(s':Sto)(A A':List Nat):Prop where
 at':StoreAt H' o s' A'
 stp:Stp A H H'
 own:∀ a∈A',a∈A∨H.length≤a
theorem StAt.res {H H':Hp}{o m clk:Nat}{ds:List FD}{s':Sto}(h:StAt H' o m clk ds s')(hS:Stp [o] H H'):StoRes H H' o s' (o::m::ds.flatMap FD.own) (o::m::ds.flatMap FD.own) :=
 ⟨⟨m,clk,ds,h,rfl⟩,hS.mono (fun a ha=>by rw[List.mem_singleton.1 ha];simp),fun a ha=>.inl ha⟩
theorem Zfw (d:FD):d.f∈d.own:=by simp[FD.own]
theorem ZmE {H:Hp}{o:Nat}{s:Sto}{A:List Nat}(h:StoreAt H o s A)(hk:s.count≤9223372036854775807)(n:Zm) :
 ∃ H' A',J9 [.ptr o 0,.str n] H=some (.int .i64 (s.sync n).1,H')∧StoRes H H' o (s.sync n).2 A A':=by
 obtain⟨m,clk,ds,h,rfl⟩:=h
 obtain⟨p,e,H1,q1,q2,q3,q4⟩:=S5 h hk n
 rw[Lo]
 unfold Fy Sto.sync
 rcases q4 with ⟨c1,rfl⟩|⟨c1,c2,rfl⟩|⟨c1,rfl,a,d,b,rfl,c3,c4,c5,rfl⟩
 ·have e1:((19:Int)==0)=false:=rfl
  rw[if_pos c1]
  exact⟨H1,_,by simp only[q1,go_sem,List.getElem?_cons_zero,List.getElem?_cons_succ,e1,Uc],q2.res q3⟩
 ·have e1:((5:Int)==0)=false:=rfl
  rw[if_neg (by simp[c1]),c2]
  exact⟨H1,_,by simp only[q1,go_sem,List.getElem?_cons_zero,List.getElem?_cons_succ,e1,Uc],q2.res q3⟩
 ·have e1:((0:Int)==0)=true:=rfl
  rw[if_neg (by simp[c1]),c5]
  have hd:=q2.file d (by simp)
  have l0:=ld hd.cells 0 (v:=d.tx) rfl
  have hlen:=hd.text.len 5
  have s1:=st hd.cells 1 (v:=.int .i64 (d.fil.text.length:Int)) rfl rfl (by simp)
  refine⟨H1.set d.f (.cells (List.set [d.tx,.int .i64 (d.fil.syn:Int)] 1 (.int .i64 (d.fil.text.length:Int)))),o::m::(a++{ d with fil:={ d.fil with syn:=d.fil.text.length } }::b).flatMap FD.own,by simp only[q1,go_sem,List.getElem?_cons_zero,List.getElem?_cons_succ,e1,l0,hlen,s1,Uc],?_⟩
  have hne:d.f≠o:=(q2.own_lt (d:=d) (by simp) (Zfw d)).1
  have hnm:d.f≠m:=(q2.own_lt (d:=d) (by simp) (Zfw d)).2
  have hS:Stp (o::d.own) H1 (H1.set d.f (.cells (List.set [d.tx,.int .i64 (d.fil.syn:Int)] 1 (.int .i64 (d.fil.text.length:Int))))):=Stp.set _ _ (by simp[FD.own])
  have htx:∀ t∈ZJ d.tx,t≠d.f:=fun t ht=>by
   have:=q2.nd
   rw[List.nodup_cons,List.nodup_cons,List.flatMap_append,List.flatMap_cons,List.nodup_append,List.nodup_append]at this
   obtain⟨_,_,_,⟨k1,_⟩,_⟩:=this
   rw[FD.own,List.nodup_cons]at k1
   exact fun e=>k1.1 (e ▸ ht)
  have hup:Zt (GS s.files n fun f=>{ f with syn:=f.text.length })=Zt s.files:=by
   rw[←h.files,Ss a d b n _ c3 c4]
   simp[U3,Zt]
  have hat:=q2.upd (d':={ d with fil:={ d.fil with syn:=d.fil.text.length } }) (s':={ s.tick with files:=GS s.files n fun f=>{ f with syn:=f.text.length } }) (H':=H1.set d.f (.cells (List.set [d.tx,.int .i64 (d.fil.syn:Int)] 1 (.int .i64 (d.fil.text.length:Int)))))
   (by
    rw[List.getElem?_set_ne hne,q2.cells]
    simp only[hup,U2])
   (List.getElem?_set_ne hnm) rfl (by show GS s.files n _=_;rw[←h.files,Ss a d b n _ c3 c4])
   ⟨Zv _ hd.cells,hd.text.frame fun t ht=>List.getElem?_set_ne (fun e=>htx t ht e.symm)⟩ hS
   (by
    have:=q2.nd
    rw[List.nodup_cons,List.nodup_cons,List.flatMap_append,List.flatMap_cons,List.nodup_append,List.nodup_append]at this
    exact this.2.2.2.1.1)
   (fun x hx=>.inl hx)
  refine⟨⟨m,clk,_,hat,rfl⟩,?_,fun x hx=>.inl ?_⟩
  ·refine q3.trans hS (fun x hx=>by rw[List.mem_singleton.1 hx];simp) fun x hx=>.inl ?_
   rcases List.mem_cons.1 hx with e|hx
   ·subst e;simp
   ·simp[hx]
  ·simpa[FD.own]using hx
theorem StAt.fileRes {H H1 H':Hp}{o m clk:Nat}{a b:List FD}{d d':FD}{s s':Sto}(h:StAt H o m clk (a++d::b) s)(h1:Stp [o] H H1)(hat:StAt H' o m clk (a++d'::b) s')(hS:Stp (o::d.own) H1 H')
 (hown:∀ x∈d'.own,x∈d.own∨H1.length≤x):StoRes H H' o s' (o::m::(a++d::b).flatMap FD.own) (o::m::(a++d'::b).flatMap FD.own):=by
 refine⟨⟨m,clk,_,hat,rfl⟩,h1.trans hS (fun x hx=>by rw[List.mem_singleton.1 hx];simp) fun x hx=>.inl ?_,fun x hx=>?_⟩
 ·rcases List.mem_cons.1 hx with e|hx
  ·subst e;simp
  ·simp[hx]
 ·rcases List.mem_cons.1 hx with e|hx
  ·subst e;exact .inl (by simp)
  rcases List.mem_cons.1 hx with e|hx
  ·subst e;exact .inl (by simp)
  rw[List.flatMap_append,List.flatMap_cons]at hx
  rcases List.mem_append.1 hx with hx|hx
  ·exact .inl (by simp only[List.flatMap_append,List.mem_cons,List.mem_append];exact .inr (.inr (.inl hx)))
  rcases List.mem_append.1 hx with hx|hx
  ·rcases hown x hx with k|k
   ·exact .inl (by simp only[List.flatMap_append,List.flatMap_cons,List.mem_cons,List.mem_append];exact .inr (.inr (.inr (.inl k))))
   ·exact .inr (Nat.le_trans h1.len k)
  ·exact .inl (by simp only[List.flatMap_append,List.flatMap_cons,List.mem_cons,List.mem_append];exact .inr (.inr (.inr (.inr hx))))
theorem StAt.mid {H:Hp}{o m clk:Nat}{a b:List FD}{d:FD}{s:Sto}(h:StAt H o m clk (a++d::b) s):d.own.Nodup∧FileAt H d∧(∀ x∈d.own,x≠o∧x≠m)∧∀ t∈ZJ d.tx,t≠d.f:=by
 have:=h.nd
 rw[List.nodup_cons,List.nodup_cons,List.flatMap_append,List.flatMap_cons,List.nodup_append,List.nodup_append]at this
 obtain⟨_,_,_,⟨k1,_⟩,_⟩:=this
 refine⟨k1,h.file d (by simp),fun x hx=>h.own_lt (d:=d) (by simp) hx,fun t ht=>?_⟩
 rw[FD.own,List.nodup_cons]at k1
 exact fun e=>k1.1 (e ▸ ht)
theorem Mh (a:List Fil)(f:Fil)(b:List Fil):Zt (a++f::b)=Zt a+(f.text.length+Zt b):=by rw[U3];rfl
theorem ZhG {H:Hp}{o:Nat}{s:Sto}{A:List Nat}(h:StoreAt H o s A)(hk:StoOk s)(n t:Zm)(ht:t.length≤1048576) :
 ∃ H' A',US [.ptr o 0,.str n,.str t] H=some (.int .i64 (s.append n t).1,H')∧StoRes H H' o (s.append n t).2 A A':=by
 obtain⟨m,clk,ds,h,rfl⟩:=h
 obtain⟨p,e,H1,q1,q2,q3,q4⟩:=S5 h hk.count n
 rw[Nc]
 unfold Bn Sto.append
 rcases q4 with ⟨c1,rfl⟩|⟨c1,c2,rfl⟩|⟨c1,rfl,a,d,b,rfl,c3,c4,c5,rfl⟩
 ·have e1:((19:Int) != 0)=true:=rfl
  rw[if_pos c1]
  exact⟨H1,_,by simp only[q1,go_sem,List.getElem?_cons_zero,List.getElem?_cons_succ,e1],q2.res q3⟩
 ·have e1:((5:Int) != 0)=true:=rfl
  rw[if_neg (by simp[c1]),c2]
  exact⟨H1,_,by simp only[q1,go_sem,List.getElem?_cons_zero,List.getElem?_cons_succ,e1],q2.res q3⟩
 ·have e1:((0:Int) != 0)=false:=rfl
  rw[if_neg (by simp[c1]),c5]
  have hused:=hk.used
  have hlim:=hk.limit
  have hpk:=hk.peak
  have hc:H1[o]?=some (.cells (Ug m s.tick)):=q2.cells
  have l0:=ld hc 0 (v:=.int .i64 (s.limit:Int)) (by rw[←ZjJ s];rfl)
  have l1:=ld hc 1 (v:=.int .i64 (Zt s.files:Int)) (by rw[←U2 s];rfl)
  have hw:IntKind.i64.wrap ((Zt s.files:Int)+(t.length:Int))=((Zt s.files+t.length:Nat):Int):=by rw[Zr (by omega) (by omega)];omega
  by_cases hf:s.limit<Zt s.files+t.length
  ·have e2:decide ((s.limit:Int)<((Zt s.files+t.length:Nat):Int))=true:=by rw[decide_eq_true_eq];omega
   simp only[if_pos hf]
   exact⟨H1,_,by simp only[q1,go_sem,List.getElem?_cons_zero,List.getElem?_cons_succ,e1,Js,l0,l1,hw,e2],q2.res q3⟩
  ·have e2:decide ((s.limit:Int)<((Zt s.files+t.length:Nat):Int))=false:=by simp;omega
   simp only[if_neg hf]
   obtain⟨k1,hd,k3,k4⟩:=q2.mid
   have hfl:=h.files
   have hfile:Zt s.files=Zt (a.map FD.fil)+(d.fil.text.length+Zt (b.map FD.fil)):=by
    rw[←hfl,List.map_append,List.map_cons,Mh]
   have m0:=ld hd.cells 0 (v:=d.tx) rfl
   obtain⟨x',H2,p1,p2,p3,p4,p5⟩:=hd.text.app t (by omega)
   have g1:H2[d.f]?=some (.cells [d.tx,.int .i64 (d.fil.syn:Int)]):=p3.get hd.cells fun hx=>k4 _ hx rfl
   have hx':x'.cells=[x']∧x'.known=true:=by
    rcases p2 with ⟨rfl,_⟩|⟨t',e',rfl,_⟩|rfl <;> exact⟨rfl,rfl⟩
   have s1:=st g1 0 (v:=x') hx'.1 hx'.2 (by simp)
   have hko:=k3 d.f (by simp[FD.own])
   have hoT:o∉ZJ d.tx:=fun hx=>(k3 o (by simp[FD.own,hx])).1 rfl
   have hmT:m∉ZJ d.tx:=fun hx=>(k3 m (by simp[FD.own,hx])).2 rfl
   have g2:H2[o]?=some (.cells (Ug m s.tick)):=p3.get hc hoT
   have g3:=Y5 (.cells (List.set [d.tx,.int .i64 (d.fil.syn:Int)] 0 x')) hko.1 g2
   have n1:=ld g3 1 (v:=.int .i64 (Zt s.files:Int)) (by rw[←U2 s];rfl)
   have s2:=st g3 1 (v:=.int .i64 ((Zt s.files+t.length:Nat):Int)) rfl rfl (by simp[Ug])
   have g4:=Zv (AObj.cells (List.set (Ug m s.tick) 1 (.int .i64 ((Zt s.files+t.length:Nat):Int)))) g3
   have n2:=ld g4 2 (v:=.int .i64 (s.peak:Int)) (by rw[←Zmo s];rfl)
   have n3:=ld g4 1 (v:=.int .i64 ((Zt s.files+t.length:Nat):Int)) rfl
   have hmx:max (s.peak:Int) ((Zt s.files+t.length:Nat):Int)=((max s.peak (Zt s.files+t.length):Nat):Int):=by omega
   have s3:=st g4 2 (v:=.int .i64 ((max s.peak (Zt s.files+t.length):Nat):Int)) rfl rfl (by simp[Ug])
   have g5:=Zv (AObj.cells (List.set (List.set (Ug m s.tick) 1 (.int .i64 ((Zt s.files+t.length:Nat):Int))) 2 (.int .i64 ((max s.peak (Zt s.files+t.length):Nat):Int)))) g4
   generalize hH3:H2.set d.f (.cells (List.set [d.tx,.int .i64 (d.fil.syn:Int)] 0 x'))=H3 at s1 g3 n1 s2 g4 n2 n3 s3 g5
   generalize hH4:H3.set o (.cells (List.set (Ug m s.tick) 1 (.int .i64 ((Zt s.files+t.length:Nat):Int))))=H4 at s2 g4 n2 n3 s3 g5
   generalize hH5:H4.set o (.cells (List.set (List.set (Ug m s.tick) 1 (.int .i64 ((Zt s.files+t.length:Nat):Int))) 2 (.int .i64 ((max s.peak (Zt s.files+t.length):Nat):Int))))=H5 at s3 g5
   have hS:Stp (o::d.own) H1 H5:=by
    refine (p3.mono (B:=o::d.own) fun x hx=>by simp[FD.own,hx]).trans (B:=o::d.own) (C:=o::d.own) ?_ (fun _ h=>h) fun _ h=>.inl h
    rw[←hH5,←hH4,←hH3]
    exact ((Stp.set _ _ (by simp[FD.own])).trans (Stp.set _ _ (by simp)) (fun _ h=>h) fun _ h=>.inl h).trans (Stp.set _ _ (by simp)) (fun _ h=>h) fun _ h=>.inl h
   have hfin:∀ y,y≠o→y≠d.f→H5[y]?=H2[y]?:=fun y h1 h2=>by
    rw[←hH5,List.getElem?_set_ne (fun e=>h1 e.symm),←hH4,List.getElem?_set_ne (fun e=>h1 e.symm),←hH3,List.getElem?_set_ne (fun e=>h2 e.symm)]
   have hown:∀ y∈FD.own { d with fil:={ d.fil with text:=d.fil.text++t },tx:=x' },y∈d.own∨H1.length≤y:=fun y hy=>by
    rcases List.mem_cons.1 hy with e|hy
    ·subst e;exact .inl (by simp[FD.own])
    ·rcases p4 y hy with k|k
     ·exact .inl (by simp[FD.own,k])
     ·exact .inr (by omega)
   have hlt1:∀ y∈d.own,y<H1.length:=hd.lt
   have hT:∀ y∈ZJ x',y≠o∧y≠d.f:=fun y hy=>by
    rcases p4 y hy with k|k
    ·exact⟨(k3 y (by simp[FD.own,k])).1,k4 y k⟩
    ·have:=Zf hc
     have:=hlt1 d.f (by simp[FD.own])
     omega
   have hup:Zt (GS s.files n fun f=>{ f with text:=f.text++t })=Zt s.files+t.length:=by
    rw[hfile,←h.files,Ss a d b n _ c3 c4,Mh,List.length_append]
    omega
   have hat:=q2.upd (H':=H5) (d':={ d with fil:={ d.fil with text:=d.fil.text++t },tx:=x' }) (s':={ s.tick with files:=GS s.files n fun f=>{ f with text:=f.text++t },peak:=max s.peak (Zt s.files+t.length) })
    (by rw[g5];simp only[hup];rfl)
    (by rw[hfin m (fun e=>h.om e.symm) (fun e=>hko.2 e.symm)];exact p3.at' m (Zf q2.map) hmT)
    rfl (by show GS s.files n _=_;rw[←h.files,Ss a d b n _ c3 c4])
    ⟨by
     rw[←hH5,List.getElem?_set_ne (fun e=>hko.1 e.symm),←hH4,List.getElem?_set_ne (fun e=>hko.1 e.symm),←hH3]
     exact Zv _ g1,p2.frame fun y hy=>hfin y (hT y hy).1 (hT y hy).2⟩ hS
    (by
     rw[FD.own,List.nodup_cons]
     refine⟨fun hy=>(hT _ hy).2 rfl,?_⟩
     show (ZJ x').Nodup
     rcases p2 with ⟨rfl,_⟩|⟨t',e',rfl,_⟩|rfl <;> simp[ZJ])
    hown
   refine⟨H5,_,?_,h.fileRes q3 hat hS hown⟩
   simp only[q1,go_sem,List.getElem?_cons_zero,List.getElem?_cons_succ,e1,Js,l0,l1,hw,e2,PY,m0,p1,s1,n1,s2,n2,n3,hmx,s3]
theorem ZmD {H:Hp}{o:Nat}{s:Sto}{A:List Nat}(h:StoreAt H o s A)(hk:StoOk s)(n:Zm)(i k:Int)(hi:-9223372036854775808≤i∧i≤9223372036854775807) :
 ∃ H',J8 [.ptr o 0,.str n,.int .i64 i,.int .i64 k] H=some (.tuple [.str (s.read n i k).1,.int .i64 (s.read n i k).2],H')∧StoRes H H' o s.tick A A:=by
 obtain⟨m,clk,ds,h,rfl⟩:=h
 obtain⟨p,e,H1,q1,q2,q3,q4⟩:=S5 h hk.count n
 rw[Ln]
 unfold Fx Sto.read
 rcases q4 with ⟨c1,rfl⟩|⟨c1,c2,rfl⟩|⟨c1,rfl,a,d,b,rfl,c3,c4,c5,rfl⟩
 ·have e1:((19:Int) != 0)=true:=rfl
  rw[if_pos c1]
  exact⟨H1,by simp only[q1,go_sem,List.getElem?_cons_zero,List.getElem?_cons_succ,e1],q2.res q3⟩
 ·have e1:((5:Int) != 0)=true:=rfl
  rw[if_neg (by simp[c1]),c2]
  exact⟨H1,by simp only[q1,go_sem,List.getElem?_cons_zero,List.getElem?_cons_succ,e1],q2.res q3⟩
 ·have e1:((0:Int) != 0)=false:=rfl
  rw[if_neg (by simp[c1]),c5]
  obtain⟨k1,hd,k3,k4⟩:=q2.mid
  have m0:=ld hd.cells 0 (v:=d.tx) rfl
  have hlen:=hd.text.len 5
  have hfile:Zt s.files=Zt (a.map FD.fil)+(d.fil.text.length+Zt (b.map FD.fil)):=by
   rw[←h.files,List.map_append,List.map_cons,Mh]
  have hused:=hk.used
  have hlim:=hk.limit
  refine⟨H1,?_,q2.res q3⟩
  simp only[q1,go_sem,List.getElem?_cons_zero,List.getElem?_cons_succ,e1,MV]
  by_cases hi0:i<0
  ·simp only[decide_eq_true hi0,go_sem,if_pos (show i<0∨(d.fil.text.length:Int)<i∨k<0 from .inl hi0)]
  by_cases hi1:(d.fil.text.length:Int)<i
  ·simp only[decide_eq_false hi0,go_sem,m0,hlen,decide_eq_true hi1,if_pos (show i<0∨(d.fil.text.length:Int)<i∨k<0 from .inr (.inl hi1))]
  by_cases hk0:k<0
  ·simp only[decide_eq_false hi0,go_sem,m0,hlen,decide_eq_false hi1,decide_eq_true hk0,if_pos (show i<0∨(d.fil.text.length:Int)<i∨k<0 from .inr (.inr hk0))]
  have hno:¬ (i<0∨(d.fil.text.length:Int)<i∨k<0):=by omega
  have hw1:IntKind.i64.wrap ((d.fil.text.length:Int)-i)=(d.fil.text.length:Int)-i:=Zr (by omega) (by omega)
  have hw2:IntKind.i64.wrap (i+min k ((d.fil.text.length:Int)-i))=((i.toNat+min k.toNat (d.fil.text.length-i.toNat):Nat):Int):=by rw[Zr (by omega) (by omega)];omega
  obtain⟨y,p1,p2⟩:=hd.text.part (i:=i.toNat) (j:=i.toNat+min k.toNat (d.fil.text.length-i.toNat)) (by omega) (by omega) H1
  have hii:((i.toNat:Nat):Int)=i:=by omega
  rw[hii]at p1
  have htx:(d.fil.text.take (i.toNat+min k.toNat (d.fil.text.length-i.toNat))).drop i.toNat=(d.fil.text.drop i.toNat).take k.toNat:=by
   rw[List.drop_take,Nat.add_sub_cancel_left]
   by_cases hlt:k.toNat≤d.fil.text.length-i.toNat
   ·rw[Nat.min_eq_left hlt]
   ·rw[Nat.min_eq_right (by omega),List.take_of_length_le (by simp),List.take_of_length_le (by simp;omega)]
  rw[htx]at p2
  simp only[decide_eq_false hi0,go_sem,m0,hlen,decide_eq_false hi1,decide_eq_false hk0,MW,hw1,hw2,p1,p2,if_neg hno]
def Pv (t13_9 x8:AV):Option AV :=
 Z0 (Z5 .geq t13_9 (.int .u8 97)) fun t15_10 =>
 Z0 (Z6 t15_10 true (.tuple []) (some t13_9)) fun t17_11 =>
 Z0 (Z6 t15_10 true (.tuple []) (Z5 .leq t17_11 (.int .u8 122))) fun t18_12 =>
 Z0 (Zg t15_10 t18_12 (.bool false)) fun t19_13 =>
 Z0 (Z6 t19_13 false (.tuple []) (some t13_9)) fun t21_14 =>
 Z0 (Z6 t19_13 false (.tuple []) (Z5 .geq t21_14 (.int .u8 65))) fun t22_15 =>
 Z0 (Z6 t19_13 false (.tuple []) (some t22_15)) fun t23_16 =>
 Z0 (Z6 t23_16 true (.tuple []) (some t13_9)) fun t24_17 =>
 Z0 (Z6 t23_16 true (.tuple []) (Z5 .leq t24_17 (.int .u8 90))) fun t25_18 =>
 Z0 (Z6 t19_13 false (.tuple []) (Zg t23_16 t25_18 (.bool false))) fun t26_19 =>
 Z0 (Zg t19_13 (.bool true) t26_19) fun t27_20 =>
 Z0 (Z6 t27_20 false (.tuple []) (some t13_9)) fun t29_21 =>
 Z0 (Z6 t27_20 false (.tuple []) (Z5 .eql t29_21 (.int .u8 95))) fun t30_22 =>
 Z0 (Zg t27_20 (.bool true) t30_22) fun t31_23 =>
 Z0 (Z6 t31_23 false (.tuple []) (some t13_9)) fun t33_24 =>
 Z0 (Z6 t31_23 false (.tuple []) (Z5 .eql t33_24 (.int .u8 46))) fun t34_25 =>
 Z0 (Zg t31_23 (.bool true) t34_25) fun t35_26 =>
 Z0 (Xa .not t35_26) fun t37_27 =>
 Z0 (Z6 t37_27 true (.tuple []) (some x8)) fun t39_28 =>
 Z0 (Z6 t37_27 true (.tuple []) (Z5 .eql t39_28 (.int .i64 0))) fun t40_29 =>
 Z0 (Z6 t37_27 true (.tuple []) (some t40_29)) fun t41_30 =>
 Z0 (Z6 t41_30 false (.tuple []) (some t13_9)) fun t42_31 =>
 Z0 (Z6 t41_30 false (.tuple []) (Z5 .lss t42_31 (.int .u8 48))) fun t43_32 =>
 Z0 (Z6 t37_27 true (.tuple []) (Zg t41_30 (.bool true) t43_32)) fun t44_33 =>
 Z0 (Z6 t37_27 true (.tuple []) (some t44_33)) fun t45_34 =>
 Z0 (Z6 t45_34 false (.tuple []) (some t13_9)) fun t46_35 =>
 Z0 (Z6 t45_34 false (.tuple []) (Z5 .gtr t46_35 (.int .u8 57))) fun t47_36 =>
 Z0 (Z6 t37_27 true (.tuple []) (Zg t45_34 (.bool true) t47_36)) fun t48_37 =>
 Z0 (Zg t37_27 t48_37 (.bool false)) fun t49_38 =>
 some t49_38
theorem O7 (x0 x7 x8 x9:AV)(H0 H:Hp):KF x0 x7 x8 x9 H0 H =
 Z0 (Zu x0 x8) fun t13_9 =>
 Z0 (Pv t13_9 x8) fun t49_38 =>
 Zl t49_38 (some ((.bool false),H)) (KG x0 x7 x8 H0 H):=by
 rw[Sj];simp only[Pv,FB,U8]
theorem Zbm:((List.range 256).all fun n=>(BF (Pv (.int .u8 (n:Int)) (.int .i64 1))==some (!(EP (UInt8.ofNat n) || ZeS (UInt8.ofNat n))))&&(BF (Pv (.int .u8 (n:Int)) (.int .i64 0))==some (!EP (UInt8.ofNat n))))=true:=by kernel_rfl
theorem Zf5 (b:UInt8):Pv (.int .u8 b.toNat) (.int .i64 0)=some (.bool (!EP b)):=by
 have h:=UJ Zbm (Ih b)
 simp only[Bool.and_eq_true,beq_iff_eq,UInt8.ofNat_toNat]at h
 exact U9 h.2
theorem ZgI (b:UInt8){i:Int}(hi:(i==0)=false):Pv (.int .u8 b.toNat) (.int .i64 i)=some (.bool (!(EP b || ZeS b))):=by
 have h:=UJ Zbm (Ih b)
 simp only[Bool.and_eq_true,beq_iff_eq,UInt8.ofNat_toNat]at h
 rw[←U9 h.1]
 have e:Z5 .eql (.int .i64 i) (.int .i64 0)=Z5 .eql (.int .i64 1) (.int .i64 0):=by simp only[Z5,Xs,Xt,hi];rfl
 unfold Pv
 iterate 18 refine congrArg (Z0 _) (funext fun t=>?_)
 cases t with
 |bool b =>
  cases b
  ·rfl
  ·simp only[Zfa,U8,e]
 |_=>rfl
theorem Zf6 (s:Zm)(H0 H:Hp):KE (.str s) H0 H=some (.bool (!s.isEmpty&&decide (s.length≤32)),H):=by
 rw[Si]
 cases s with
 |nil=>simp[go_sem,Yh,Ge]
 |cons b l =>
  simp only[Yh,Ge,go_sem,Zk]
  have:(!((b::l)==([]:Zm)))=true:=rfl
  have c:decide (((b::l).length:Int)≤32)=decide ((b::l).length≤32):=by rw[Bool.eq_iff_iff];simp;omega
  simp only[this,go_sem,c,List.isEmpty_cons,Bool.not_false,Bool.true_and]
theorem ZiQ (s:Zm)(hs:s.length≤1048576)(H0 H:Hp):∀ (k i:Nat),s.length-i=k→0<i→i≤s.length →
 Us (.str s) (.int .i64 s.length) (.int .i64 i) H0 H=some (.bool (((s.drop i).all fun c=>EP c || ZeS c)&&(!s.isEmpty&&decide (s.length≤32))),H):=by
 intro k
 induction k with
 |zero =>
  intro i hk h0 hi
  rw[WQ]
  have hlt:decide ((i:Int)<(s.length:Int))=false:=by simp;omega
  have hd:s.drop i=[]:=List.drop_eq_nil_iff.2 (by omega)
  simp only[go_sem,hlt,Zf6 s,hd,List.all_nil,Bool.true_and]
 |succ k ih =>
  intro i hk h0 hi
  rw[WQ]
  have hl:i<s.length:=by omega
  have hlt:decide ((i:Int)<(s.length:Int))=true:=by simp;omega
  have hw:IntKind.i64.wrap ((i:Int)+1)=((i+1:Nat):Int):=by rw[Zr (by omega) (by omega)];omega
  have h0':((i:Int)==0)=false:=by simp;omega
  simp only[go_sem,hlt,O7,ZU (List.getElem?_eq_getElem hl),ZgI _ h0']
  rw[List.drop_eq_getElem_cons hl,List.all_cons]
  cases hb:(EP s[i] || ZeS s[i]) with
  |false=>simp only[go_sem,Bool.not_false,Bool.false_and]
  |true =>
   simp only[go_sem,Bool.not_true,Bool.true_and,Da,hw]
   exact ih (i+1) (by omega) (by omega) (by omega)
theorem ZiP (s:Zm)(hs:s.length≤1048576)(H:Hp):Ze GA [.str s] H=some (.bool (D6 s),H):=by
 refine Xx (a':=.str s) rfl (H1:=[]) ?_ rfl
 rw[Cc]
 unfold TY
 simp only[go_sem,Zk]
 cases s with
 |nil=>rw[WQ];simp[go_sem,Zf6 [],D6]
 |cons b l =>
  rw[WQ]
  have hlt:decide ((0:Int)<((b::l).length:Int))=true:=by simp
  have hw:IntKind.i64.wrap ((0:Int)+1)=((0+1:Nat):Int):=by decide
  have hidx:Zu (.str (b::l)) (.int .i64 0)=some (.int .u8 b.toNat):=by simp[Zu]
  simp only[go_sem,hlt,O7,hidx,Zf5]
  unfold D6
  cases hb:EP b with
  |false=>simp only[go_sem,Bool.not_false,hb,Bool.false_and]
  |true =>
   have:=ZiQ (b::l) hs [] [] l.length 1 (by simp) (by omega) (by simp)
   rw[show ((1:Nat):Int)=((0+1:Nat):Int) from rfl]at this
   simp only[go_sem,Bool.not_true,Da,hw,this]
   simp only[List.drop_one,List.tail_cons,List.isEmpty_cons,Bool.not_false,Bool.true_and,hb]
theorem ZpZ {H:Hp}{m clk:Nat}{es:List (AV×AV×Nat)}(h:H[m]?=some (.map es clk)):Q0 (.map m) H=some (.int .i64 (es.length:Int)):=by
 unfold Q0 YP
 dsimp only
 rw[h]
theorem ZhI {H:Hp}{o:Nat}{s:Sto}{A:List Nat}(h:StoreAt H o s A)(hk:StoOk s)(n:Zm)(hn:n.length≤1048576) :
 ∃ H' A',UT [.ptr o 0,.str n] H=some (.int .i64 (s.create n).1,H')∧StoRes H H' o (s.create n).2 A A':=by
 obtain⟨m,clk,ds,h,rfl⟩:=h
 obtain⟨H1,q1,q2,q3⟩:=ZcZ h hk.count
 have hfn:=ZiP n hn H1
 have hc:H1[o]?=some (.cells (Ug m s.tick)):=q2.cells
 have l3:=ld hc 3 (v:=.map m) rfl
 have hlk:=q2.look n
 rw[U2]at hlk
 have hlm:=ZpZ q2.map
 have hdl:(ds.map FD.ent).length=s.files.length:=by rw[List.length_map,←h.files,List.length_map]
 rw[hdl]at hlm
 rw[Nd]
 unfold Bo Sto.create
 cases hcr:s.tick.crashed with
 |true =>
  rw[hcr]at q1
  rw[if_pos rfl]
  exact⟨H1,_,by simp only[go_sem,q1],q2.res q3⟩
 |false =>
  rw[hcr]at q1
  rw[if_neg (by simp)]
  cases hnb:D6 n with
  |false =>
   rw[hnb]at hfn
   rw[if_pos rfl]
   exact⟨H1,_,by simp only[go_sem,q1,hfn,Bool.not_false],q2.res q3⟩
  |true =>
   rw[hnb]at hfn
   rw[if_neg (by simp)]
   rcases hlk with ⟨k1,k2⟩|⟨a,d,b,k1,k2,k3,k4,k5⟩
   ·rw[k1]
    by_cases h64:64≤s.files.length
    ·have e1:decide ((64:Int)≤(s.files.length:Int))=true:=by rw[decide_eq_true_eq];omega
     simp only[if_pos h64]
     exact⟨H1,_,by simp only[go_sem,q1,hfn,Bool.not_true,l3,k2,hlm,e1],q2.res q3⟩
    ·have e1:decide ((64:Int)≤(s.files.length:Int))=false:=by simp;omega
     have e2:Yj (.map 9 129) .eql (.map m) .nilm=some (.bool false):=rfl
     have hbx:ZW (.agg [.nils,.int .i64 0]) H1=some (.ptr H1.length 0,H1++[.cells [.nils,.int .i64 0]]):=rfl
     have hm2:(H1++[AObj.cells [.nils,.int .i64 0]])[m]?=some (.map (ds.map FD.ent) clk):=YB q2.map _
     have hset:Xb .string (.map m) (.str n) (.ptr H1.length 0) (H1++[AObj.cells [.nils,.int .i64 0]])=some (.tuple [],(H1++[AObj.cells [.nils,.int .i64 0]]).set m (.map (ds.map FD.ent++[(.str n,.ptr H1.length 0,clk)]) (clk+1))):=by
      have hkk:Xy .string (.str n)=true:=rfl
      unfold Xb
      dsimp only
      rw[hm2]
      dsimp only
      rw[if_pos hkk,Zbi ds n 0 (by rw[h.files];exact k1)]
     simp only[if_neg h64]
     have hmlt:=Zf q2.map
     have holt:=Zf hc
     have hS:Stp [o,m] H1 ((H1++[AObj.cells [.nils,.int .i64 0]]).set m (.map (ds.map FD.ent++[(.str n,.ptr H1.length 0,clk)]) (clk+1))) :=
      (Stp.push (A:=[o,m]) H1 _).trans (Stp.set _ _ (by simp)) (fun _ h=>h) fun _ h=>.inl h
     have hfile:∀ d∈ds,FileAt ((H1++[AObj.cells [.nils,.int .i64 0]]).set m (.map (ds.map FD.ent++[(.str n,.ptr H1.length 0,clk)]) (clk+1))) d:=fun d hd=>(q2.file d hd).frame fun y hy=>by
      have:=q2.own_lt hd hy
      exact hS.at' y ((q2.file d hd).lt y hy) (by simp[this.1,this.2])
     have hlt:=q2.lt
     have hrun:=ld (YB hc [AObj.cells [.nils,.int .i64 0]]) 3 (show (Ug m s.tick)[3]?=some (.map m) from rfl)
     refine⟨(H1++[AObj.cells [.nils,.int .i64 0]]).set m (.map (ds.map FD.ent++[(.str n,.ptr H1.length 0,clk)]) (clk+1)),o::m::(ds++[FD.mk ⟨n,[],0⟩ H1.length .nils clk]).flatMap FD.own,?_,⟨⟨m,clk+1,ds++[⟨⟨n,[],0⟩,H1.length,.nils,clk⟩],⟨?_,?_,?_,?_,?_,?_⟩,rfl⟩,?_,?_⟩⟩
     ·simp only[go_sem,q1,hfn,Bool.not_true,l3,k2,hlm,e1,PZ,e2,N0,hbx,hset]
     ·show _=s.files++[_]
      rw[List.map_append,h.files];rfl
     ·rw[Y5 _ h.om.symm (YB hc _)]
      simp only[Ug,U3,Zt,U2]
      rfl
     ·rw[Zv _ hm2];simp[FD.ent]
     ·intro d hd
      rcases List.mem_append.1 hd with hd|hd
      ·exact hfile d hd
      ·rw[List.mem_singleton.1 hd]
       exact⟨Y5 _ (by show m≠H1.length;omega) (by simp),.inl ⟨rfl,rfl⟩⟩
     ·rw[List.flatMap_append]
      have h0:=h.nd
      have hx:(o::m::ds.flatMap FD.own)++[H1.length]=o::m::(ds.flatMap FD.own++[FD.mk ⟨n,[],0⟩ H1.length .nils clk].flatMap FD.own):=by simp[FD.own,ZJ]
      rw[←hx,List.nodup_append]
      refine⟨h0,by simp,fun x hx y hy=>?_⟩
      rw[List.mem_singleton.1 hy]
      have:=hlt x hx
      omega
     ·obtain⟨b1,b2⟩:=h.born
      refine⟨?_,fun d hd=>?_⟩
      ·rw[List.map_append,List.nodup_append]
       refine⟨b1,by simp,fun x hx y hy=>?_⟩
       obtain⟨d,hd,rfl⟩:=List.mem_map.1 hx
       have:=b2 d hd
       simp at hy
       omega
      ·rcases List.mem_append.1 hd with hd|hd
       ·have:=b2 d hd;omega
       ·rw[List.mem_singleton.1 hd];simp
     ·refine (q3.trans hS (C:=o::m::ds.flatMap FD.own) (fun x hx=>by rw[List.mem_singleton.1 hx];simp) fun x hx=>.inl ?_)
      simp at hx
      rcases hx with e|e <;> subst e <;> simp
     ·intro x hx
      rcases List.mem_cons.1 hx with e|hx
      ·subst e;exact .inl (by simp)
      rcases List.mem_cons.1 hx with e|hx
      ·subst e;exact .inl (by simp)
      rw[List.flatMap_append]at hx
      rcases List.mem_append.1 hx with hx|hx
      ·exact .inl (by simp[hx])
      ·have hx2:x=H1.length:=by simpa[FD.own,ZJ]using hx
       rw[hx2]
       exact .inr q3.len
   ·rw[k4]
    exact⟨H1,_,by simp only[go_sem,q1,hfn,Bool.not_true,l3,k5],q2.res q3⟩
theorem Aa {α:Type}(a:List α)(d:α)(b:List α):(a++d::b).eraseIdx a.length=a++b:=by
 induction a with
 |nil=>rfl
 |cons x a ih=>simp only[List.cons_append,List.length_cons,List.eraseIdx_cons_succ,ih]
theorem ZhP {H:Hp}{o:Nat}{s:Sto}{A:List Nat}(h:StoreAt H o s A)(hk:StoOk s)(n:Zm) :
 ∃ H' A',UU [.ptr o 0,.str n] H=some (.int .i64 (s.remove n).1,H')∧StoRes H H' o (s.remove n).2 A A':=by
 obtain⟨m,clk,ds,h,rfl⟩:=h
 obtain⟨p,e,H1,q1,q2,q3,q4⟩:=S5 h hk.count n
 rw[Nf]
 unfold Bp Sto.remove
 rcases q4 with ⟨c1,rfl⟩|⟨c1,c2,rfl⟩|⟨c1,rfl,a,d,b,rfl,c3,c4,c5,rfl⟩
 ·have e1:((19:Int)==0)=false:=rfl
  rw[if_pos c1]
  exact⟨H1,_,by simp only[q1,go_sem,List.getElem?_cons_zero,List.getElem?_cons_succ,e1,Vg],q2.res q3⟩
 ·have e1:((5:Int)==0)=false:=rfl
  rw[if_neg (by simp[c1]),c2]
  exact⟨H1,_,by simp only[q1,go_sem,List.getElem?_cons_zero,List.getElem?_cons_succ,e1,Vg],q2.res q3⟩
 ·have e1:((0:Int)==0)=true:=rfl
  rw[if_neg (by simp[c1]),c5]
  obtain⟨k1,hd,k3,k4⟩:=q2.mid
  have hfile:Zt s.files=Zt (a.map FD.fil)+(d.fil.text.length+Zt (b.map FD.fil)):=by
   rw[←h.files,List.map_append,List.map_cons,Mh]
  have hrm:Kc s.files n=a.map FD.fil++b.map FD.fil:=by rw[←h.files,Zqj a d b n c3 c4]
  have hup:Zt (Kc s.files n)=Zt s.files-d.fil.text.length:=by rw[hrm,U3,hfile];omega
  have hused:=hk.used
  have hlim:=hk.limit
  have hc:H1[o]?=some (.cells (Ug m s.tick)):=q2.cells
  have l1:=ld hc 1 (v:=.int .i64 (Zt s.files:Int)) (by rw[←U2 s];rfl)
  have l3:=ld hc 3 (v:=.map m) rfl
  have m0:=ld hd.cells 0 (v:=d.tx) rfl
  have hlen:=hd.text.len 5
  have hlk:ZZ .string .nilp false (.map m) (.str n) H1=some (.ptr d.f 0):=by
   rcases q2.look n with ⟨k,_⟩|⟨a',d',b',k5,k6,k7,k8,k9⟩
   ·rw[U2,c5]at k;cases k
   ·rw[k9]
    have he:Yw (.str n) ((a++d::b).map FD.ent) 0=Yw (.str n) ((a'++d'::b').map FD.ent) 0:=by rw[k5]
    rw[Tg a d b n 0 c3 c4,Tg a' d' b' n 0 k6 k7]at he
    injection he with he
    injection he with he
    injection he with _ he
    injection he with he
    rw[he]
  have hw:IntKind.i64.wrap ((Zt s.files:Int)-(d.fil.text.length:Int))=((Zt s.files-d.fil.text.length:Nat):Int):=by rw[Zr (by omega) (by omega)];omega
  have s1:=st hc 1 (v:=.int .i64 ((Zt s.files-d.fil.text.length:Nat):Int)) rfl rfl (by simp[Ug])
  have g1:=Zv (AObj.cells (List.set (Ug m s.tick) 1 (.int .i64 ((Zt s.files-d.fil.text.length:Nat):Int)))) hc
  have g2:=Y5 (.cells (List.set (Ug m s.tick) 1 (.int .i64 ((Zt s.files-d.fil.text.length:Nat):Int)))) h.om q2.map
  have n3:=ld g1 3 (v:=.map m) rfl
  generalize hH2:H1.set o (.cells (List.set (Ug m s.tick) 1 (.int .i64 ((Zt s.files-d.fil.text.length:Nat):Int))))=H2 at s1 g1 g2 n3
  have hdel:Uz .string (.map m) (.str n) H2=some (.tuple [],H2.set m (.map ((a++b).map FD.ent) clk)):=by
   have hkk:Xy .string (.str n)=true:=rfl
   unfold Uz
   dsimp only
   rw[g2]
   dsimp only
   rw[if_pos hkk,Tg a d b n 0 c3 c4]
   dsimp only
   rw[Nat.zero_add,List.map_append,List.map_cons,show a.length=(a.map FD.ent).length by simp,Aa,List.map_append]
  have hS:Stp [o,m] H1 (H2.set m (.map ((a++b).map FD.ent) clk)):=by
   rw[←hH2]
   exact (Stp.set _ _ (by simp)).trans (Stp.set _ _ (by simp)) (fun _ h=>h) fun _ h=>.inl h
  have hsub:∀ y∈a++b,y∈a++d::b:=fun y hy=>by rcases List.mem_append.1 hy with k|k <;> simp[k]
  refine⟨H2.set m (.map ((a++b).map FD.ent) clk),o::m::(a++b).flatMap FD.own,?_,⟨⟨m,clk,a++b,⟨?_,?_,?_,?_,?_,?_⟩,rfl⟩,?_,?_⟩⟩
  ·have hdrop:Ja [.ptr o 0,.str n] H1=some (.tuple [],H2.set m (.map ((a++b).map FD.ent) clk)):=by
    rw[Lp]
    unfold Fz
    simp only[go_sem,l3,hlk,l1,m0,hlen,hw,s1,n3,hdel]
   simp only[q1,go_sem,List.getElem?_cons_zero,List.getElem?_cons_succ,e1,hdrop,Vg]
  ·show _=Kc s.files n
   rw[hrm,List.map_append]
  ·rw[Y5 _ h.om.symm g1]
   simp only[Ug,hup]
   rfl
  ·exact Zv _ g2
  ·intro y hy
   refine (q2.file y (hsub y hy)).frame fun z hz=>hS.at' z ((q2.file y (hsub y hy)).lt z hz) ?_
   have:=q2.own_lt (hsub y hy) hz
   simp[this.1,this.2]
  ·refine (List.Sublist.nodup ?_ h.nd)
   rw[List.flatMap_append,List.flatMap_append,List.flatMap_cons]
   exact ((List.Sublist.refl _).append (List.sublist_append_right _ _)).cons_cons m |>.cons_cons o
  ·obtain⟨b1,b2⟩:=h.born
   refine⟨?_,fun y hy=>b2 y (hsub y hy)⟩
   rw[List.map_append,List.map_cons]at b1
   rw[List.map_append]
   exact List.Sublist.nodup ((List.Sublist.refl _).append (List.sublist_cons_self _ _)) b1
  ·refine q3.trans hS (C:=o::m::(a++d::b).flatMap FD.own) (fun x hx=>by rw[List.mem_singleton.1 hx];simp) fun x hx=>.inl ?_
   simp at hx
   rcases hx with e|e <;> subst e <;> simp
  ·intro x hx
   rcases List.mem_cons.1 hx with e|hx
   ·subst e;exact .inl (by simp)
   rcases List.mem_cons.1 hx with e|hx
   ·subst e;exact .inl (by simp)
   obtain⟨y,hy,hxy⟩:=List.mem_flatMap.1 hx
   exact .inl (List.mem_cons_of_mem _ (List.mem_cons_of_mem _ (List.mem_flatMap.2 ⟨y,hsub y hy,hxy⟩)))
def Tj (l:List Fil):List Fil:=(Qh (l.map Fil.name)).filterMap (ZQ l)
def YL (f:Fil):AV:=.agg [.str f.name,.int .i64 (f.text.length:Int),.int .i64 (f.syn:Int)]
theorem Zml:∀ ds:List FD,Me (ds.map FD.ent)=some (ds.map fun d=>d.fil.name):=by
 intro ds
 induction ds with
 |nil=>rfl
 |cons d ds ih=>rw[List.map_cons,FD.ent,Me,ih];rfl
theorem Zl6:∀ l:List Zm,l.Nodup→Pw l=true:=by
 intro l
 induction l with
 |nil=>intro _;rfl
 |cons s r ih =>
  intro h
  obtain⟨h1,h2⟩:=List.nodup_cons.1 h
  simp only[Pw,Bool.and_eq_true,List.all_eq_true]
  refine⟨fun t ht=>?_,ih h2⟩
  have:t≠s:=fun e=>h1 (e ▸ ht)
  simp[this]
theorem Zn1 (c:Nat):∀ l:List Nat,l.Nodup→(∀ n∈l,n<c)→Eo c l=true:=by
 intro l
 induction l with
 |nil=>intro _ _;rfl
 |cons s r ih =>
  intro h hc
  obtain⟨h1,h2⟩:=List.nodup_cons.1 h
  simp only[Eo,Bool.and_eq_true,List.all_eq_true,decide_eq_true_eq]
  refine⟨hc s (by simp),fun t ht=>?_,ih h2 fun n hn=>hc n (by simp[hn])⟩
  have:t≠s:=fun e=>h1 (e ▸ ht)
  simp[this]
theorem Zog {n:Zm}(h:D6 n=true):n.length≤32:=by
 unfold D6 at h
 rw[Bool.and_eq_true,decide_eq_true_eq]at h
 exact h.2
theorem Zly {H:Hp}{o m clk:Nat}{ds:List FD}{s:Sto}(h:StAt H o m clk ds s)(hk:StoOk s):∃ x,namesE.run [.ptr o 0] H=some (x,H)∧SS x (Qh (s.files.map Fil.name)):=by
 have hnm:ds.map (fun d=>d.fil.name)=s.files.map Fil.name:=by rw[←h.files,List.map_map];rfl
 have hv:JQ H o=some (ZbG (s.files.map Fil.name)):=by
  unfold JQ
  rw[h.cells]
  dsimp only
  rw[show ([AV.int .i64 (s.limit:Int),.int .i64 (Zt s.files:Int),.int .i64 (s.peak:Int),.map m,.bool s.crashed,.int .i64 (s.count:Int)])[3]?=some (.map m) from rfl]
  dsimp only
  rw[h.map]
  dsimp only
  rw[Zml,hnm]
  dsimp only
  rw[if_pos]
  have hb:=Zn1 clk _ h.born.1 fun n hn=>by
   obtain⟨d,hd,rfl⟩:=List.mem_map.1 hn
   exact h.born.2 d hd
  have he:(ds.map FD.ent).map (·.2.2)=ds.map FD.born:=by rw[List.map_map];rfl
  rw[he,hb,Zl6 _ hk.nd]
  simp only[Bool.true_and,Bool.and_eq_true,List.all_eq_true,decide_eq_true_eq,List.length_map]
  refine⟨fun t ht=>?_,by have:=hk.len;omega⟩
  obtain⟨f,hf,rfl⟩:=List.mem_map.1 ht
  have:=Zog (hk.name f hf)
  omega
 refine⟨ZbG (s.files.map Fil.name),?_,?_⟩
 ·show (JQ H o).map (·,H)=_
  rw[hv];rfl
 ·unfold ZbG
  split
  ·rename_i hn;exact .inl ⟨rfl,by rw[hn];rfl⟩
  ·rename_i s0 r hn;exact .inr ⟨.no,by rw[hn]⟩
theorem Zln {H0:Hp}{o m clk:Nat}{ds:List FD}{s:Sto}(h:StAt H0 o m clk ds s)(hk:StoOk s){x:AV}{ns:List Zm}(hx:SS x ns)(hns:∀ n∈ns,∃ f,ZQ s.files n=some f)(hl:ns.length≤64)(HB:Hp):∀ (r d:List Zm) (x3:AV) (H:Hp),ns=d++r →
 RowN H0.length H 3 x3 ((d.filterMap (ZQ s.files)).map YL)→Keep H0.length H0 H→H0.length≤H.length →
 ∃ y H',Vt (.ptr o 0) x3 x (.int .i64 (ns.length:Int)) (.int .i64 (d.length:Int)) HB H=some (y,H')∧RowN H0.length H' 3 y ((ns.filterMap (ZQ s.files)).map YL)∧Keep H0.length H0 H'∧H0.length≤H'.length:=by
 intro r
 induction r with
 |nil =>
  intro d x3 H hd h3 hK hlen
  rw[List.append_nil]at hd
  subst hd
  have hlt:decide ((ns.length:Int)<(ns.length:Int))=false:=by simp
  rw[Gc]
  simp only[go_sem,hlt,MS]
  exact⟨_,_,rfl,h3,hK,hlen⟩
 |cons n r ih =>
  intro d x3 H hd h3 hK hlen
  have hlen2:ns.length=d.length+(r.length+1):=by rw[hd];simp
  have hlt:decide ((d.length:Int)<(ns.length:Int))=true:=by simp;omega
  have hw1:IntKind.i64.wrap ((d.length:Int)+1)=((d.length+1:Nat):Int):=by rw[Zr (by omega) (by omega)];omega
  have hin:ns[d.length]?=some n:=by rw[hd,List.getElem?_append_right (Nat.le_refl _)];simp
  have hidx:=SS.idx hx hin
  have hat:StAt H o m clk ds s:=h.frame fun a ha=>hK a (h.lt a ha)
  obtain⟨f,hf⟩:=hns n (by rw[hd];simp)
  have l3:=ld hat.cells 3 (v:=.map m) rfl
  rcases hat.look n with ⟨k,_⟩|⟨a',d',b',k5,k6,k7,k8,k9⟩
  ·rw[hf]at k;cases k
  ·have hfd:=hat.file d' (by rw[k5];simp)
   have hfe:f=d'.fil:=by rw[hf]at k8;injection k8
   have m0:=ld hfd.cells 0 (v:=d'.tx) rfl
   have m1:=ld hfd.cells 1 (v:=.int .i64 (d'.fil.syn:Int)) rfl
   have hlen3:=hfd.text.len 5
   have hfill:(YS [(0,1,.str n),(1,1,.int .i64 (d'.fil.text.length:Int)),(2,1,.int .i64 (d'.fil.syn:Int))] [(.str []),(.int .i64 0),(.int .i64 0)]).map AV.agg=some (YL d'.fil):=by rw[←k6];rfl
   have hone:(ZF 3 [(0,YL d'.fil)] [(.agg [(.str []),(.int .i64 0),(.int .i64 0)])]).map (AV.vs 3 .clip)=some (.vs 3 .clip [YL d'.fil]):=rfl
   have hdl:(d.filterMap (ZQ s.files)).length≤d.length:=List.length_filterMap_le _ _
   obtain⟨x',H1,q1,q2,q3,q4,_⟩:=h3.app hlen 32 (.vs 3 .clip [YL d'.fil]) [YL d'.fil] rfl (by simp;omega)
   obtain⟨y,H',p1,p2,p3,p4⟩:=ih (d++[n]) x' H1 (by rw[hd];simp) (by rw[List.filterMap_append,List.map_append];simpa[hf,hfe]using q2) (hK.trans q4) q3
   rw[List.length_append,List.length_singleton]at p1
   refine⟨y,H',?_,p2,p3,p4⟩
   rw[Gc]
   simp only[go_sem,hlt,MT,hidx,ZG,l3,k9,m0,m1,hlen3,hfill,hone,q1,MU,hw1]
   exact p1
theorem Zmg (l:List Zm)(n:Zm):n∈Qh l↔n∈l:=(D8 l).mem_iff
theorem ZnK {l:List Fil}{n:Zm}(h:n∈l.map Fil.name):∃ f,ZQ l n=some f:=by
 cases hg:ZQ l n with
 |some f=>exact⟨f,rfl⟩
 |none =>
  obtain⟨f,hf,rfl⟩:=List.mem_map.1 h
  exact absurd rfl (Zl9.1 hg f hf)
theorem ZeI (H:Hp)(n f:Nat)(x:Fil):Z9 H n (f+2) (YL x)=some (YL x):=rfl
theorem Zob (H:Hp)(n f:Nat):∀ l:List Fil,(l.map YL).mapM (Z9 H n (f+2))=some (l.map YL):=by
 intro l
 induction l with
 |nil=>rfl
 |cons a l ih=>rw[List.map_cons,List.mapM_cons,ZeI,ih];rfl
theorem ZbU {f:List AV→Hp→Z3}{args:List AV}{H H1:Hp}{v v':AV}(hc:f args H=some (v,H1))(hK:Keep H.length H H1)(hl:H.length≤H1.length)(hv:Z9 H1 H.length 6 v=some v'):D7 f args H=some (v',H):=by
 have ht:H1.take H.length=H:=by
  apply List.ext_getElem?
  intro i
  by_cases hi:i<H.length
  ·rw[List.getElem?_take_of_lt hi,hK i hi]
  ·rw[List.getElem?_eq_none (by simp;omega),List.getElem?_eq_none (by omega)]
 unfold D7
 rw[hc]
 dsimp only
 rw[ht,if_pos (A8 _),hv]
theorem Zhe {H:Hp}{o:Nat}{s:Sto}{A:List Nat}(h:StoreAt H o s A)(hk:StoOk s):∃ x,D7 Wk [.ptr o 0] H=some (x,H)∧Sl 3 x ((Tj s.files).map YL):=by
 obtain⟨m,clk,ds,h,rfl⟩:=h
 obtain⟨x,q1,q2⟩:=Zly h hk
 have hnl:(Qh (s.files.map Fil.name)).length≤64:=by rw[(D8 _).length_eq,List.length_map];exact hk.len
 obtain⟨y,H1,p1,p2,p3,p4⟩:=Zln h hk q2 (fun n hn=>ZnK ((Zmg _ _).1 hn)) hnl H _ [] .nils H rfl (.inl ⟨rfl,rfl⟩) (Keep.refl _ _) (Nat.le_refl _)
 have hrun:Wk [.ptr o 0] H=some (y,H1):=by
  rw[Lm]
  unfold Fw
  simp only[go_sem,MR,q1,SS.len q2 9]
  exact p1
 rcases p2 with ⟨rfl,hn⟩|⟨t,e,rfl,ht,hnt⟩
 ·exact⟨.nils,ZbU hrun p3 p4 rfl,.inl ⟨rfl,hn⟩⟩
 ·refine⟨.vs 3 (if t<H.length then .own t e else .no) ((Tj s.files).map YL),ZbU hrun p3 p4 (by rw[Es,Zob];rfl),.inr ⟨_,rfl⟩⟩
theorem Zpd (n:Int)(hn:-9223372036854775808≤n∧n≤9223372036854775807)(H:Hp):∃ H',Ml [.int .i64 n] H=some (.ptr (H.length+1) 0,H')∧StoreAt H' (H.length+1) ⟨(min (max n 0) 262144).toNat,0,[],false,0⟩ [H.length+1,H.length]∧H'=H++[.map [] 0,.cells [.int .i64 (min (max n 0) 262144),.int .i64 0,.int .i64 0,.map H.length,.bool false,.int .i64 0]]:=by
 have hf:(YS [(0,1,.int .i64 (min (max n 0) 262144)),(3,1,.map H.length)] [(.int .i64 0),(.int .i64 0),(.int .i64 0),.nilm,(.bool false),(.int .i64 0)]).map AV.agg=some (.agg [.int .i64 (min (max n 0) 262144),.int .i64 0,.int .i64 0,.map H.length,.bool false,.int .i64 0]):=rfl
 have hb:∀ l:List AV,ZW (.agg l) (H++[.map [] 0])=some (.ptr (H.length+1) 0,H++[.map [] 0]++[.cells l]):=fun l=>by rw[JC rfl];simp[AV.cells]
 refine⟨_,?_,⟨H.length,0,[],⟨rfl,?_,?_,by simp,by simp,by simp,by simp⟩,rfl⟩,rfl⟩
 ·rw[Zcl]
  unfold IW
  simp only[go_sem,hf,hb,List.append_assoc,List.cons_append,List.nil_append]
 ·have:((min (max n 0) 262144).toNat:Int)=min (max n 0) 262144:=by omega
  simp[Zt,this]
 ·simp
def JY (a b:Int):Int:=IntKind.u32.wrap ((BitVec.ofInt IntKind.u32.bits a ^^^ BitVec.ofInt IntKind.u32.bits b).toNat:Int)
def Ej (a b:Int):Int:=IntKind.u32.wrap ((BitVec.ofInt IntKind.u32.bits a &&& BitVec.ofInt IntKind.u32.bits b).toNat:Int)
theorem ZiY (a b:Int):Z5 .xor (.int .u32 a) (.int .u32 b)=some (.int .u32 (JY a b)):=by simp[Z5,Xs,Xt,JY]
theorem ZiX (a b:Int):Z5 .and (.int .u32 a) (.int .u32 b)=some (.int .u32 (Ej a b)):=by simp[Z5,Xs,Xt,Ej]
def GF (k:IntKind)(n:Nat)(a:Int):Int:=a.fdiv (2 ^ (min n k.bits))
def ZoD (a:Int):Int:=IntKind.i64.wrap (a*2 ^ (min 8 IntKind.i64.bits))
theorem DZ (k k':IntKind)(a:Int)(n:Nat):Z5 .shr (.int k a) (.int k' (n:Int))=some (.int k (GF k n a)):=by
 simp only[Z5,Xs,GF]
 rw[if_neg (by omega),Int.toNat_natCast]
theorem O1 (a:Int):0≤Ej a 15∧Ej a 15<16:=by
 have h:(BitVec.ofInt IntKind.u32.bits a &&& BitVec.ofInt IntKind.u32.bits 15).toNat≤15:=by
  rw[BitVec.toNat_and]
  exact Nat.le_trans Nat.and_le_right (by decide)
 unfold Ej
 generalize (BitVec.ofInt IntKind.u32.bits a &&& BitVec.ofInt IntKind.u32.bits 15).toNat=n at h
 have:IntKind.u32.wrap (n:Int)=(n:Int):=by
  have e1:(2 ^ IntKind.u32.bits:Int)=4294967296:=by decide
  have e2:IntKind.u32.signed=false:=rfl
  unfold IntKind.wrap
  simp only[e1,e2,Bool.false_and,Bool.false_eq_true,if_false]
  omega
 rw[this]
 omega
def ZjI (i:Int):Int:=crcTab.getD i.toNat 0
theorem ZhD {i:Int}(h:0≤i∧i<16)(H:Hp):∃ p,DQ 16 1 Zit (.int .u32 i)=some p∧Z4 false 1 p H=some (.int .u32 (ZjI i)):=by
 have hl:crcTab.length=16:=rfl
 refine⟨.vp ((crcTab.map (AV.int .u32)).drop (i.toNat*1)),?_,?_⟩
 ·unfold DQ
  dsimp only
  rw[if_pos (by omega)]
  unfold Z8 Zit
  dsimp only
  rw[if_pos (by simp[hl];omega)]
 ·unfold Z4 Go.Am.apart ZjI
  dsimp only
  rw[if_neg (by simp),List.getElem?_drop,Nat.add_zero,Nat.mul_one,List.getElem?_map,List.getElem?_eq_getElem (show i.toNat<crcTab.length by omega),List.getD_eq_getElem?_getD,List.getElem?_eq_getElem (show i.toNat<crcTab.length by omega)]
  rfl
def Zbv (c:Int):Int:=JY (ZjI (Ej c 15)) (GF .u32 4 c)
def Zpa (c:Int)(b:UInt8):Int:=Zbv (Zbv (JY c (IntKind.u32.wrap (b.toNat:Int))))
def DT (s:Zm):Int:=s.foldl Zpa 4294967295
def MD (s:Zm):Int:=JY IntKind.u32.max (DT s)
theorem Znh (s:Zm)(hs:s.length≤1048576)(H0 H:Hp):∀ (r d:Zm),s=d++r→BR (.str s) (.int .u32 (DT d)) (.int .i64 (s.length:Int)) (.int .i64 (d.length:Int)) H0 H=some (.int .u32 (MD s),H):=by
 intro r
 induction r with
 |nil =>
  intro d hd
  rw[List.append_nil]at hd
  subst hd
  have hlt:decide ((s.length:Int)<(s.length:Int))=false:=by simp
  have hx:Xa .xor (.int .u32 (DT s))=some (.int .u32 (MD s)):=rfl
  rw[NO]
  simp only[go_sem,hlt,Zbo,hx]
 |cons b r ih =>
  intro d hd
  have hlen:s.length=d.length+(r.length+1):=by rw[hd];simp
  have hlt:decide ((d.length:Int)<(s.length:Int))=true:=by simp;omega
  have hw1:IntKind.i64.wrap ((d.length:Int)+1)=((d.length+1:Nat):Int):=by rw[Zr (by omega) (by omega)];omega
  have hidx:Zu (.str s) (.int .i64 (d.length:Int))=some (.int .u8 (b.toNat:Int)):=ZU (by rw[hd,List.getElem?_append_right (Nat.le_refl _)];simp)
  have hcv:YK .u32 (.int .u8 (b.toNat:Int))=some (.int .u32 (IntKind.u32.wrap (b.toNat:Int))):=rfl
  obtain⟨p1,a1,a2⟩:=ZhD (O1 (JY (DT d) (IntKind.u32.wrap (b.toNat:Int)))) H
  obtain⟨p2,b1,b2⟩:=ZhD (O1 (Zbv (JY (DT d) (IntKind.u32.wrap (b.toNat:Int))))) H
  have s1:=DZ .u32 .u64 (JY (DT d) (IntKind.u32.wrap (b.toNat:Int))) 4
  have s2:=DZ .u32 .u64 (Zbv (JY (DT d) (IntKind.u32.wrap (b.toNat:Int)))) 4
  rw[show ((4:Nat):Int)=4 from rfl]at s1 s2
  have ih':=ih (d++[b]) (by rw[hd];simp)
  rw[List.length_append,List.length_singleton,show DT (d++[b])=Zpa (DT d) b by simp[DT]]at ih'
  have e1:JY (ZjI (Ej (JY (DT d) (IntKind.u32.wrap (b.toNat:Int))) 15)) (GF .u32 4 (JY (DT d) (IntKind.u32.wrap (b.toNat:Int))))=Zbv (JY (DT d) (IntKind.u32.wrap (b.toNat:Int))):=rfl
  rw[NO]
  simp only[go_sem,hlt,Zbp,hidx,hcv,ZiY,ZiX,a1,a2,s1,e1,b1,b2,s2,Zbq,hw1]
  exact ih'
theorem Zng (s:Zm)(hs:s.length≤1048576)(H:Hp):Ze Mj [.str s] H=some (.int .u32 (MD s),H):=by
 refine Xx (a':=.str s) rfl (H1:=[]) ?_ rfl
 rw[Zch]
 unfold IQ
 simp only[go_sem]
 exact Znh s hs [] [] s [] rfl
def WE (n:Int):UInt8:=UInt8.ofNat (IntKind.u8.wrap n).toNat
def AW (s:Zm):Zm:=[WE (MD s),WE (GF .u32 8 (MD s)),WE (GF .u32 16 (MD s)),WE (GF .u32 24 (MD s))]
theorem ZfX (s:Zm)(hs:s.length≤1048576)(H:Hp):Ze Ff [.str s] H=some (.str (AW s),H):=by
 have s8:=DZ .u32 .u64 (MD s) 8
 have s16:=DZ .u32 .u64 (MD s) 16
 have s24:=DZ .u32 .u64 (MD s) 24
 rw[show ((8:Nat):Int)=8 from rfl]at s8
 rw[show ((16:Nat):Int)=16 from rfl]at s16
 rw[show ((24:Nat):Int)=24 from rfl]at s24
 have cv:∀ n,YK .u8 (.int .u32 n)=some (.int .u8 (IntKind.u8.wrap n)):=fun n=>rfl
 have hse:∀ a b c d:Int,(ZF 1 [(0,.int .u8 a),(1,.int .u8 b),(2,.int .u8 c),(3,.int .u8 d)] [(.int .u8 0),(.int .u8 0),(.int .u8 0),(.int .u8 0)]).map (AV.vs 1 .clip)=some (.vs 1 .clip [.int .u8 a,.int .u8 b,.int .u8 c,.int .u8 d]):=fun a b c d=>rfl
 have hrd:∀ (a b c d:Int) (H:Hp),Q2 (.vs 1 .clip [.int .u8 a,.int .u8 b,.int .u8 c,.int .u8 d]) H=some (.str [UInt8.ofNat a.toNat,UInt8.ofNat b.toNat,UInt8.ofNat c.toNat,UInt8.ofNat d.toNat]):=fun a b c d H=>rfl
 refine Xx (a':=.str s) rfl (H1:=[]) ?_ rfl
 rw[Zci]
 unfold IR
 simp only[Zng s hs,go_sem,cv,s8,s16,s24,hse,hrd]
 rfl
theorem ZfW (s:Zm):(AW s).length=4:=rfl
def Um (s:Zm):Zm:=[WE (GF .i64 8 (s.length:Int)),WE (s.length:Int)]++s
def Yy (s:Zm):Zm:=Um s++AW (Um s)
theorem UL (s:Zm):(Um s).length=s.length+2:=by simp[Um]
theorem Jo (s:Zm):(Yy s).length=s.length+6:=by simp[Yy,UL,ZfW]
theorem Zos (s:Zm)(hs:s.length≤1048576)(H:Hp):Ze DL [.str s] H=some (if 4096<s.length then .tuple [.str [],.int .i64 3] else .tuple [.str (Yy s),.int .i64 0],H):=by
 refine Xx (a':=.str s) rfl (H1:=[]) ?_ (by split <;> rfl)
 rw[Ij]
 unfold Lc
 by_cases h:4096<s.length
 ·have hd:decide ((4096:Int)<(s.length:Int))=true:=by rw[decide_eq_true_eq];omega
  simp only[go_sem,hd,if_pos h]
 ·have hd:decide ((4096:Int)<(s.length:Int))=false:=by simp;omega
  have s8:=DZ .i64 .u64 (s.length:Int) 8
  rw[show ((8:Nat):Int)=8 from rfl]at s8
  have cv:∀ n,YK .u8 (.int .i64 n)=some (.int .u8 (IntKind.u8.wrap n)):=fun n=>rfl
  have hse:∀ a b:Int,(ZF 1 [(0,.int .u8 a),(1,.int .u8 b)] [(.int .u8 0),(.int .u8 0)]).map (AV.vs 1 .clip)=some (.vs 1 .clip [.int .u8 a,.int .u8 b]):=fun a b=>rfl
  have hrd:∀ (a b:Int) (H:Hp),Q2 (.vs 1 .clip [.int .u8 a,.int .u8 b]) H=some (.str [UInt8.ofNat a.toNat,UInt8.ofNat b.toNat]):=fun a b H=>rfl
  have hhd:[UInt8.ofNat (IntKind.u8.wrap (GF .i64 8 (s.length:Int))).toNat,UInt8.ofNat (IntKind.u8.wrap (s.length:Int)).toNat]++s=Um s:=rfl
  have a1:Yh .add (.str [UInt8.ofNat (IntKind.u8.wrap (GF .i64 8 (s.length:Int))).toNat,UInt8.ofNat (IntKind.u8.wrap (s.length:Int)).toNat]) (.str s)=some (.str (Um s)):=by rw[PL (by simp;omega),hhd]
  have a2:Yh .add (.str (Um s)) (.str (AW (Um s)))=some (.str (Yy s)):=by rw[PL (by rw[UL,ZfW];omega)];rfl
  simp only[go_sem,hd,Ap,s8,cv,hse,hrd,a1,ZfX (Um s) (by rw[UL];omega),a2,if_neg h]
def ZX:List Zm→Zm
 |[]=>[]
 |s::r=>Yy s++ZX r
theorem Znv (a b:List Zm):ZX (a++b)=ZX a++ZX b:=by
 induction a with
 |nil=>rfl
 |cons s a ih=>simp only[List.cons_append,ZX,ih,List.append_assoc]
def Y9:List Zm→Nat
 |[]=>0
 |s::r=>s.length+6+Y9 r
theorem Jl (l:List Zm):(ZX l).length=Y9 l:=by
 induction l with
 |nil=>rfl
 |cons s r ih=>simp only[ZX,Y9,List.length_append,Jo,ih]
theorem HV (a b:List Zm):Y9 (a++b)=Y9 a+Y9 b:=by
 induction a with
 |nil=>simp[Y9]
 |cons s a ih=>simp only[List.cons_append,Y9,ih];omega
def Xw (l:List Zm):Bool:=l.all fun s=>decide (s.length≤4096)
theorem ZoL (acc s:Zm)(h:acc.length+s.length≤4194304):∃ v,textE.run [.ptr 0 0,.str s] [AObj.bld DR DS acc]=some (v,[AObj.bld DR DS (acc++s)]):=by
 have h2:acc.length+s.length≤OX:=by unfold OX;omega
 refine⟨.tuple [.int .i64 s.length,.nili],?_⟩
 simp only[textE,ZoW,Zcr,Ph,Zem,List.getElem?_cons_zero,OE,and_self,if_true,if_pos h2,List.set_cons_zero]
theorem Znx {x:AV}{l:List Zm}(hx:SS x l)(hL:∀ s∈l,s.length≤1048576)(hl:Y9 l≤4194304)(H0:Hp):∀ (r d:List Zm),l=d++r→Xw d=true →
 ∃ H',QR (.ptr 0 0) x (.int .i64 (l.length:Int)) (.int .i64 (d.length:Int)) H0 [AObj.bld DR DS (ZX d)]=some (if Xw l=true then .tuple [.str (ZX l),.int .i64 0] else .tuple [.str [],.int .i64 3],H'):=by
 intro r
 induction r with
 |nil =>
  intro d hd hf
  rw[List.append_nil]at hd
  subst hd
  have hlt:decide ((l.length:Int)<(l.length:Int))=false:=by simp
  have hst:stringE.run [.ptr 0 0] [AObj.bld DR DS (ZX l)]=some (.str (ZX l),[AObj.bld DR DS (ZX l)]):=Zc0 _
  rw[FH]
  simp only[go_sem,hlt,Al,hst,if_pos hf]
  exact⟨_,rfl⟩
 |cons s r ih =>
  intro d hd hf
  have hcl:∀ l:List Zm,6*l.length≤Y9 l:=by
   intro l
   induction l with
   |nil=>simp[Y9]
   |cons s l ih=>simp only[Y9,List.length_cons];omega
  have:=hcl l
  have hlen:l.length=d.length+(r.length+1):=by rw[hd];simp
  have hlt:decide ((d.length:Int)<(l.length:Int))=true:=by simp;omega
  have hw1:IntKind.i64.wrap ((d.length:Int)+1)=((d.length+1:Nat):Int):=by rw[Zr (by omega) (by omega)];omega
  have his:l[d.length]?=some s:=by rw[hd,List.getElem?_append_right (Nat.le_refl _)];simp
  have hidx:=SS.idx hx his
  have hs:=hL s (by rw[hd];simp)
  have hrec:=Zos s hs [AObj.bld DR DS (ZX d)]
  rw[FH]
  by_cases h:4096<s.length
  ·have hno:Xw l=false:=by
    rw[hd]
    simp only[Xw,List.all_append,List.all_cons]
    rw[show decide (s.length≤4096)=false by simp;omega]
    simp
   have e3:((3:Int) != 0)=true:=rfl
   rw[if_pos h]at hrec
   simp only[go_sem,hlt,FG,hidx,ZG,hrec,List.getElem?_cons_zero,List.getElem?_cons_succ,e3,hno,Bool.false_eq_true,if_false]
   exact⟨_,rfl⟩
  ·have e0:((0:Int) != 0)=false:=rfl
   rw[if_neg h]at hrec
   have hcost:Y9 l=Y9 d+(s.length+6+Y9 r):=by rw[hd,HV];rfl
   obtain⟨v,hv⟩:=ZoL (ZX d) (Yy s) (by rw[Jl,Jo];omega)
   have hen:ZX (d++[s])=ZX d++Yy s:=by rw[Znv];simp[ZX]
   obtain⟨H',m1⟩:=ih (d++[s]) (by rw[hd];simp) (by
    have:Xw (d++[s])=(Xw d&&(decide (s.length≤4096)&&true)):=by simp[Xw]
    rw[this,hf];simp;omega)
   rw[List.length_append,List.length_singleton,hen]at m1
   refine⟨H',?_⟩
   simp only[go_sem,hlt,FG,hidx,ZG,hrec,List.getElem?_cons_zero,List.getElem?_cons_succ,e0,Ao,hv,An,hw1]
   exact m1
theorem Znw {x:AV}{l:List Zm}(hx:SS x l)(hL:∀ s∈l,s.length≤1048576)(hl:Y9 l≤4194304)(H:Hp) :
 Ze DK [x] H=some (if Xw l=true then .tuple [.str (ZX l),.int .i64 0] else .tuple [.str [],.int .i64 3],H):=by
 obtain⟨x1,k1,k2⟩:=SS.closed hx [] 0 4
 obtain⟨H',m1⟩:=Znx k2 hL hl [] l [] rfl rfl
 refine Xx k1 (H1:=H') ?_ (by split <;> rfl)
 rw[Ii]
 unfold Lb
 simp only[go_sem,SS.len k2 9,List.length_nil,List.nil_append]
 exact m1
def Zjo (a b:Int):Int:=IntKind.i64.wrap ((BitVec.ofInt IntKind.i64.bits a ||| BitVec.ofInt IntKind.i64.bits b).toNat:Int)
def Zp7 (a b:UInt8):Int:=Zjo (ZoD (IntKind.i64.wrap (a.toNat:Int))) (IntKind.i64.wrap (b.toNat:Int))
theorem ZlU:((List.range 4097).all fun n=>decide (Zp7 (WE (GF .i64 8 (n:Int))) (WE (n:Int))=(n:Int)))=true:=by kernel_rfl
theorem Zoo {n:Nat}(h:n≤4096):Zp7 (WE (GF .i64 8 (n:Int))) (WE (n:Int))=(n:Int):=by
 have:=List.all_eq_true.1 ZlU n (List.mem_range.2 (by omega))
 simpa using this
theorem Zlz (s rest:Zm)(hs:s.length≤4096)(hr:rest.length≤1048576)(H:Hp):Ze TJ [.str (Yy s++rest),.int .i64 0] H=some (.tuple [.str s,.int .i64 ((s.length+6:Nat):Int),.int .i64 0],H):=by
 refine JF (a':=.str (Yy s++rest)) (b':=.int .i64 0) rfl rfl (H1:=[]) ?_ rfl
 have hlen:(Yy s++rest).length=s.length+6+rest.length:=by rw[List.length_append,Jo]
 have hcons:Yy s++rest=WE (GF .i64 8 (s.length:Int))::WE (s.length:Int)::(s++(AW (Um s)++rest)):=by simp[Yy,Um]
 generalize hg:Yy s++rest=g at hlen hcons
 have h0:decide ((0:Int)<0)=false:=rfl
 have h1:decide ((g.length:Int)<0)=false:=by rw[decide_eq_false_iff_not];omega
 have sl0:Y7 (.str g) (some (.int .i64 0)) none none=some (.str g):=by
  rw[Em .i64 (by omega) (by omega)]
  simp
 have h2:decide ((g.length:Int)<2)=false:=by rw[decide_eq_false_iff_not];omega
 have i0:Zu (.str g) (.int .i64 0)=some (.int .u8 ((WE (GF .i64 8 (s.length:Int))).toNat:Int)):=ZU (i:=0) (by rw[hcons];rfl)
 have i1:Zu (.str g) (.int .i64 1)=some (.int .u8 ((WE (s.length:Int)).toNat:Int)):=ZU (i:=1) (by rw[hcons];rfl)
 have cv:∀ n,YK .i64 (.int .u8 n)=some (.int .i64 (IntKind.i64.wrap n)):=fun n=>rfl
 have hsh:∀ a:Int,Z5 .shl (.int .i64 a) (.int .u64 8)=some (.int .i64 (ZoD a)):=fun a=>rfl
 have hor:∀ a b:Int,Z5 .or (.int .i64 a) (.int .i64 b)=some (.int .i64 (Zjo a b)):=fun a b=>by simp[Z5,Xs,Xt,Zjo]
 have hrl:Zjo (ZoD (IntKind.i64.wrap ((WE (GF .i64 8 (s.length:Int))).toNat:Int))) (IntKind.i64.wrap ((WE (s.length:Int)).toNat:Int))=(s.length:Int):=Zoo hs
 have h3:decide ((4096:Int)<(s.length:Int))=false:=by simp;omega
 have w6:IntKind.i64.wrap ((s.length:Int)+6)=((s.length+6:Nat):Int):=by rw[Zr (by omega) (by omega)];omega
 have w2:IntKind.i64.wrap ((s.length:Int)+2)=((s.length+2:Nat):Int):=by rw[Zr (by omega) (by omega)];omega
 have w0:IntKind.i64.wrap (0+(s.length:Int))=(s.length:Int):=by rw[Zr (by omega) (by omega)];omega
 have h4:decide ((g.length:Int)<((s.length+6:Nat):Int))=false:=by simp;omega
 have sl1:Y7 (.str g) (some (.int .i64 ((s.length+2:Nat):Int))) (some (.int .i64 ((s.length+6:Nat):Int))) none=some (.str (AW (Um s))):=by
  rw[El .i64 .i64 (by omega) (by omega) (by omega)]
  congr 2
  rw[←hg,Int.toNat_natCast,Int.toNat_natCast,List.take_append_of_le_length (by rw[Jo];exact Nat.le_refl _),List.take_of_length_le (by rw[Jo];exact Nat.le_refl _)]
  unfold Yy
  rw[List.drop_append_of_le_length (by rw[UL];exact Nat.le_refl _),List.drop_of_length_le (by rw[UL];exact Nat.le_refl _)]
  rfl
 have sl2:Y7 (.str g) none (some (.int .i64 ((s.length+2:Nat):Int))) none=some (.str (Um s)):=by
  rw[Zib .i64 (by omega) (by omega)]
  congr 2
  rw[←hg,Int.toNat_natCast]
  unfold Yy
  rw[List.append_assoc,List.take_append_of_le_length (by rw[UL];exact Nat.le_refl _),List.take_of_length_le (by rw[UL];exact Nat.le_refl _)]
 have sl3:Y7 (.str g) (some (.int .i64 2)) (some (.int .i64 ((s.length+2:Nat):Int))) none=some (.str s):=by
  rw[El .i64 .i64 (by omega) (by omega) (by omega)]
  congr 2
  rw[hcons,Int.toNat_natCast]
  simp
 have hne:(!(AW (Um s)==AW (Um s)))=false:=by simp
 rw[Zak]
 unfold Hd
 simp only[go_sem,h0,h1,ON,sl0,h2,OO,i0,i1,cv,hsh,hor,hrl,h3,OP,w6,h4,OQ,w2,sl1,sl2,ZfX (Um s) (by rw[UL];omega),hne,OR,sl3,w0]
structure Tmp where
 owner:Zm
 names:List Zm
 sld:List Zm
 limit:Nat
 last:Nat
 closed:Bool
def NmAt (H:Hp)(x:AV)(l:List Zm):Prop:=x=.nils∧l=[]∨∃ t e,x=.vs 1 (.own t e) (l.map AV.str)∧H[t]?=some (.tok e)
theorem NmAt.ss {H:Hp}{x:AV}{l:List Zm}(h:NmAt H x l):SS x l:=by
 rcases h with ⟨rfl,rfl⟩|⟨t,e,rfl,_⟩
 ·exact .inl ⟨rfl,rfl⟩
 ·exact .inr ⟨_,rfl⟩
theorem NmAt.frame {H H':Hp}{x:AV}{l:List Zm}(h:NmAt H x l)(hf:∀ a∈ZJ x,H'[a]?=H[a]?):NmAt H' x l :=
 h.imp id fun⟨t,e,h1,h2⟩=>⟨t,e,h1,(hf t (by rw[h1];simp[ZJ])).trans h2⟩
def WJ (p:Zm×Nat):AV×AV×Nat:=(.str p.1,.bool true,p.2)
structure TmAt (H:Hp)(o t ms clk:Nat)(nx:AV)(sl:List (Zm×Nat))(tm:Tmp):Prop where
 cells:H[o]?=some (.cells [.ptr t 0,.str tm.owner,nx,.map ms,.int .i64 (tm.limit:Int),.int .i64 (tm.last:Int),.bool tm.closed])
 names:NmAt H nx tm.names
 map:H[ms]?=some (.map (sl.map WJ) clk)
 sld:sl.map (·.1)=tm.sld
 nd:(o::ms::ZJ nx).Nodup
def TmpAt (H:Hp)(o t:Nat)(tm:Tmp)(B:List Nat):Prop:=∃ ms clk nx sl,TmAt H o t ms clk nx sl tm∧B=o::ms::ZJ nx
structure TmpOk (tm:Tmp):Prop where
 owner:tm.owner.length≤16
 limit:tm.limit≤9223372036854775807
 len:tm.names.length≤tm.last
 last:tm.last≤1000000
theorem TmAt.lt {H:Hp}{o t ms clk:Nat}{nx:AV}{sl:List (Zm×Nat)}{tm:Tmp}(h:TmAt H o t ms clk nx sl tm):∀ a∈o::ms::ZJ nx,a<H.length:=by
 intro a ha
 rcases List.mem_cons.1 ha with e|ha
 ·subst e;exact Zf h.cells
 rcases List.mem_cons.1 ha with e|ha
 ·subst e;exact Zf h.map
 rcases h.names with ⟨e,_⟩|⟨t,e,e1,ht⟩
 ·rw[e]at ha;cases ha
 ·rw[e1]at ha
  rw[List.mem_singleton.1 ha];exact Zf ht
theorem TmAt.frame {H H':Hp}{o t ms clk:Nat}{nx:AV}{sl:List (Zm×Nat)}{tm:Tmp}(h:TmAt H o t ms clk nx sl tm)(hf:∀ a∈o::ms::ZJ nx,H'[a]?=H[a]?):TmAt H' o t ms clk nx sl tm :=
 ⟨(hf _ (by simp)).trans h.cells,h.names.frame fun a ha=>hf a (by simp[ha]),(hf _ (by simp)).trans h.map,h.sld,h.nd⟩
theorem TmpAt.lt {H:Hp}{o t:Nat}{tm:Tmp}{B:List Nat}(h:TmpAt H o t tm B):∀ a∈B,a<H.length:=by
 obtain⟨ms,clk,nx,sl,h,rfl⟩:=h
 exact h.lt
theorem TmpAt.stp {H H':Hp}{o t:Nat}{tm:Tmp}{B S:List Nat}(h:TmpAt H o t tm B)(hs:Stp S H H')(hd:∀ a∈B,a∉S):TmpAt H' o t tm B:=by
 obtain⟨ms,clk,nx,sl,h,rfl⟩:=h
 exact⟨ms,clk,nx,sl,h.frame fun a ha=>hs.at' a (h.lt a ha) (hd a ha),rfl⟩
def SysAt (H:Hp)(o t:Nat)(tm:Tmp)(s:Sto)(A:List Nat):Prop:=∃ B S,TmpAt H o t tm B∧StoreAt H t s S∧(∀ a∈B,a∉S)∧A=B++S
structure SysRes (H H':Hp)(o t:Nat)(tm':Tmp)(s':Sto)(A A':List Nat):Prop where
 at':SysAt H' o t tm' s' A'
 stp:Stp A H H'
 own:∀ a∈A',a∈A∨H.length≤a
theorem SysAt.lt {H:Hp}{o t:Nat}{tm:Tmp}{s:Sto}{A:List Nat}(h:SysAt H o t tm s A):∀ a∈A,a<H.length:=by
 obtain⟨B,S,h1,h2,h3,rfl⟩:=h
 intro a ha
 rcases List.mem_append.1 ha with k|k
 ·exact h1.lt a k
 ·exact h2.lt a k
theorem SysAt.stp {H H':Hp}{o t:Nat}{tm:Tmp}{s:Sto}{A C:List Nat}(h:SysAt H o t tm s A)(hs:Stp C H H')(hd:∀ a∈A,a∉C):SysAt H' o t tm s A:=by
 obtain⟨B,S,h1,h2,h3,rfl⟩:=h
 exact⟨B,S,h1.stp hs fun a ha=>hd a (by simp[ha]),h2.stp hs fun a ha=>hd a (by simp[ha]),h3,rfl⟩
theorem SysAt.self {H:Hp}{o t:Nat}{tm:Tmp}{s:Sto}{A:List Nat}(h:SysAt H o t tm s A):SysRes H H o t tm s A A:=⟨h,Stp.refl _ _,fun a ha=>.inl ha⟩
theorem SysAt.store {H H':Hp}{o t:Nat}{tm:Tmp}{s':Sto}{B S S':List Nat}(h1:TmpAt H o t tm B)(h3:∀ a∈B,a∉S)(hr:StoRes H H' t s' S S'):SysRes H H' o t tm s' (B++S) (B++S'):=by
 refine⟨⟨B,S',h1.stp hr.stp h3,hr.at',fun a ha hs=>?_,rfl⟩,hr.stp.mono fun a ha=>by simp[ha],fun a ha=>?_⟩
 ·rcases hr.own a hs with k|k
  ·exact h3 a ha k
  ·have:=h1.lt a ha;omega
 ·rcases List.mem_append.1 ha with k|k
  ·exact .inl (by simp[k])
  ·rcases hr.own a k with k|k
   ·exact .inl (by simp[k])
   ·exact .inr k
theorem Y2 {H:Hp}{o:Nat}{l:List AV}(h:H[o]?=some (.cells l))(i:Nat){v:AV}(hv:l[i]?=some v):Z4 false 1 (.ptr o i) H=some v:=by
 rw[U7 h];exact hv
theorem R0 {H:Hp}{o:Nat}{l:List AV}(h:H[o]?=some (.cells l))(i:Nat){v:AV}(hv:v.cells=[v])(hk:v.known=true)(hi:i<l.length):Zh 1 (.ptr o i) v H=some (.tuple [],H.set o (.cells (l.set i v))):=by
 have:=st h i hv hk hi
 rwa [Nat.zero_add]at this
theorem ZiZ {x:AV}{l:List Zm}(hx:SS x l)(hl:l.length≤1048576)(n:Zm)(H0 H:Hp):∀ (r d:List Zm),l=d++r →
 ∃ i:Int,YD x (.str n) (.int .i64 (l.length:Int)) (.int .i64 (d.length:Int)) H0 H=some (.int .i64 i,H)∧(0≤i↔n∈r):=by
 intro r
 induction r with
 |nil =>
  intro d hd
  rw[List.append_nil]at hd
  subst hd
  have hlt:decide ((l.length:Int)<(l.length:Int))=false:=by simp
  refine⟨-1,?_,by simp⟩
  rw[Wz]
  simp only[go_sem,hlt,JU]
 |cons s r ih =>
  intro d hd
  have hlen:l.length=d.length+(r.length+1):=by rw[hd];simp
  have hlt:decide ((d.length:Int)<(l.length:Int))=true:=by simp;omega
  have hw1:IntKind.i64.wrap ((d.length:Int)+1)=((d.length+1:Nat):Int):=by rw[Zr (by omega) (by omega)];omega
  have his:l[d.length]?=some s:=by rw[hd,List.getElem?_append_right (Nat.le_refl _)];simp
  have hidx:=SS.idx hx his
  rw[Wz]
  simp only[go_sem,hlt,JV,hidx,ZG]
  by_cases he:n=s
  ·have hb:(n==s)=true:=by simpa using he
   simp only[hb,go_sem]
   exact⟨_,rfl,by simp[he]⟩
  ·have hb:(n==s)=false:=by simpa using he
   obtain⟨i,m1,m2⟩:=ih (d++[s]) (by rw[hd];simp)
   rw[List.length_append,List.length_singleton]at m1
   simp only[hb,go_sem,JW,hw1]
   exact⟨i,m1,by rw[m2];simp[he]⟩
theorem SO {x:AV}{l:List Zm}(hx:SS x l)(hl:l.length≤1048576)(n:Zm)(H:Hp):Ze Yu [x,.str n] H=some (.bool (decide (n∈l)),H):=by
 obtain⟨x1,k1,k2⟩:=SS.closed hx [] 0 4
 obtain⟨x2,g1,g2⟩:=SS.closed k2 [] 0 4
 refine JF k1 (b':=.str n) rfl (H1:=[]) ?_ rfl
 obtain⟨i,m1,m2⟩:=ZiZ g2 hl n [] [] l [] rfl
 have hi:Ze XE [x1,.str n] []=some (.int .i64 i,[]):=by
  refine JF g1 (b':=.str n) rfl (H1:=[]) ?_ rfl
  rw[Kv]
  unfold Vu
  simp only[go_sem,SS.len g2 9]
  exact m1
 rw[J3]
 unfold WD
 simp only[hi,go_sem]
 congr 3
 rw[decide_eq_decide]
 exact m2
def Y3 (tm:Tmp)(n:Zm):Int:=if tm.closed then 8 else if n∈tm.names then 0 else 5
theorem EL {H:Hp}{o t ms clk:Nat}{nx:AV}{sl:List (Zm×Nat)}{tm:Tmp}(h:TmAt H o t ms clk nx sl tm)(hk:TmpOk tm)(n:Zm):Xq [.ptr o 0,.str n] H=some (.int .i64 (Y3 tm n),H):=by
 have l6:=Y2 h.cells 6 (v:=.bool tm.closed) rfl
 have l2:=Y2 h.cells 2 (v:=nx) rfl
 have hkl:=hk.len
 have hkt:=hk.last
 have hcon:=SO h.names.ss (by omega) n H
 rw[P0]
 unfold GX Y3
 cases hc:tm.closed with
 |true =>
  rw[hc]at l6
  simp only[go_sem,Nat.zero_add,l6,if_true]
 |false =>
  rw[hc]at l6
  by_cases hn:n∈tm.names
  ·rw[decide_eq_true hn]at hcon
   simp only[go_sem,Nat.zero_add,l6,l2,hcon,Bool.not_true,TA,if_pos hn,Bool.false_eq_true,if_false]
  ·rw[decide_eq_false hn]at hcon
   simp only[go_sem,Nat.zero_add,l6,l2,hcon,Bool.not_false,if_neg hn,Bool.false_eq_true,if_false]
def ZcI (o:Zm):Zm:=[46,116,109,112,46]++o++[46]
def ZH (o:Zm)(n:Nat):Zm:=ZcI o++Go.Lib.itoa (n:Int)
def De (tm:Tmp)(s:Sto):(Zm×Int)×(Tmp×Sto) :=
 if tm.closed then (([],8),(tm,s)) else match s.create (ZH tm.owner (tm.last+1)) with
 |(e,s')=>if e=0 then ((ZH tm.owner (tm.last+1),0),({ tm with last:=tm.last+1,names:=tm.names++[ZH tm.owner (tm.last+1)] },s')) else (([],e),(tm,s'))
theorem NmAt.app {H:Hp}{x:AV}{l:List Zm}(h:NmAt H x l)(n:Zm)(hl:l.length≤1048576) :
 ∃ x' H',Y6 1 16 x (.vs 1 .clip [.str n]) H=some (x',H')∧NmAt H' x' (l++[n])∧Stp (ZJ x) H H'∧(∀ a∈ZJ x',a∈ZJ x∨a=H.length)∧x'.cells=[x']∧x'.known=true∧(ZJ x').Nodup:=by
 unfold Y6
 have he:Go.Am.elems 1 (.vs 1 .clip [.str n]) H=some [.str n]:=rfl
 rw[he]
 have hfit:fits ((l.map AV.str).length+[AV.str n].length) 16=true:=by simp[fits];omega
 have hone:fits [AV.str n].length 16=true:=rfl
 rcases h with ⟨rfl,rfl⟩|⟨t,e,rfl,ht⟩
 ·refine⟨.vs 1 (.own H.length 1) [.str n],H++[.tok 1],?_,.inr ⟨H.length,1,rfl,by simp⟩,Stp.push _ _,fun a ha=>.inr (List.mem_singleton.1 ha),rfl,rfl,by simp[ZJ]⟩
  simp only[Yo,hone,if_true]
  rw[if_neg (by simp)]
  rfl
 ·refine⟨.vs 1 (.own t (e+1)) (l.map AV.str++[.str n]),H.set t (.tok (e+1)),?_,.inr ⟨t,e+1,by simp,Zv _ ht⟩,Stp.set _ _ (by simp[ZJ]),fun a ha=>.inl (by simpa[ZJ]using ha),rfl,rfl,by simp[ZJ]⟩
  simp only[Yo,hfit,and_self,if_true,ht]
  rw[if_neg (by simp)]
  rfl
theorem ZnZ (n:Nat)(hn:n≤9223372036854775807)(H:Hp):Ze TO [.int .i64 (n:Int)] H=some (.str (Go.Lib.itoa (n:Int)),H):=by
 refine Xx (a':=.int .i64 (n:Int)) rfl (H1:=[]) ?_ rfl
 have:Sk Ia [.int .i64 (n:Int)] []=some (.str (Go.Lib.itoa (n:Int)),[]):=by
  unfold Sk Ia
  dsimp only
  rw[if_pos (by omega)]
 rw[Zam]
 unfold Hg
 simp only[this,go_sem]
theorem ZbO (o:Zm)(ho:o.length≤1048576)(H:Hp):Ze Ui [.str o] H=some (.str (ZcI o),H):=by
 refine Xx (a':=.str o) rfl (H1:=[]) ?_ rfl
 rw[E8]
 unfold RC
 rw[PL (by simp;omega)]
 simp only[go_sem]
 rw[PL (by simp;omega)]
 rfl
abbrev tmC (t ms:Nat)(nx:AV)(tm:Tmp):List AV:=[.ptr t 0,.str tm.owner,nx,.map ms,.int .i64 (tm.limit:Int),.int .i64 (tm.last:Int),.bool tm.closed]
theorem Zq4 (o:Zm)(n:Nat)(ho:o.length≤16)(hn:n≤1000001):(ZH o n).length≤1048576∧(ZcI o).length+(Go.Lib.itoa (n:Int)).length≤1048576:=by
 have:=Go.Lib.itoa_length_le (n:Int) (by omega) (by omega)
 have h2:(ZcI o).length=o.length+6:=by simp[ZcI]
 refine⟨?_,by omega⟩
 unfold ZH
 rw[List.length_append]
 omega
theorem Zev {H:Hp}{o t:Nat}{tm:Tmp}{s:Sto}{A:List Nat}(h:SysAt H o t tm s A)(hm:TmpOk tm)(hk:StoOk s)(hl:tm.last<1000000) :
 ∃ H' A',X2 [.ptr o 0] H=some (.tuple [.str (De tm s).1.1,.int .i64 (De tm s).1.2],H')∧SysRes H H' o t (De tm s).2.1 (De tm s).2.2 A A':=by
 have hsys:=h
 obtain⟨B,S,h1,h2,h3,rfl⟩:=h
 have hB:=h1
 obtain⟨ms,clk,nx,sl,h1,rfl⟩:=h1
 have l6:=Y2 h1.cells 6 (v:=.bool tm.closed) rfl
 have l0:=Y2 h1.cells 0 (v:=.ptr t 0) rfl
 have l1:=Y2 h1.cells 1 (v:=.str tm.owner) rfl
 have l5:=Y2 h1.cells 5 (v:=.int .i64 (tm.last:Int)) rfl
 have ho:=hm.owner
 have hw:IntKind.i64.wrap ((tm.last:Int)+1)=((tm.last+1:Nat):Int):=by rw[Zr (by omega) (by omega)];omega
 obtain⟨n1,n2⟩:=Zq4 tm.owner (tm.last+1) ho (by omega)
 have hpre:=ZbO tm.owner (by omega) H
 have hit:=ZnZ (tm.last+1) (by omega) H
 have hadd:Yh .add (.str (ZcI tm.owner)) (.str (Go.Lib.itoa ((tm.last+1:Nat):Int)))=some (.str (ZH tm.owner (tm.last+1))):=by rw[PL (by omega)];rfl
 have hnil:Yj (.pointer 120) .eql (.ptr t 0) .nilp=some (.bool false):=rfl
 obtain⟨H1,S1,p1,p2⟩:=ZhI h2 hk (ZH tm.owner (tm.last+1)) n1
 rw[JZ]
 unfold UV De
 cases hc:tm.closed with
 |true =>
  rw[hc]at l6
  rw[if_pos rfl]
  exact⟨H,_,by simp only[go_sem,Nat.zero_add,XT,l6],hsys.self⟩
 |false =>
  rw[hc]at l6
  rw[if_neg (by simp)]
  cases hcr:s.create (ZH tm.owner (tm.last+1)) with
  |mk e s' =>
  rw[hcr]at p1 p2
  simp only at p1 p2 ⊢
  by_cases he:e=0
  ·subst he
   rw[if_pos rfl]
   have hne:((0:Int) != 0)=false:=rfl
   have hT:=h1.frame (H':=H1) fun a ha=>p2.stp.at' a (h1.lt a ha) (h3 a ha)
   have k5:=Y2 hT.cells 5 (v:=.int .i64 (tm.last:Int)) rfl
   have s5:=R0 hT.cells 5 (v:=.int .i64 ((tm.last+1:Nat):Int)) rfl rfl (by simp)
   have g1:=Zv (AObj.cells (List.set (tmC t ms nx tm) 5 (.int .i64 ((tm.last+1:Nat):Int)))) hT.cells
   have k2:=Y2 g1 2 (v:=nx) rfl
   have hnd:=h1.nd
   rw[List.nodup_cons,List.nodup_cons]at hnd
   obtain⟨d1,d2,d3⟩:=hnd
   have hot:∀ a∈ZJ nx,a≠o:=fun a ha e=>d1 (by rw[←e];simp[ha])
   have hmt:∀ a∈ZJ nx,a≠ms:=fun a ha e=>d2 (by rw[←e];exact ha)
   have hom:o≠ms:=fun e=>d1 (by rw[e];simp)
   generalize hH2:H1.set o (.cells (List.set (tmC t ms nx tm) 5 (.int .i64 ((tm.last+1:Nat):Int))))=H2 at s5 g1 k2
   have hlen2:H2.length=H1.length:=by rw[←hH2];simp
   have hN2:NmAt H2 nx tm.names:=hT.names.frame fun a ha=>by rw[←hH2];exact List.getElem?_set_ne (fun e=>hot a ha e.symm)
   have hkl:=hm.len
   obtain⟨x',H3,q1,q2,q3,q4,q5,q6,q7⟩:=hN2.app (ZH tm.owner (tm.last+1)) (by omega)
   have g2:H3[o]?=some (.cells (List.set (tmC t ms nx tm) 5 (.int .i64 ((tm.last+1:Nat):Int)))):=q3.get g1 fun ha=>hot o ha rfl
   have s2:=R0 g2 2 (v:=x') q5 q6 (by simp)
   generalize hH4:H3.set o (.cells (List.set (List.set (tmC t ms nx tm) 5 (.int .i64 ((tm.last+1:Nat):Int))) 2 x'))=H4 at s2
   have holt:o<H1.length:=Zf hT.cells
   have hmlt:ms<H1.length:=Zf hT.map
   have hx':∀ a∈ZJ x',a≠o∧a≠ms:=fun a ha=>by
    rcases q4 a ha with k|k
    ·exact⟨hot a k,hmt a k⟩
    ·omega
   have hS2:Stp (o::ms::ZJ nx) H1 H4:=by
    have e1:Stp (o::ms::ZJ nx) H1 H2:=by rw[←hH2];exact Stp.set _ _ (by simp)
    have e3:Stp (o::ms::ZJ nx) H3 H4:=by rw[←hH4];exact Stp.set _ _ (by simp)
    exact (e1.trans (q3.mono (B:=o::ms::ZJ nx) fun a ha=>by simp[ha]) (fun _ h=>h) fun _ h=>.inl h).trans e3 (fun _ h=>h) fun _ h=>.inl h
   refine⟨H4,(o::ms::ZJ x')++S1,?_,⟨⟨o::ms::ZJ x',S1,⟨ms,clk,x',sl,⟨?_,?_,?_,h1.sld,?_⟩,rfl⟩,?_,?_,rfl⟩,?_,?_⟩⟩
   ·simp only[go_sem,Nat.zero_add,XT,l6,l0,hnil,Jt,l1,hpre,l5,hw,hit,hadd,p1,hne,Na,k5,s5,k2,B2,q1,s2]
   ·rw[←hH4]
    refine (Zv _ g2).trans ?_
    simp only[tmC,hc]
    rfl
   ·exact q2.frame fun a ha=>by rw[←hH4];exact List.getElem?_set_ne (fun e=>(hx' a ha).1 e.symm)
   ·rw[←hH4,List.getElem?_set_ne hom,q3.at' ms (by rw[hlen2];exact hmlt) (fun ha=>hmt ms ha rfl),←hH2,List.getElem?_set_ne hom]
    exact hT.map
   ·rw[List.nodup_cons,List.nodup_cons]
    refine⟨fun ha=>?_,fun ha=>(hx' ms ha).2 rfl,q7⟩
    rcases List.mem_cons.1 ha with e|ha
    ·exact hom e
    ·exact (hx' o ha).1 rfl
   ·refine p2.at'.stp hS2 fun a ha hb=>?_
    rcases p2.own a ha with k|k
    ·exact h3 a hb k
    ·have:=h1.lt a hb;omega
   ·intro a ha hs
    have hold:a∈o::ms::ZJ nx→False:=fun k=>by
     rcases p2.own a hs with j|j
     ·exact h3 a k j
     ·have:=h1.lt a k;omega
    rcases List.mem_cons.1 ha with e|ha
    ·exact hold (by rw[e];simp)
    rcases List.mem_cons.1 ha with e|ha
    ·exact hold (by rw[e];simp)
    rcases q4 a ha with k|k
    ·exact hold (by simp[k])
    ·have:=p2.at'.lt a hs;omega
   ·refine (p2.stp.mono (B:=(o::ms::ZJ nx)++S) fun a ha=>by simp[ha]).trans hS2 (fun _ h=>h) fun a ha=>.inl (List.mem_append_left _ ha)
   ·intro a ha
    rcases List.mem_append.1 ha with ha|ha
    ·rcases List.mem_cons.1 ha with e|ha
     ·exact .inl (by rw[e];simp)
     rcases List.mem_cons.1 ha with e|ha
     ·exact .inl (by rw[e];simp)
     rcases q4 a ha with k|k
     ·exact .inl (by simp[k])
     ·exact .inr (by have:=p2.stp.len;omega)
    ·rcases p2.own a ha with k|k
     ·exact .inl (by simp[k])
     ·exact .inr k
  ·rw[if_neg he]
   have hne:(e != 0)=true:=by simpa using he
   exact⟨H1,_,by simp only[go_sem,Nat.zero_add,XT,l6,l0,hnil,Jt,l1,hpre,l5,hw,hit,hadd,p1,hne],SysAt.store hB h3 p2⟩
def HK (l:List Zm)(n:Zm):List Zm:=if n∈l then l else l++[n]
def R1 (tm:Tmp)(s:Sto)(n:Zm):Int×(Tmp×Sto) :=
 if Y3 tm n≠0 then (Y3 tm n,(tm,s)) else if (s.sync n).1≠0 then ((s.sync n).1,(tm,(s.sync n).2)) else (0,({ tm with sld:=HK tm.sld n },(s.sync n).2))
theorem OM:∀ (sl:List (Zm×Nat)) (n:Zm) (i:Nat),(n∉sl.map (·.1)∧Yw (.str n) (sl.map WJ) i=some none)∨∃ a p b,sl=a++p::b∧p.1=n∧n∈sl.map (·.1)∧Yw (.str n) (sl.map WJ) i=some (some (i+a.length,.bool true)):=by
 intro sl n
 induction sl with
 |nil=>intro i;exact .inl ⟨by simp,rfl⟩
 |cons p sl ih =>
  intro i
  have hks:UC (.str n) (WJ p).1=some (n==p.1):=rfl
  by_cases he:n=p.1
  ·refine .inr ⟨[],p,sl,rfl,he.symm,by simp[he],?_⟩
   rw[List.map_cons,Yw,hks,show (n==p.1)=true by simpa using he]
   rfl
  ·have hstep:Yw (.str n) ((p::sl).map WJ) i=Yw (.str n) (sl.map WJ) (i+1):=by
    rw[List.map_cons,Yw,hks,show (n==p.1)=false by simpa using he]
   rw[hstep]
   rcases ih (i+1) with ⟨h1,h2⟩|⟨a,q,b,h1,h2,h3,h4⟩
   ·exact .inl ⟨by simp[he]at h1 ⊢;exact h1,h2⟩
   ·refine .inr ⟨p::a,q,b,by rw[h1];rfl,h2,by rw[List.map_cons];exact List.mem_cons_of_mem _ h3,?_⟩
    rw[h4]
    simp only[List.length_cons]
    congr 3
    omega
theorem ZoC {α:Type}(a:List α)(d:α)(b:List α):(a++d::b).set a.length d=a++d::b:=by
 induction a with
 |nil=>rfl
 |cons x a ih=>simp only[List.cons_append,List.length_cons,List.set_cons_succ,ih]
theorem ZoA {H:Hp}{ms clk:Nat}{sl:List (Zm×Nat)}(h:H[ms]?=some (.map (sl.map WJ) clk))(n:Zm) :
 ∃ (sl':List (Zm×Nat)) (clk':Nat),Xb .string (.map ms) (.str n) (.bool true) H=some (.tuple [],H.set ms (.map (sl'.map WJ) clk'))∧sl'.map (·.1)=HK (sl.map (·.1)) n:=by
 have hkk:Xy .string (.str n)=true:=rfl
 unfold Xb
 dsimp only
 rw[h]
 dsimp only
 rw[if_pos hkk]
 rcases OM sl n 0 with ⟨h1,h2⟩|⟨a,p,b,h1,h2,h3,h4⟩
 ·refine⟨sl++[(n,clk)],clk+1,?_,?_⟩
  ·rw[h2];simp[WJ]
  ·unfold HK;rw[if_neg h1];simp
 ·refine⟨sl,clk,?_,?_⟩
  ·rw[h4]
   dsimp only
   have e1:(sl.map WJ).getD (0+a.length) (.undef,.undef,0)=WJ p:=by rw[h1,List.getD_eq_getElem?_getD,List.map_append,List.map_cons,List.getElem?_append_right (by simp)];simp
   have e2:(sl.map WJ).set (0+a.length) (.str n,.bool true,(WJ p).2.2)=sl.map WJ:=by
    have:((.str n,.bool true,(WJ p).2.2):AV×AV×Nat)=WJ p:=by rw[←h2];rfl
    rw[this,h1,Nat.zero_add,List.map_append,List.map_cons,show a.length=(a.map WJ).length by simp,ZoC]
   rw[e1,e2]
  ·unfold HK;rw[if_pos h3]
theorem Zeu {H:Hp}{o t:Nat}{tm:Tmp}{s:Sto}{A:List Nat}(h:SysAt H o t tm s A)(hm:TmpOk tm)(hk:StoOk s)(n:Zm) :
 ∃ H' A',Wv [.ptr o 0,.str n] H=some (.int .i64 (R1 tm s n).1,H')∧SysRes H H' o t (R1 tm s n).2.1 (R1 tm s n).2.2 A A':=by
 have hsys:=h
 obtain⟨B,S,h1,h2,h3,rfl⟩:=h
 have hB:=h1
 obtain⟨ms,clk,nx,sl,h1,rfl⟩:=h1
 have hf:=EL h1 hm n
 have l0:=Y2 h1.cells 0 (v:=.ptr t 0) rfl
 obtain⟨H1,S1,p1,p2⟩:=ZmE h2 hk.count n
 rw[TZ]
 unfold GW R1
 by_cases hf0:Y3 tm n=0
 ·have e0:(Y3 tm n != 0)=false:=by rw[hf0];rfl
  rw[if_neg (by simp[hf0])]
  by_cases hs0:(s.sync n).1=0
  ·have e1:((s.sync n).1 != 0)=false:=by rw[hs0];rfl
   rw[if_neg (by simp[hs0])]
   have hT:=h1.frame (H':=H1) fun a ha=>p2.stp.at' a (h1.lt a ha) (h3 a ha)
   have k3:=Y2 hT.cells 3 (v:=.map ms) rfl
   obtain⟨sl',clk',q1,q2⟩:=ZoA hT.map n
   have hnd:=h1.nd
   rw[List.nodup_cons,List.nodup_cons]at hnd
   obtain⟨d1,d2,d3⟩:=hnd
   have hom:o≠ms:=fun e=>d1 (by rw[e];simp)
   have hmt:∀ a∈ZJ nx,a≠ms:=fun a ha e=>d2 (by rw[←e];exact ha)
   have hS2:Stp (o::ms::ZJ nx) H1 (H1.set ms (.map (sl'.map WJ) clk')):=Stp.set _ _ (by simp)
   refine⟨H1.set ms (.map (sl'.map WJ) clk'),(o::ms::ZJ nx)++S1,?_,⟨⟨o::ms::ZJ nx,S1,⟨ms,clk',nx,sl',⟨?_,?_,?_,?_,h1.nd⟩,rfl⟩,?_,?_,rfl⟩,?_,?_⟩⟩
   ·simp only[hf,go_sem,e0,Nat.zero_add,J2,l0,p1,e1,Tz,k3,q1]
   ·rw[List.getElem?_set_ne hom.symm];exact hT.cells
   ·exact hT.names.frame fun a ha=>List.getElem?_set_ne (fun e=>hmt a ha e.symm)
   ·exact Zv _ hT.map
   ·rw[q2,h1.sld]
   ·refine p2.at'.stp hS2 fun a ha hb=>?_
    rcases p2.own a ha with k|k
    ·exact h3 a hb k
    ·have:=h1.lt a hb;omega
   ·intro a ha hs
    rcases p2.own a hs with j|j
    ·exact h3 a ha j
    ·have:=h1.lt a ha;omega
   ·refine (p2.stp.mono (B:=(o::ms::ZJ nx)++S) fun a ha=>by simp[ha]).trans hS2 (fun _ h=>h) fun a ha=>.inl (List.mem_append_left _ ha)
   ·intro a ha
    rcases List.mem_append.1 ha with ha|ha
    ·exact .inl (List.mem_append_left _ ha)
    ·rcases p2.own a ha with k|k
     ·exact .inl (by simp[k])
     ·exact .inr k
  ·have e1:((s.sync n).1 != 0)=true:=by simpa using hs0
   rw[if_pos hs0]
   exact⟨H1,_,by simp only[hf,go_sem,e0,Nat.zero_add,J2,l0,p1,e1],SysAt.store hB h3 p2⟩
 ·have e0:(Y3 tm n != 0)=true:=by simpa using hf0
  rw[if_pos hf0]
  exact⟨H,_,by simp only[hf,go_sem,e0],hsys.self⟩
def W5 (nm:List Zm):List Fil→Nat
 |[]=>0
 |f::r=>(if f.name∈nm then f.text.length else 0)+W5 nm r
theorem Zaf (nm:List Zm)(l:List Fil):W5 nm l≤Zt l:=by
 induction l with
 |nil=>exact Nat.le_refl _
 |cons f l ih=>simp only[W5,Zt];split <;> omega
theorem Zmt (nm:List Zm)(a b:List Fil):W5 nm (a++b)=W5 nm a+W5 nm b:=by
 induction a with
 |nil=>simp[W5]
 |cons f a ih=>simp only[List.cons_append,W5,ih];omega
theorem ZjM (nm:List Zm){a b:List Fil}(h:a.Perm b):W5 nm a=W5 nm b:=by
 induction h with
 |nil=>rfl
 |cons x _ ih=>simp only[W5,ih]
 |swap x y l=>simp only[W5];omega
 |trans _ _ ih1 ih2=>rw[ih1,ih2]
theorem Zla {l:List Fil}(h:(l.map Fil.name).Nodup):(l.map Fil.name).filterMap (ZQ l)=l:=by
 have key:∀ (r l:List Fil),(l.map Fil.name).Nodup→(∀ f∈r,f∈l)→(r.map Fil.name).filterMap (ZQ l)=r:=by
  intro r l hl
  have hg:∀ f∈l,ZQ l f.name=some f:=by
   clear r
   induction l with
   |nil=>intro f hf;cases hf
   |cons g l ih =>
    intro f hf
    rw[List.map_cons,List.nodup_cons]at hl
    unfold ZQ
    rcases List.mem_cons.1 hf with e|hf
    ·rw[e,if_pos rfl]
    ·have hne:¬ f.name=g.name:=fun e=>hl.1 (by rw[←e];exact List.mem_map.2 ⟨f,hf,rfl⟩)
     rw[if_neg hne]
     exact ih hl.2 f hf
  induction r with
  |nil=>intro _;rfl
  |cons f r ih =>
   intro h
   rw[List.map_cons,List.filterMap_cons,hg f (h f (by simp)),ih fun g hg=>h g (by simp[hg])]
 exact key l l h fun _ h=>h
theorem Zj7 {l:List Fil}(h:(l.map Fil.name).Nodup):(Tj l).Perm l:=by
 unfold Tj
 have:=(D8 (l.map Fil.name)).filterMap (ZQ l)
 rwa [Zla h]at this
def Gm (tm:Tmp)(s:Sto):Nat:=W5 tm.names s.files
theorem Zo8 (x:Fil)(H:Hp):Z4 true 3 (.vp (YL x).cells) H=some (YL x):=rfl
theorem Zil {H0:Hp}{o t ms clk:Nat}{nx:AV}{sl:List (Zm×Nat)}{tm:Tmp}(h:TmAt H0 o t ms clk nx sl tm)(hm:TmpOk tm){x:AV}{fs:List Fil}(hx:Sl 3 x (fs.map YL))(hl:fs.length≤64)(hu:Zt fs≤262144)(HB:Hp):∀ (r d:List Fil) (H:Hp),fs=d++r→Keep H0.length H0 H→H0.length≤H.length →
 ∃ H',W4 (.ptr o 0) (.int .i64 (W5 tm.names d:Int)) x (.int .i64 (fs.length:Int)) (.int .i64 (d.length:Int)) HB H=some (.int .i64 (W5 tm.names fs:Int),H')∧Keep H0.length H0 H'∧H0.length≤H'.length:=by
 have hkl:=hm.len
 have hkt:=hm.last
 intro r
 induction r with
 |nil =>
  intro d H hd hK hlen
  rw[List.append_nil]at hd
  subst hd
  have hlt:decide ((fs.length:Int)<(fs.length:Int))=false:=by simp
  rw[QB]
  simp only[go_sem,hlt,Rt]
  exact⟨_,rfl,hK,hlen⟩
 |cons f r ih =>
  intro d H hd hK hlen
  have hlen2:fs.length=d.length+(r.length+1):=by rw[hd];simp
  have hlt:decide ((d.length:Int)<(fs.length:Int))=true:=by simp;omega
  have hw1:IntKind.i64.wrap ((d.length:Int)+1)=((d.length+1:Nat):Int):=by rw[Zr (by omega) (by omega)];omega
  have hif:fs[d.length]?=some f:=by rw[hd,List.getElem?_append_right (Nat.le_refl _)];simp
  have hidx:Zn 3 x (.int .i64 (d.length:Int))=some (.vp (YL f).cells):=Sl.idx hx (c:=YL f) (by simp[hif])
  have hat:TmAt H o t ms clk nx sl tm:=h.frame fun a ha=>hK a (h.lt a ha)
  have holt:=Zf hat.cells
  have hb1:(H++[AObj.cells [.str [],.int .i64 0,.int .i64 0]])[H.length]?=some (.cells [.str [],.int .i64 0,.int .i64 0]):=by simp
  have hst:Zh 3 (.ptr H.length 0) (YL f) (H++[AObj.cells [.str [],.int .i64 0,.int .i64 0]])=some (.tuple [],H++[AObj.cells (YL f).cells]):=by
   rw[VK (v:=YL f) (sz:=3) hb1 rfl rfl (by simp)]
   simp[splice,YL,AV.cells]
  have g1:(H++[AObj.cells (YL f).cells])[H.length]?=some (.cells (YL f).cells):=by simp
  have hat2:TmAt (H++[AObj.cells (YL f).cells]) o t ms clk nx sl tm:=hat.frame fun a ha=>List.getElem?_append_left (hat.lt a ha)
  have l2:=Y2 hat2.cells 2 (v:=nx) rfl
  have m0:=Y2 g1 0 (v:=.str f.name) rfl
  have m1:=Y2 g1 1 (v:=.int .i64 (f.text.length:Int)) rfl
  have hcon:=SO hat2.names.ss (by omega) f.name (H++[AObj.cells (YL f).cells])
  have hK2:Keep H0.length H0 (H++[AObj.cells (YL f).cells]):=hK.trans (Keep.push H hlen _)
  have hsum:W5 tm.names (d++[f])=W5 tm.names d+(if f.name∈tm.names then f.text.length else 0):=by rw[Zmt];simp[W5]
  have hle:=Zaf tm.names (d++[f])
  have hul:Zt (d++[f])≤Zt fs:=by
   rw[hd,U3,U3]
   simp only[Zt];omega
  obtain⟨H',p1,p2,p3⟩:=ih (d++[f]) (H++[AObj.cells (YL f).cells]) (by rw[hd];simp) hK2 (by simp;omega)
  rw[List.length_append,List.length_singleton]at p1
  refine⟨H',?_,p2,p3⟩
  rw[QB]
  simp only[go_sem,hlt,Ru,hidx,Zo8,hst,Nat.zero_add,l2,m0,hcon]
  by_cases hn:f.name∈tm.names
  ·rw[if_pos hn]at hsum
   have hwa:IntKind.i64.wrap ((W5 tm.names d:Int)+(f.text.length:Int))=(W5 tm.names (d++[f]):Int):=by rw[Zr (by omega) (by omega)];omega
   have c1:(YL f).cells[1]?=some (.int .i64 (f.text.length:Int)):=rfl
   simp only[decide_eq_true hn,go_sem,Nat.zero_add,m1,c1,hwa,QA,hw1]
   exact p1
  ·rw[if_neg hn,Nat.add_zero]at hsum
   rw[hsum]at p1
   simp only[decide_eq_false hn,go_sem,QA,hw1]
   exact p1
theorem Zn6 {H:Hp}{o t ms clk:Nat}{nx:AV}{sl:List (Zm×Nat)}{tm:Tmp}{s:Sto}{S:List Nat}(h:TmAt H o t ms clk nx sl tm)(hS:StoreAt H t s S)(hm:TmpOk tm)(hk:StoOk s) :
 D7 Wh [.ptr o 0] H=some (.int .i64 (Gm tm s:Int),H):=by
 obtain⟨x,q1,q2⟩:=Zhe hS hk
 have l0:=Y2 h.cells 0 (v:=.ptr t 0) rfl
 have hp:=Zj7 hk.nd
 have hlen:(Tj s.files).length≤64:=by rw[hp.length_eq];exact hk.len
 have hul:Zt (Tj s.files)≤262144:=by
  have h1:∀ {a b:List Fil},a.Perm b→Zt a=Zt b:=fun {a b} h=>by
   induction h with
   |nil=>rfl
   |cons x _ ih=>simp only[Zt,ih]
   |swap x y l=>simp only[Zt];omega
   |trans _ _ ih1 ih2=>rw[ih1,ih2]
  rw[h1 hp]
  have:=hk.used
  have:=hk.limit
  omega
 have hal:Zk (.slice 142) x=some (.int .i64 ((Tj s.files).length:Int)):=by
  have:=Sl.len q2 142
  rwa [List.length_map]at this
 obtain⟨H',p1,p2,p3⟩:=Zil h hm q2 hlen hul H _ [] H rfl (Keep.refl _ _) (Nat.le_refl _)
 have hrun:Wh [.ptr o 0] H=some (.int .i64 (W5 tm.names (Tj s.files):Int),H'):=by
  rw[T5]
  unfold KS
  simp only[go_sem,Nat.zero_add,l0,q1,hal]
  exact p1
 have:=ZbU hrun p2 p3 (v':=.int .i64 (W5 tm.names (Tj s.files):Int)) rfl
 rwa [ZjM tm.names hp]at this
def Bf (tm:Tmp)(s:Sto)(n:Zm)(l:List Zm):Int×Sto :=
 if Y3 tm n≠0 then (Y3 tm n,s) else if n∈tm.sld then (8,s) else if Xw l=false then (3,s) else
  if (tm.limit:Int)-(Gm tm s:Int)<(Y9 l:Int) then (11,s) else s.append n (ZX l)
theorem Zh8 {H:Hp}{ms clk:Nat}{sl:List (Zm×Nat)}(h:H[ms]?=some (.map (sl.map WJ) clk))(n:Zm):ZZ .string (.bool false) false (.map ms) (.str n) H=some (.bool (decide (n∈sl.map (·.1)))):=by
 have he:YP (.map ms) H=some (sl.map WJ):=by unfold YP;dsimp only;rw[h]
 have hkk:Xy .string (.str n)=true:=rfl
 unfold ZZ
 rw[if_pos hkk,he]
 dsimp only
 rcases OM sl n 0 with ⟨h1,h2⟩|⟨a,p,b,h1,h2,h3,h4⟩
 ·rw[h2,decide_eq_false h1];rfl
 ·rw[h4,decide_eq_true h3];rfl
theorem ZcX {H:Hp}{o t:Nat}{tm:Tmp}{s:Sto}{A:List Nat}(h:SysAt H o t tm s A)(hm:TmpOk tm)(hk:StoOk s)(n:Zm){x:AV}{l:List Zm}(hx:SS x l)(hL:∀ s∈l,s.length≤1048576)(hl:Y9 l≤1048576) :
 ∃ H' A',Wg [.ptr o 0,.str n,x] H=some (.int .i64 (Bf tm s n l).1,H')∧SysRes H H' o t tm (Bf tm s n l).2 A A':=by
 have hsys:=h
 obtain⟨B,S,h1,h2,h3,rfl⟩:=h
 have hB:=h1
 obtain⟨ms,clk,nx,sl,h1,rfl⟩:=h1
 have hf:=EL h1 hm n
 have l0:=Y2 h1.cells 0 (v:=.ptr t 0) rfl
 have l3:=Y2 h1.cells 3 (v:=.map ms) rfl
 have l4:=Y2 h1.cells 4 (v:=.int .i64 (tm.limit:Int)) rfl
 have hsl:=Zh8 h1.map n
 rw[h1.sld]at hsl
 have henc:=Znw hx hL (by omega) H
 have hby:=Zn6 h1 h2 hm hk
 have hul:Gm tm s≤262144:=by
  have:=Zaf tm.names s.files
  have:=hk.used
  have:=hk.limit
  unfold Gm;omega
 have hlim:=hm.limit
 have hw:IntKind.i64.wrap ((tm.limit:Int)-(Gm tm s:Int))=(tm.limit:Int)-(Gm tm s:Int):=Zr (by omega) (by omega)
 rw[T4]
 unfold KR Bf
 by_cases hf0:Y3 tm n=0
 ·have e0:(Y3 tm n != 0)=false:=by rw[hf0];rfl
  rw[if_neg (by simp[hf0])]
  by_cases hsd:n∈tm.sld
  ·rw[if_pos hsd]
   rw[decide_eq_true hsd]at hsl
   exact⟨H,_,by simp only[hf,go_sem,e0,Nat.zero_add,Xk,l3,hsl],hsys.self⟩
  ·rw[if_neg hsd]
   rw[decide_eq_false hsd]at hsl
   cases hft:Xw l with
   |false =>
    have e3:((3:Int) != 0)=true:=rfl
    rw[hft,if_neg (by simp)]at henc
    rw[if_pos rfl]
    exact⟨H,_,by simp only[hf,go_sem,e0,Nat.zero_add,Xk,l3,hsl,WC,henc,List.getElem?_cons_zero,List.getElem?_cons_succ,e3],hsys.self⟩
   |true =>
    have ez:((0:Int) != 0)=false:=rfl
    rw[hft,if_pos rfl]at henc
    rw[if_neg (by simp)]
    by_cases hb:(tm.limit:Int)-(Gm tm s:Int)<(Y9 l:Int)
    ·rw[if_pos hb]
     have e4:decide ((tm.limit:Int)-(Gm tm s:Int)<((ZX l).length:Int))=true:=by rw[Jl];exact decide_eq_true hb
     exact⟨H,_,by simp only[hf,go_sem,e0,Nat.zero_add,Xk,l3,hsl,WC,henc,List.getElem?_cons_zero,List.getElem?_cons_succ,ez,Qz,l4,hby,hw,e4],hsys.self⟩
    ·rw[if_neg hb]
     have e4:decide ((tm.limit:Int)-(Gm tm s:Int)<((ZX l).length:Int))=false:=by rw[Jl];exact decide_eq_false hb
     obtain⟨H1,S1,p1,p2⟩:=ZhG h2 hk n (ZX l) (by rw[Jl];omega)
     exact⟨H1,_,by simp only[hf,go_sem,e0,Nat.zero_add,Xk,l3,hsl,WC,henc,List.getElem?_cons_zero,List.getElem?_cons_succ,ez,Qz,l4,hby,hw,e4,Rs,l0,p1],SysAt.store hB h3 p2⟩
 ·have e0:(Y3 tm n != 0)=true:=by simpa using hf0
  rw[if_pos hf0]
  exact⟨H,_,by simp only[hf,go_sem,e0],hsys.self⟩
end Go.Am
