/-
  Runs, where nothing fails: Qd Pz; the Pz of RunsSort in the machine.
-/
import Derived.Test.YtehanadfidoodaaGreatDoorNkSmx
import Derived.Test.YtehanadfidoodaaGreatDoorNkXhx
import Derived.Test.YtehanadfidoodaaGreatDoorNkQbx
import Derived.Test.YtehanadfidoodaaGreatDoorNkGPx
import Derived.Test.YtehanadfidoodaaGreatDoorNkGF1x
import Derived.Test.YtehanadfidoodaaGreatDoorEmWx
import Derived.Test.YtehanadfidoodaaGreatDoorNkGLx
namespace Go.Am
set_option linter.unusedSimpArgs false
set_option linter.unusedVariables false
set_option linter.unusedSectionVars false
set_option maxRecDepth 100000
theorem Zfc {l:List Fil}{n:Zm}(h:ZQ l n=none)(f:Fil)(hf:f.name=n):ZQ (l++[f]) n=some f:=by
 induction l with
 |nil=>simp[ZQ,hf]
 |cons g l ih =>
  unfold ZQ at h
  split at h
  ·cases h
  ·rename_i hn
   rw[List.cons_append,ZQ,if_neg hn]
   exact ih h
theorem Zg4 {l:List Fil}{n:Zm}(h:ZQ l n=none)(f:Fil)(hf:f.name=n)(u:Fil→Fil):GS (l++[f]) n u=l++[u f]:=by
 induction l with
 |nil=>simp[GS,hf]
 |cons g l ih =>
  unfold ZQ at h
  split at h
  ·cases h
  ·rename_i hn
   rw[List.cons_append,GS,if_neg hn,ih h]
   rfl
section
variable {tm:Tmp}{s:Sto}{n:Zm}
theorem Zqm (hc:s.crashed=false)(h0:s.count=0)(hcl:tm.closed=false)(hn:n=ZH tm.owner (tm.last+1))(hb:D6 n=true)(hg:ZQ s.files n=none)(h64:s.files.length<64) :
 De tm s=((n,0),({ tm with last:=tm.last+1,names:=tm.names++[n] },{ s with files:=s.files++[⟨n,[],0⟩] })):=by
 subst hn
 unfold De
 rw[if_neg (by simp[hcl])]
 have:s.create (ZH tm.owner (tm.last+1))=(0,{ s with files:=s.files++[⟨ZH tm.owner (tm.last+1),[],0⟩] }):=by
  unfold Sto.create
  rw[Dd hc h0,if_neg (by simp[hc]),if_neg (by simp[hb]),hg]
  dsimp only
  rw[if_neg (by omega)]
 rw[this]
 rfl
theorem Zm9 {fs:List Fil}(hc:s.crashed=false)(h0:s.count=0)(hcl:tm.closed=false)(hn:n∈tm.names)(hs:n∉tm.sld)(hfs:s.files=fs++[⟨n,[],0⟩])(hg:ZQ fs n=none){l:List Zm}(hfit:Xw l=true)(hl:Zt fs+Y9 l≤s.limit)(ht:Zt fs+Y9 l≤tm.limit) :
 Bf tm s n l=(0,{ s with files:=fs++[⟨n,ZX l,0⟩],peak:=max s.peak (Zt fs+Y9 l) }):=by
 have hu:Zt s.files=Zt fs:=by rw[hfs,U3];simp[Zt]
 have hf:Y3 tm n=0:=by unfold Y3;rw[if_neg (by simp[hcl]),if_pos hn]
 have hun:=Zaf tm.names s.files
 unfold Bf
 rw[if_neg (by simp[hf]),if_neg hs,if_neg (by simp[hfit]),if_neg (by unfold Gm;omega)]
 unfold Sto.append
 rw[Dd hc h0,if_neg (by simp[hc]),hfs,Zfc hg _ rfl]
 dsimp only
 rw[←hfs,hu,Jl,if_neg (by omega),hfs,Zg4 hg _ rfl]
 rfl
theorem Zox {fs:List Fil}{x:Zm}{k:Nat}(hc:s.crashed=false)(h0:s.count=0)(hcl:tm.closed=false)(hn:n∈tm.names)(hfs:s.files=fs++[⟨n,x,k⟩])(hg:ZQ fs n=none) :
 R1 tm s n=(0,({ tm with sld:=HK tm.sld n },{ s with files:=fs++[⟨n,x,x.length⟩] })):=by
 have hf:Y3 tm n=0:=by unfold Y3;rw[if_neg (by simp[hcl]),if_pos hn]
 have hsy:s.sync n=(0,{ s with files:=fs++[⟨n,x,x.length⟩] }):=by
  unfold Sto.sync
  rw[Dd hc h0,if_neg (by simp[hc]),hfs,Zfc hg _ rfl]
  dsimp only
  rw[Zg4 hg _ rfl]
 unfold R1
 rw[if_neg (by simp[hf]),hsy]
 rfl
end
theorem SysAt.frame {H H':Hp}{o t:Nat}{tm:Tmp}{s:Sto}{A:List Nat}(h:SysAt H o t tm s A)(hf:∀ a∈A,H'[a]?=H[a]?):SysAt H' o t tm s A:=by
 obtain⟨B,S,⟨ms,clk,nx,sl,h1,rfl⟩,h2,h3,rfl⟩:=h
 exact⟨_,S,⟨ms,clk,nx,sl,h1.frame fun a ha=>hf a (by simp only[List.mem_append];exact .inl ha),rfl⟩,h2.frame fun a ha=>hf a (by simp[ha]),h3,rfl⟩
theorem Zmh (L:Loc)(p:Spec)(l:List Zj):∀ s∈YN L p l,s∈l:=by
 intro s hs
 unfold YN at hs
 split at hs
 ·exact hs
 ·split at hs
  ·rcases ZlH _ _ s hs with h|h
   ·cases h
   ·exact (NU L p l).2 s h
  ·exact (NU L p l).2 s hs
inductive AllD (L:Loc)(p:Spec):Zm→Bool→List Rd→List Zj→List Rd→Prop
 |done {last:Zm} {has:Bool} {ds ds':List Rd} (h:NextD (Vq L p) (Qg L p last has) ds none ds'):AllD L p last has ds [] ds'
 |more {last:Zm} {has:Bool} {ds ds' ds2:List Rd} {a:Zj} {out:List Zj} (h:NextD (Vq L p) (Qg L p last has) ds (some a) ds') (k:AllD L p a true ds' out ds2):AllD L p last has ds (a::out) ds2
theorem NextD.mem {lt:Zj→Zj→Bool}{same:Zj→Bool}{ds ds':List Rd}{z:Option Zj}(h:NextD lt same ds z ds'):∀ a,z=some a→∃ x∈ds,a∈x.rest:=by
 induction h with
 |done h=>exact fun a e=>by cases e
 |@skip P Q x a r z ds' hx h hs k ih =>
  intro b e
  obtain⟨y,hy,hb⟩:=ih b e
  rcases List.mem_append.1 hy with hy|hy
  ·exact⟨y,by simp[hy],hb⟩
  ·rcases List.mem_cons.1 hy with e'|hy
   ·subst e';exact⟨x,by simp,by rw[hx];exact List.mem_cons_of_mem _ hb⟩
   ·exact⟨y,by simp[hy],hb⟩
 |@give P Q x a r hx h hs =>
  intro b e
  injection e with e
  subst e
  exact⟨x,by simp,by rw[hx];simp⟩
section
variable {o t g n N:Nat}{tm:Tmp}{s:Sto}{A:List Nat}{L:Loc}{lx c e:AV}{p:Spec}{xp:AV}{rx:AV}{rs:List Nat}
 (hm:TmpOk tm) (hk:StoOk s) (hc:s.crashed=false) (h0:s.count=0)
 (hl:LocAV (.agg (L.cells lx c e)) L) (hok:LocOk L) (hs:SpecAV (.agg (p.cells xp)) p) (hks:∀ k∈p.keys,KeOk k)
 (hrx:Sl 1 rx (rs.map fun r=>AV.ptr r 0)) (hnd:rs.Nodup) (hlen:rs.length≤1048576)
 (hgA:g∉A) (hgd:g∉rs) (hn:n≤65536) (hgN:g<N) (hrN:∀ r∈rs,r<N) (hAN:∀ a∈A,a<N)
include hm hk hc h0 hl hok hs hks hrx hnd hlen hgA hgd hn hgN hrN hAN
theorem ZmN (H0:Hp):∀ (k i:Nat) (ds:List Rd) (last:Zm) (has:Bool) (x6:AV) (out:List Zj) (H:Hp),i+k=n→ZY ds≤k→out.length=i→last.length≤1048576→ds.map Rd.r=rs→SysAt H o t tm s A→(∀ x∈ds,RdAt H o tm s A x) →
 H[g]?=some (.cells (Qx L lx c e p xp (ZL p==0) rx last has))→RowN N H 1 x6 (out.map AV.str)→N≤H.length →
 ∃ H' x6' out' ds',T6 (.ptr g 0) (.int .i64 (n:Int)) x6 (.int .i64 (i:Int)) H0 H=some (.tuple [x6',.bool true],H')∧AllD L p last has ds out' ds'∧RowN N H' 1 x6' ((out++out').map AV.str) ∧
  SysAt H' o t tm s A∧(∀ x∈ds',RdAt H' o tm s A x)∧(∀ a,a<N→a∉g::rs++A→H'[a]?=H[a]?)∧N≤H'.length:=by
 have e0:((0:Int) != 0)=false:=rfl
 have e1:((0:Int)==0)=true:=rfl
 have ee:(([]:Zm)==[])=true:=rfl
 have hlow:∀ a,a∈g::rs++A→a<N:=fun a ha=>by
  rcases List.mem_append.1 ha with h|h
  ·rcases List.mem_cons.1 h with e'|h
   ·omega
   ·exact hrN a h
  ·exact hAN a h
 have hrowf:∀ {H H':Hp} {x:AV} {l:List AV},RowN N H 1 x l→Stp (g::rs++A) H H'→RowN N H' 1 x l:=fun h hS=>h.imp id fun⟨u,e',a1,a2,a3⟩=>⟨u,e',a1,hS.get a2 (fun h=>by have:=hlow u h;omega),a3⟩
 intro k
 induction k with
 |zero =>
  intro i ds last has x6 out H hi ht ho hlast hr hsys hrd hg hrow hN
  have hle:decide ((i:Int)≤(n:Int))=true:=by rw[decide_eq_true_eq];omega
  obtain⟨H1,z,ds1,p1,p2,p3,p4,p5,p6,p7⟩:=NH hm hk hc h0 hl hok hs hks hrx hnd hlen hgA hgd hlast hr hsys hrd hg
  cases z with
  |some a=>have:=p2.less.2 a rfl;omega
  |none =>
   obtain⟨H2,z2,ds2,q1,q2,q3,q4,q5,q6,q7⟩:=NH hm hk hc h0 hl hok hs hks hrx hnd hlen hgA hgd hlast p5 p3 p6 p7
   obtain⟨rfl,rfl⟩:=q2.at_end (p2.none_end rfl)
   refine⟨H2,x6,[],_,?_,.done p2,by rw[List.append_nil];exact hrowf (hrowf hrow p4) q4,q3,q6,fun a ha hn=>(q4.at' a (by have:=p4.len;omega) hn).trans (p4.at' a (by omega) hn),by have:=p4.len;have:=q4.len;omega⟩
   rw[R8]
   simp only[go_sem,hle,R6,p1,q1,List.getElem?_cons_zero,List.getElem?_cons_succ,e0,R7,Option.isSome,Option.getD,Bool.not_false,ee,e1]
 |succ k ih =>
  intro i ds last has x6 out H hi ht ho hlast hr hsys hrd hg hrow hN
  have hle:decide ((i:Int)≤(n:Int))=true:=by rw[decide_eq_true_eq];omega
  obtain⟨H1,z,ds1,p1,p2,p3,p4,p5,p6,p7⟩:=NH hm hk hc h0 hl hok hs hks hrx hnd hlen hgA hgd hlast hr hsys hrd hg
  cases z with
  |none =>
   obtain⟨H2,z2,ds2,q1,q2,q3,q4,q5,q6,q7⟩:=NH hm hk hc h0 hl hok hs hks hrx hnd hlen hgA hgd hlast p5 p3 p6 p7
   obtain⟨rfl,rfl⟩:=q2.at_end (p2.none_end rfl)
   refine⟨H2,x6,[],_,?_,.done p2,by rw[List.append_nil];exact hrowf (hrowf hrow p4) q4,q3,q6,fun a ha hn=>(q4.at' a (by have:=p4.len;omega) hn).trans (p4.at' a (by omega) hn),by have:=p4.len;have:=q4.len;omega⟩
   rw[R8]
   simp only[go_sem,hle,R6,p1,q1,List.getElem?_cons_zero,List.getElem?_cons_succ,e0,R7,Option.isSome,Option.getD,Bool.not_false,ee,e1]
  |some a =>
   have hla:a.length≤1048576:=by
    obtain⟨x,hx,ha⟩:=p2.mem a rfl
    have:=List.all_eq_true.1 (hrd x hx).fit a ha
    simp at this
    omega
   have hN1:N≤H1.length:=Nat.le_trans hN p4.len
   obtain⟨x',H2,w1,w2,w3,w4,_⟩:=(hrowf hrow p4).app hN1 16 (.vs 1 .clip [.str a]) [.str a] rfl (by simp;omega)
   have hw1:IntKind.i64.wrap ((i:Int)+1)=((i+1:Nat):Int):=by rw[Zr (by omega) (by omega)];omega
   have hsys2:SysAt H2 o t tm s A:=SysAt.frame p3 fun b hb=>w4 b (hAN b hb)
   have hrd2:∀ y∈ds1,RdAt H2 o tm s A y:=fun y hy=>(p6 y hy).frame (w4 y.r (hrN _ (by rw[←p5];exact List.mem_map_of_mem hy)))
   obtain⟨H3,x6',out',ds',m1,m2,m3,m4,m5,m6,m7⟩:=ih (i+1) ds1 a true x' (out++[a]) H2 (by omega) (by have:=p2.less.2 a rfl;omega) (by simp[ho]) hla p5 hsys2 hrd2 ((w4 g hgN).trans p7) (by rw[List.map_append];exact w2) w3
   refine⟨H3,x6',a::out',ds',?_,.more p2 m2,by rw[show out++a::out'=out++[a]++out' by simp];exact m3,m4,m5,fun b hb hn=>(m6 b hb hn).trans ((w4 b hb).trans (p4.at' b (by omega) hn)),m7⟩
   rw[R8]
   simp only[go_sem,hle,R6,p1,List.getElem?_cons_zero,List.getElem?_cons_succ,e0,R7,Option.isSome,Option.getD,Bool.not_true,ZdI,B2,w1,ZdH,hw1]
   exact m1
end
theorem Zfz {x1:AV}{ns:List Zm}(hx:SS x1 ns)(hl:ns.length≤65536)(o N:Nat)(H0:Hp):∀ (r d:List Zm) (x5:AV) (rs:List Nat) (H:Hp),ns=d++r→rs.length=d.length→RowN N H 1 x5 (rs.map fun r=>AV.ptr r 0)→N≤H.length →
 ∃ H' x5' rs',JB (.ptr o 0) x1 x5 (.int .i64 (d.length:Int)) H0 H=some (x5',H')∧RowN N H' 1 x5' ((rs++rs').map fun r=>AV.ptr r 0)∧rs'.length=r.length∧(∀ a,a<N→H'[a]?=H[a]?)∧(∀ (a:Nat) (cs:List AV),H[a]?=some (.cells cs)→H'[a]?=some (.cells cs)) ∧
  (∀ (i:Nat) (n:Zm),r[i]?=some n→∃ rr,rs'[i]?=some rr∧H'[rr]?=some (.cells (Va o n 0 false false [])))∧rs'.Nodup∧(∀ rr∈rs',H.length≤rr)∧H.length≤H'.length:=by
 have hn:=SS.len hx 9
 intro r
 induction r with
 |nil =>
  intro d x5 rs H hd hrs hrow hN
  rw[List.append_nil]at hd
  subst hd
  have hlt:decide ((ns.length:Int)<(ns.length:Int))=false:=by simp
  refine⟨H,x5,[],?_,by rw[List.append_nil];exact hrow,rfl,fun _ _=>rfl,fun _ _ h=>h,fun i n h=>by simp at h,by simp,by simp,Nat.le_refl _⟩
  rw[RG]
  simp only[hn,go_sem,hlt,Is]
 |cons n r ih =>
  intro d x5 rs H hd hrs hrow hN
  have hlen2:ns.length=d.length+(r.length+1):=by rw[hd];simp
  have hlt:decide ((d.length:Int)<(ns.length:Int))=true:=by rw[decide_eq_true_eq];omega
  have hw1:IntKind.i64.wrap ((d.length:Int)+1)=((d.length+1:Nat):Int):=by rw[Zr (by omega) (by omega)];omega
  have hin:ns[d.length]?=some n:=by rw[hd,List.getElem?_append_right (Nat.le_refl _)];simp
  have hidx:=SS.idx hx hin
  have hop:=ZjY o n H
  have hone:(ZF 1 [(0,AV.ptr H.length 0)] [.nilp]).map (AV.vs 1 .clip)=some (.vs 1 .clip [.ptr H.length 0]):=rfl
  obtain⟨x',H2,w1,w2,w3,w4,w5⟩:=(hrow.push [.cells (Va o n 0 false false [])]).app (by simp;omega) 8 (.vs 1 .clip [.ptr H.length 0]) [.ptr H.length 0] rfl (by simp;omega)
  have w5':∀ (a:Nat) (cs:List AV),(H++[AObj.cells (Va o n 0 false false [])])[a]?=some (.cells cs)→H2[a]?=some (.cells cs):=w5
  have hself:H2[H.length]?=some (.cells (Va o n 0 false false [])):=w5' _ _ (by simp)
  have hH2:H.length<H2.length:=Zf hself
  obtain⟨H3,x5',rs',m1,m2,m3,m4,m5,m6,m7,m8,m9⟩:=ih (d++[n]) x' (rs++[H.length]) H2 (by rw[hd];simp) (by simp[hrs]) (by rw[List.map_append];exact w2) w3
  rw[List.length_append,List.length_singleton]at m1
  refine⟨H3,x5',H.length::rs',?_,by rw[show rs++H.length::rs'=rs++[H.length]++rs' by simp];exact m2,by simp[m3],fun a ha=>(m4 a ha).trans ((w4 a ha).trans (List.getElem?_append_left (by omega))),fun a cs h=>m5 a cs (w5' a cs (YB h _)),fun i k hi=>?_,?_,fun rr hr=>?_,by omega⟩
  ·rw[RG]
   simp only[hn,go_sem,hlt,Iu,hidx,ZG,hop,hone,w1,Iv,hw1]
   exact m1
  ·cases i with
   |zero =>
    simp at hi
    subst hi
    exact⟨H.length,rfl,m5 _ _ hself⟩
   |succ i=>exact m6 i k (by simpa using hi)
  ·rw[List.nodup_cons]
   exact⟨fun h=>by have:=m8 _ h;omega,m7⟩
  ·rcases List.mem_cons.1 hr with e'|h
   ·omega
   ·have:=m8 _ h;omega
theorem Mz {lt:Zj→Zj→Bool}{f:Zj→Zj→Int}(hlt:∀ a c,lt a c=decide (0<f c a)):∀ (r:List (List Zj)) (i:Nat) (b:Option (Nat×Zj)),JE lt r i b=YM f r i b:=by
 intro r
 induction r with
 |nil=>intro i b;rfl
 |cons x r ih =>
  intro i b
  rw[JE,ih]
  cases x with
  |nil=>rfl
  |cons a t =>
   cases b with
   |none=>rfl
   |some q =>
    obtain⟨j,c⟩:=q
    rw[ML]
    show YM f r (i+1) (if lt a c=true then some (i,a) else some (j,c))=_
    rw[hlt]
    simp only[decide_eq_true_eq]
theorem Sp (ds:List Rd):Y0 (ds.map Rd.rest)=ZY ds:=by
 induction ds with
 |nil=>rfl
 |cons d ds ih=>rw[List.map_cons,Y0,ih,ZY]
theorem ZhA (P Q:List Rd)(x:Rd)(r:List Zj):((P++x::Q).map Rd.rest).set P.length ((((P++x::Q).map Rd.rest).getD P.length []).drop 1)=(P++{ x with rest:=x.rest.drop 1 }::Q).map Rd.rest:=by
 have h:(P++x::Q).map Rd.rest=P.map Rd.rest++x.rest::Q.map Rd.rest:=by simp
 rw[h,List.getD_eq_getElem?_getD,List.getElem?_append_right (by simp)]
 simp
theorem NextD.merge {f:Zj→Zj→Int}{lt:Zj→Zj→Bool}(hlt:∀ a c,lt a c=decide (0<f c a)){same:Zj→Bool}{ds ds':List Rd}{z:Option Zj}(h:NextD lt same ds z ds'):∀ n,ZY ds≤n →
 ∃ sk m,XM f n (ds.map Rd.rest)=sk++(match z with|none=>[]|some a=>a::XM f m (ds'.map Rd.rest))∧(∀ b∈sk,same b=true)∧(∀ a,z=some a→same a=false)∧ZY ds'≤m:=by
 induction h with
 |@done ds h =>
  intro n hn
  rw[Mz hlt]at h
  refine⟨[],n,?_,fun b hb=>(by cases hb),fun a e=>(by cases e),hn⟩
  cases n with
  |zero=>rfl
  |succ n=>rw[G8 h];rfl
 |@skip P Q x a r z ds' hx h hs k ih =>
  intro n hn
  rw[Mz hlt]at h
  rw[Wj,ZY,hx,List.length_cons]at hn
  cases n with
  |zero=>omega
  |succ n =>
   obtain⟨sk,m,h1,h2,h3,h4⟩:=ih n (by rw[Wj,ZY];show ZY P+(r.length+ZY Q)≤n;omega)
   refine⟨a::sk,m,?_,fun b hb=>?_,h3,h4⟩
   ·rw[QE h,ZhA P Q x r,hx,List.drop_one,List.tail_cons,h1];rfl
   ·rcases List.mem_cons.1 hb with e|e
    ·rw[e];exact hs
    ·exact h2 b e
 |@give P Q x a r hx h hs =>
  intro n hn
  rw[Mz hlt]at h
  rw[Wj,ZY,hx,List.length_cons]at hn
  cases n with
  |zero=>omega
  |succ n =>
   refine⟨[],n,?_,fun b hb=>(by cases hb),fun b e=>(by injection e with e;rw[←e];exact hs),by rw[Wj,ZY];show ZY P+(r.length+ZY Q)≤n;omega⟩
   rw[QE h,ZhA P Q x r,hx,List.drop_one,List.tail_cons];rfl
def JR (same:Zm→Bool→Zj→Bool):Zm→Bool→List Zj→List Zj
 |_,_,[]=>[]
 |last,has,a::l=>if same last has a=true then JR same last has l else a::JR same a true l
theorem ZbJ {same:Zm→Bool→Zj→Bool}{last:Zm}{has:Bool}(r:List Zj):∀ sk:List Zj,(∀ b∈sk,same last has b=true)→JR same last has (sk++r)=JR same last has r:=by
 intro sk
 induction sk with
 |nil=>intro _;rfl
 |cons b sk ih =>
  intro h
  rw[List.cons_append,JR,if_pos (h b (by simp))]
  exact ih fun c hc=>h c (by simp[hc])
theorem ZbI {same:Zm→Bool→Zj→Bool}(h:∀ a b c,same a b c=false):∀ (l:List Zj) (last:Zm) (has:Bool),JR same last has l=l:=by
 intro l
 induction l with
 |nil=>intro _ _;rfl
 |cons a l ih=>intro last has;rw[JR,if_neg (by rw[h];decide),ih]
theorem Zjn {L:Loc}{p:Spec}(hv:ZL p=0)(hu:p.uniq=true):∀ (l out:List Zj) (last:Zm) (has:Bool),(has=false∧out=[]∨has=true∧out.getLast?=some last)→WM (Xz L p) out l=out++JR (Qg L p) last has l:=by
 intro l
 induction l with
 |nil=>intro out last has _;rw[JR,List.append_nil];rfl
 |cons a l ih =>
  intro out last has h
  rw[WM,JR]
  have hs:Qf (Xz L p) out a=Qg L p last has a:=by
   unfold Qf Qg
   rcases h with ⟨rfl,rfl⟩|⟨rfl,h⟩
   ·rfl
   ·rw[h,hv,hu];rfl
  rw[hs]
  cases hsm:Qg L p last has a with
  |true=>rw[if_pos rfl,if_pos rfl];exact ih out last has h
  |false =>
   rw[if_neg (by decide),if_neg (by decide),ih (out++[a]) a true (.inr ⟨rfl,by simp⟩),List.append_assoc]
   rfl
section
variable {L:Loc}{p:Spec}
theorem AllD.once {f:Zj→Zj→Int}(hlt:∀ a c,Vq L p a c=decide (0<f c a)){last:Zm}{has:Bool}{ds ds':List Rd}{out:List Zj}(h:AllD L p last has ds out ds'):∀ n,ZY ds≤n→out=JR (Qg L p) last has (XM f n (ds.map Rd.rest)):=by
 induction h with
 |@done last has ds ds' h =>
  intro n hn
  obtain⟨sk,m,h1,h2,h3,h4⟩:=NextD.merge hlt h n hn
  rw[h1,ZbJ _ sk h2]
  rfl
 |@more last has ds ds' ds2 a out h k ih =>
  intro n hn
  obtain⟨sk,m,h1,h2,h3,h4⟩:=NextD.merge hlt h n hn
  rw[h1,ZbJ _ sk h2]
  show _=JR (Qg L p) last has (a::XM f m (ds'.map Rd.rest))
  rw[JR,h3 a rfl,if_neg (by decide),←ih m h4]
theorem Zqy:Cm (fun _ _:Zj=>(0:Int)):=by
 constructor <;> intros <;> first|rfl|simp|omega
def G9 (L:Loc)(p:Spec)(ls:List (List Zj)):List Zj:=if (ZL p != 0)=true then ls.flatten else LJ L p ls
theorem AllD.merge {ds ds':List Rd}{out:List Zj}(h:AllD L p [] false ds out ds'):out=G9 L p (ds.map Rd.rest):=by
 unfold G9
 cases hc:ZL p != 0 with
 |true =>
  rw[if_pos rfl]
  have hck:(ZL p==0)=false:=by simpa using hc
  have hlt:∀ a c,Vq L p a c=decide (0<(fun _ _:Zj=>(0:Int)) c a):=fun a c=>by unfold Vq;rw[hck];rfl
  have h1:=h.once hlt (ZY ds) (Nat.le_refl _)
  rw[ZbI (fun a b c=>by unfold Qg;rw[hck,Bool.and_false,Bool.false_and,Bool.false_and])]at h1
  obtain⟨_,_,h2⟩:=ZbE Zqy (ZY ds) (ds.map Rd.rest) (by rw[Sp];exact Nat.le_refl _) (fun l _=>by
   unfold GY
   exact List.pairwise_of_forall (fun _ _=>Int.le_refl _))
  have h3:=h2 []
  have e:Yt (fun _ _:Zj=>(0:Int)) []=fun _=>true:=rfl
  have h4:∀ l:List Zj,l.filter (fun _=>true)=l:=fun l=>List.filter_eq_self.2 fun _ _=>rfl
  rw[e,h4,h4]at h3
  rw[h1,h3]
 |false =>
  rw[if_neg (by decide)]
  have hv:ZL p=0:=by simpa using hc
  have hcm:=M9 L p
  have hlt:∀ a c,Vq L p a c=decide (0<ZN L p c a):=fun a c=>by
   unfold Vq
   rw[hv]
   have:=hcm.sym c a
   show decide _=decide _
   rw[decide_eq_decide]
   omega
  have h1:=h.once hlt (ZY ds) (Nat.le_refl _)
  unfold LJ
  rw[Sp]
  cases hu:p.uniq with
  |false =>
   rw[if_neg (by decide),h1]
   exact ZbI (fun a b c=>by unfold Qg;rw[hu,Bool.and_false,Bool.false_and]) _ _ _
  |true =>
   rw[if_pos rfl,h1,Zjn hv hu _ [] [] false (.inl ⟨rfl,rfl⟩)]
   rfl
theorem Zfn (ls:List (List Zj)):G9 L p (ls.map (YN L p))=YN L p ls.flatten:=by
 unfold G9
 cases hc:ZL p != 0 with
 |true =>
  have h:∀ l,YN L p l=l:=fun l=>by unfold YN;rw[hc,if_pos rfl]
  have h2:YN L p=id:=funext h
  rw[if_pos rfl,h2,List.map_id]
  rfl
 |false=>rw[if_neg (by decide)];exact Zh0 (by simpa using hc) ls
end
def YH:Zm:=[109,101,114,103,101]
def nms:List Zm:=(List.range 9).map fun i=>ZH YH (i+1)
theorem Zq6:nms.length=9:=by simp[nms]
theorem Zhr:nms=[49,50,51,52,53,54,55,56,57].map fun b=>[46,116,109,112,46,109,101,114,103,101,46,b]:=by kernel_rfl
theorem nms_nd:nms.Nodup:=by rw[Zhr];decide
theorem ZlC:nms.all D6=true:=by kernel_rfl
theorem ZlA {i:Nat}(h:i<9):nms[i]?=some (ZH YH (i+1)):=by simp[nms,h]
theorem Za2 {k:Nat}(h:k<9):nms.take (k+1)=nms.take k++[ZH YH (k+1)]:=by
 rw[List.take_add_one,ZlA h];rfl
theorem ZcH {k:Nat}(h:k<9):ZH YH (k+1)∉nms.take k:=fun hm=>by
 have hn:(nms.take (k+1)).Nodup:=nms_nd.sublist (List.take_sublist _ _)
 rw[Za2 h,List.nodup_append]at hn
 exact hn.2.2 _ hm _ (by simp) rfl
theorem ZlB {k:Nat}(h:k<9):D6 (ZH YH (k+1))=true:=List.all_eq_true.1 ZlC _ (List.mem_of_getElem? (ZlA h))
def Xf:List Zm→List (List Zj)→List Fil
 |n::ns,l::ls=>⟨n,ZX l,(ZX l).length⟩::Xf ns ls
 |_,_=>[]
theorem ZnC:∀ (ns:List Zm) (ls:List (List Zj)) (n:Zm) (l:List Zj),ns.length=ls.length→Xf (ns++[n]) (ls++[l])=Xf ns ls++[⟨n,ZX l,(ZX l).length⟩]:=by
 intro ns
 induction ns with
 |nil =>
  intro ls n l h
  cases ls with
  |nil=>rfl
  |cons m ls=>cases h
 |cons a ns ih =>
  intro ls n l h
  cases ls with
  |nil=>cases h
  |cons m ls=>rw[List.cons_append,List.cons_append,Xf,Xf,ih ls n l (by simpa using h)];rfl
theorem Zbh:∀ (ns:List Zm) (ls:List (List Zj)),ns.length=ls.length→(Xf ns ls).map Fil.name=ns:=by
 intro ns
 induction ns with
 |nil=>intro ls _;rfl
 |cons a ns ih =>
  intro ls h
  cases ls with
  |nil=>cases h
  |cons m ls=>rw[Xf,List.map_cons,ih ls (by simpa using h)]
theorem Zf4:∀ (ns:List Zm) (ls:List (List Zj)),∀ f∈Xf ns ls,f.syn=f.text.length:=by
 intro ns
 induction ns with
 |nil=>intro ls f hf;cases hf
 |cons a ns ih =>
  intro ls f hf
  cases ls with
  |nil=>cases hf
  |cons m ls =>
   rcases List.mem_cons.1 hf with e|e
   ·rw[e]
   ·exact ih ls f e
theorem Zd8:∀ (ns:List Zm) (ls:List (List Zj)),ns.length=ls.length→Zt (Xf ns ls)=Y9 ls.flatten:=by
 intro ns
 induction ns with
 |nil =>
  intro ls h
  cases ls with
  |nil=>rfl
  |cons m ls=>cases h
 |cons a ns ih =>
  intro ls h
  cases ls with
  |nil=>cases h
  |cons m ls=>rw[Xf,Zt,ih ls (by simpa using h),List.flatten_cons,HV];exact congrArg (·+_) (Jl m)
theorem ZnL {l:List Fil}{n:Zm}(h:n∉l.map Fil.name):ZQ l n=none:=by
 induction l with
 |nil=>rfl
 |cons f l ih =>
  rw[List.map_cons,List.mem_cons]at h
  rw[ZQ,if_neg fun e=>h (.inl e),ih fun e=>h (.inr e)]
theorem Zf3:∀ (ns:List Zm) (ls:List (List Zj)),ns.length=ls.length→ns.Nodup→∀ (i:Nat) (n:Zm) (l:List Zj),ns[i]?=some n→ls[i]?=some l→ZQ (Xf ns ls) n=some ⟨n,ZX l,(ZX l).length⟩:=by
 intro ns
 induction ns with
 |nil=>intro ls h hn i n l h1;simp at h1
 |cons a ns ih =>
  intro ls h hn i n l h1 h2
  cases ls with
  |nil=>cases h
  |cons m ls =>
   rw[Xf,ZQ]
   cases i with
   |zero =>
    simp at h1 h2
    subst h1 h2
    rw[if_pos rfl]
   |succ i =>
    simp at h1 h2
    have hne:n≠a:=fun e=>(List.nodup_cons.1 hn).1 (e ▸ List.mem_of_getElem? h1)
    rw[if_neg hne]
    exact ih ls (by simpa using h) (List.nodup_cons.1 hn).2 i n l h1 h2
def UO (k:Nat):Tmp:=⟨YH,nms.take k,nms.take k,262144,k,false⟩
def Jq (ls:List (List Zj))(pk:Nat):Sto:=⟨262144,pk,Xf (nms.take ls.length) ls,false,0⟩
theorem Ue {k:Nat}(h:k≤9):(nms.take k).length=k:=by rw[List.length_take,Zq6];omega
theorem Zg1 {k:Nat}(h:k≤9):TmpOk (UO k):=⟨show (5:Nat)≤16 by omega,show (262144:Nat)≤_ by omega,show (nms.take k).length≤k by rw[Ue h];exact Nat.le_refl _,show k≤1000000 by omega⟩
theorem ZfS {fs:List Fil}{ns:List Zm}{pk:Nat}(hn:fs.map Fil.name=ns)(hk:ns.length≤9)(hnd:ns.Nodup)(hin:∀ n∈ns,n∈nms)(hu:Zt fs≤262144)(hpk:pk≤262144)(hs:∀ f∈fs,f.syn≤f.text.length):StoOk ⟨262144,pk,fs,false,0⟩ :=
 ⟨Nat.le_refl _,hu,hpk,fun f hf=>List.all_eq_true.1 ZlC _ (hin _ (by rw[←hn];exact List.mem_map_of_mem hf)),by show (fs.map Fil.name).Nodup;rw[hn];exact hnd,hs,by show fs.length≤64;rw[←List.length_map (f:=Fil.name),hn];omega,Nat.zero_le _⟩
theorem ZbZ {ls:List (List Zj)}{pk:Nat}(hk:ls.length≤9)(hc:Y9 ls.flatten≤262144)(hpk:pk≤262144):StoOk (Jq ls pk) :=
 ZfS (ns:=nms.take ls.length) (Zbh _ _ (Ue hk)) (by rw[Ue hk];exact hk) (nms_nd.sublist (List.take_sublist _ _)) (fun n hn=>List.mem_of_mem_take hn) (by rw[Zd8 _ _ (Ue hk)];exact hc) hpk fun f hf=>by rw[Zf4 _ _ f hf];exact Nat.le_refl _
theorem ZjG {ls:List (List Zj)}{pk:Nat}{l:List Zj}(hk:ls.length<9)(hpk:pk≤262144)(hfit:Xw l=true)(hc:Y9 ls.flatten+Y9 l≤262144) :
 ∃ tm1 s1 s2 pk',De (UO ls.length) (Jq ls pk)=((ZH YH (ls.length+1),0),(tm1,s1))∧TmpOk tm1∧StoOk s1∧Bf tm1 s1 (ZH YH (ls.length+1)) l=(0,s2)∧StoOk s2 ∧
  R1 tm1 s2 (ZH YH (ls.length+1))=(0,(UO (ls++[l]).length,Jq (ls++[l]) pk'))∧pk'≤262144:=by
 have hlen:=Ue (k:=ls.length) (by omega)
 have hnm:=Zbh _ _ hlen
 have hus:=Zd8 _ _ hlen
 have hout:ZQ (Xf (nms.take ls.length) ls) (ZH YH (ls.length+1))=none:=ZnL (by rw[hnm];exact ZcH hk)
 have hfl:(Xf (nms.take ls.length) ls).length=ls.length:=by rw[←List.length_map (f:=Fil.name),hnm,hlen]
 have hsu:=Za2 hk
 have hnd:(nms.take ls.length++[ZH YH (ls.length+1)]).Nodup:=by rw[←hsu];exact nms_nd.sublist (List.take_sublist _ _)
 have hin:∀ n∈nms.take ls.length++[ZH YH (ls.length+1)],n∈nms:=fun n hn=>by rw[←hsu]at hn;exact List.mem_of_mem_take hn
 have h9:(nms.take ls.length++[ZH YH (ls.length+1)]).length≤9:=by rw[List.length_append,hlen,List.length_singleton];omega
 have hms:∀ (x:Zm) (k:Nat),((Xf (nms.take ls.length) ls++[⟨ZH YH (ls.length+1),x,k⟩]:List Fil)).map Fil.name=nms.take ls.length++[ZH YH (ls.length+1)]:=fun x k=>by rw[List.map_append,hnm];rfl
 have hsy:∀ (x:Zm) (k:Nat),k≤x.length→∀ f∈(Xf (nms.take ls.length) ls++[⟨ZH YH (ls.length+1),x,k⟩]:List Fil),f.syn≤f.text.length:=fun x k hx f hf=>by
  rcases List.mem_append.1 hf with h|h
  ·rw[Zf4 _ _ f h];exact Nat.le_refl _
  ·rw[List.mem_singleton.1 h];exact hx
 have hel:=Jl l
 refine⟨{ UO ls.length with last:=ls.length+1,names:=nms.take ls.length++[ZH YH (ls.length+1)] },{ Jq ls pk with files:=Xf (nms.take ls.length) ls++[⟨ZH YH (ls.length+1),[],0⟩] },
  {Jq ls pk with files:=Xf (nms.take ls.length) ls++[⟨ZH YH (ls.length+1),ZX l,0⟩],peak:=max pk (Zt (Xf (nms.take ls.length) ls)+Y9 l) },max pk (Y9 ls.flatten+Y9 l),?_,?_,?_,?_,?_,?_,by omega⟩
 ·exact Zqm (tm:=UO ls.length) (s:=Jq ls pk) rfl rfl rfl rfl (ZlB hk) hout (by show (Xf (nms.take ls.length) ls).length<64;omega)
 ·exact⟨show (5:Nat)≤16 by omega,show (262144:Nat)≤_ by omega,show (nms.take ls.length++[ZH YH (ls.length+1)]).length≤ls.length+1 by rw[List.length_append,hlen];exact Nat.le_refl _,show ls.length+1≤1000000 by omega⟩
 ·exact ZfS (hms _ _) h9 hnd hin (by rw[U3,hus];simp only[Zt,List.length_nil];omega) hpk (hsy _ _ (Nat.le_refl _))
 ·exact Zm9 (tm:={ UO ls.length with last:=ls.length+1,names:=nms.take ls.length++[ZH YH (ls.length+1)] }) (s:={ Jq ls pk with files:=Xf (nms.take ls.length) ls++[⟨ZH YH (ls.length+1),[],0⟩] }) (fs:=Xf (nms.take ls.length) ls) rfl rfl rfl (by simp) (ZcH hk) rfl hout hfit (by rw[hus];exact hc) (by rw[hus];exact hc)
 ·exact ZfS (hms _ _) h9 hnd hin (by rw[U3,hus];simp only[Zt];omega) (by rw[hus];omega) (hsy _ _ (Nat.zero_le _))
 ·refine (Zox (tm:={ UO ls.length with last:=ls.length+1,names:=nms.take ls.length++[ZH YH (ls.length+1)] }) (s:={ Jq ls pk with files:=Xf (nms.take ls.length) ls++[⟨ZH YH (ls.length+1),ZX l,0⟩],peak:=max pk (Zt (Xf (nms.take ls.length) ls)+Y9 l) }) (fs:=Xf (nms.take ls.length) ls) rfl rfl rfl (by simp) rfl hout).trans ?_
  have e1:HK (nms.take ls.length) (ZH YH (ls.length+1))=nms.take (ls.length+1):=by rw[HK,if_neg (ZcH hk),hsu]
  have e2:(ls++[l]).length=ls.length+1:=by simp
  have e3:Xf (nms.take (ls.length+1)) (ls++[l])=Xf (nms.take ls.length) ls++[⟨ZH YH (ls.length+1),ZX l,(ZX l).length⟩]:=by rw[hsu,ZnC _ _ _ _ hlen]
  show ((0:Int),(({ UO ls.length with last:=ls.length+1,names:=nms.take ls.length++[ZH YH (ls.length+1)],sld:=HK (nms.take ls.length) (ZH YH (ls.length+1)) }:Tmp),({ Jq ls pk with files:=Xf (nms.take ls.length) ls++[⟨ZH YH (ls.length+1),ZX l,(ZX l).length⟩],peak:=max pk (Zt (Xf (nms.take ls.length) ls)+Y9 l) }:Sto)))=_
  rw[e1,hus,←hsu,←e3]
  show _=((0:Int),(⟨YH,nms.take (ls++[l]).length,nms.take (ls++[l]).length,262144,(ls++[l]).length,false⟩:Tmp),(⟨262144,_,Xf (nms.take (ls++[l]).length) (ls++[l]),false,0⟩:Sto))
  rw[e2]
  rfl
theorem ZjE {x y:AV}{l m:List Zj}(hx:SS x l)(hy:SS y m)(hl:l.length≤1048576)(hlm:l.length=m.length)(H0 H:Hp):∀ (k i:Nat),l.length-i=k→i≤l.length →
 UY x y (.int .i64 (i:Int)) H0 H=some (.bool (decide (l.drop i=m.drop i)),H):=by
 have p3:=SS.len hx 9
 intro k
 induction k with
 |zero =>
  intro i hk hi
  have hlt:decide ((i:Int)<(l.length:Int))=false:=by simp;omega
  have e:l.drop i=m.drop i:=by rw[List.drop_eq_nil_iff.2 (by omega),List.drop_eq_nil_iff.2 (by omega)]
  rw[Dj]
  simp only[go_sem,p3,hlt,Cg,decide_eq_true e]
 |succ k ih =>
  intro i hk hi
  have hlt:decide ((i:Int)<(l.length:Int))=true:=by simp;omega
  have hw:IntKind.i64.wrap ((i:Int)+1)=((i+1:Nat):Int):=by rw[Zr (by omega) (by omega)];omega
  have h1:=SS.idx hx (List.getElem?_eq_getElem (show i<l.length by omega))
  have h2:=SS.idx hy (List.getElem?_eq_getElem (show i<m.length by omega))
  have hsb:Yh .neq (.str l[i]) (.str m[i])=some (.bool (l[i] != m[i])):=rfl
  rw[Dj,List.drop_eq_getElem_cons (show i<l.length by omega),List.drop_eq_getElem_cons (show i<m.length by omega)]
  simp only[go_sem,p3,hlt,Ch,h1,h2,ZG,hsb]
  by_cases he:l[i]=m[i]
  ·have:(l[i] != m[i])=false:=by simp[he]
   simp only[this,go_sem,Ci,hw]
   rw[ih (i+1) (by omega) (by omega)]
   have e:decide (l[i]::l.drop (i+1)=m[i]::m.drop (i+1))=decide (l.drop (i+1)=m.drop (i+1)):=by
    rw[decide_eq_decide,List.cons.injEq]
    exact⟨fun h=>h.2,fun h=>⟨he,h⟩⟩
   rw[e]
  ·have:(l[i] != m[i])=true:=by simp[he]
   have e:decide (l[i]::l.drop (i+1)=m[i]::m.drop (i+1))=false:=by
    rw[decide_eq_false_iff_not,List.cons.injEq]
    exact fun h=>he h.1
   simp only[this,go_sem,e]
theorem ZjD {x y:AV}{l m:List Zj}(hx:SS x l)(hy:SS y m)(hl:l.length≤1048576)(hm:m.length≤1048576)(H:Hp):Ze Bh [x,y] H=some (.bool (decide (l=m)),H):=by
 obtain⟨x1,k1,k2⟩:=SS.closed hx [] 0 4
 obtain⟨y1,g1,g2⟩:=SS.closed hy [] 0 4
 have p1:=SS.len k2 9
 have p2:=SS.len g2 9
 refine JF k1 g1 (H1:=[]) ?_ rfl
 rw[CY]
 unfold Nt
 by_cases hlm:l.length=m.length
 ·have hne:((l.length:Int) != (m.length:Int))=false:=by simp[hlm]
  have:=ZjE k2 g2 hl hlm [] [] l.length 0 rfl (Nat.zero_le _)
  rw[show ((0:Nat):Int)=0 from rfl,List.drop_zero,List.drop_zero]at this
  simp only[go_sem,p1,p2,hne,Cf,this]
 ·have hne:((l.length:Int) != (m.length:Int))=true:=by simp;omega
  have:¬ l=m:=fun e=>hlm (by rw[e])
  simp only[go_sem,p1,p2,hne,decide_eq_false this]
theorem ZgQ {x:AV}{ls:List (List Zj)}(hx:LsV x ls)(ht:Y0 ls≤1048576)(hl:ls.length≤1048576)(H0:Hp):∀ (r done:List (List Zj)) (y:AV) (H:Hp),ls=done++r→RS H y done.flatten →
 ∃ y' H',Gq x y (.int .i64 (done.length:Int)) H0 H=some (y',H')∧SS y' ls.flatten:=by
 intro r
 induction r with
 |nil =>
  intro done y H hd hy
  rw[List.append_nil]at hd
  subst hd
  have hlt:decide ((ls.length:Int)<(ls.length:Int))=false:=by simp
  refine⟨y,H,?_,hy.sl⟩
  rw[P4]
  simp only[go_sem,hx.len 32,hlt,On]
 |cons l r ih =>
  intro done y H hd hy
  have hlen:ls.length=done.length+(r.length+1):=by rw[hd];simp
  have hlt:decide ((done.length:Int)<(ls.length:Int))=true:=by simp;omega
  have hw1:IntKind.i64.wrap ((done.length:Int)+1)=((done.length+1:Nat):Int):=by rw[Zr (by omega) (by omega)];omega
  have hiy:ls[done.length]?=some l:=by rw[hd,List.getElem?_append_right (Nat.le_refl _)];simp
  obtain⟨a,g1,g3⟩:=hx.get' hiy
  have hb:Y0 done+l.length≤1048576:=by rw[hd,R2]at ht;simp[Y0]at ht;omega
  rw[←TB]at hb
  obtain⟨y1,H1,q1,q2⟩:=hy.app g3 (by omega)
  obtain⟨y',H',m1,m2⟩:=ih (done++[l]) y1 H1 (by rw[hd];simp) (by simpa using q2)
  rw[List.length_append,List.length_singleton]at m1
  refine⟨y',H',?_,m2⟩
  rw[P4]
  simp only[go_sem,hx.len 32,hlt,Oo,g1,ZG,q1,Oq,hw1,m1]
theorem ZgP {x:AV}{ls:List (List Zj)}(hx:LsV x ls)(ht:Y0 ls≤1048576)(hl:ls.length≤1048576)(H:Hp):∃ y,Ze TH [x] H=some (y,H)∧SS y ls.flatten:=by
 obtain⟨x',h1,h2⟩:=hx.close [] 0 3
 obtain⟨y,H1,r1,r2⟩:=ZgQ h2 ht hl [] ls [] .nils [] rfl (RowN.nil _ _ _)
 rw[List.length_nil,show ((0:Nat):Int)=0 from rfl]at r1
 obtain⟨y',r3,r4⟩:=SS.closed r2 H1 0 4
 refine⟨y',DW (args':=[x']) (by simp[h1]) (v:=y) (H1:=H1) ?_ r3,r4⟩
 rw[Zah]
 unfold CW
 exact r1
def Few (l:List Zj):Prop:=l.length≤30∧∀ s∈l,s.length≤200
section
variable {x:AV}{ls:List (List Zj)}(hx:LsV x ls)(hL:Ef ls)(hl:ls.length≤1048576)(ht:Y0 ls≤1048576)
include hx hL hl ht
theorem Zr2 {l:List Zj}{i:Nat}(hi:ls[i]?=some l)(hll:l.length≤1048576)(H0 H:Hp):∀ (r d:List Zj),l=d++r→(∀ s∈d,s.length≤200) →
 Bs x (.int .i64 (i:Int)) (.int .i64 (d.length:Int)) H0 H=some (.bool false,H)∨Bs x (.int .i64 (i:Int)) (.int .i64 (d.length:Int)) H0 H=Ec x (.int .i64 (i:Int)) H0 H∧Few l:=by
 obtain⟨a,g1,g2⟩:=hx.get' hi
 have hn:=g2.len 9
 intro r
 induction r with
 |nil =>
  intro d hd h2
  rw[List.append_nil]at hd
  subst hd
  have hlt:decide ((l.length:Int)<(l.length:Int))=false:=by simp
  rw[SA]
  simp only[g1,ZG,hn,go_sem,hlt,ZdM]
  by_cases h3:30<l.length
  ·have e:decide ((30:Int)<(l.length:Int))=true:=by rw[decide_eq_true_eq];omega
   simp only[e,go_sem]
   exact .inl trivial
  ·have e:decide ((30:Int)<(l.length:Int))=false:=by rw[decide_eq_false_iff_not];omega
   simp only[e,go_sem]
   exact .inr ⟨trivial,by omega,h2⟩
 |cons s r ih =>
  intro d hd h2
  have hlen:l.length=d.length+(r.length+1):=by rw[hd];simp
  have hlt:decide ((d.length:Int)<(l.length:Int))=true:=by rw[decide_eq_true_eq];omega
  have hw1:IntKind.i64.wrap ((d.length:Int)+1)=((d.length+1:Nat):Int):=by rw[Zr (by omega) (by omega)];omega
  have his:l[d.length]?=some s:=by rw[hd,List.getElem?_append_right (Nat.le_refl _)];simp
  have hidx:=g2.idx his
  have hs:=hL l (List.mem_of_getElem? hi) s (by rw[hd];simp)
  rw[SA]
  simp only[g1,ZG,hn,go_sem,hlt,ZdN,hidx]
  by_cases h3:200<s.length
  ·have e:decide ((200:Int)<(s.length:Int))=true:=by rw[decide_eq_true_eq];omega
   simp only[e,go_sem]
   exact .inl trivial
  ·have e:decide ((200:Int)<(s.length:Int))=false:=by rw[decide_eq_false_iff_not];omega
   have m:=ih (d++[s]) (by rw[hd];simp) (fun u hu=>by
    rcases List.mem_append.1 hu with h|h
    ·exact h2 u h
    ·rw[List.mem_singleton.1 h];omega)
   rw[List.length_append,List.length_singleton]at m
   simp only[e,go_sem,ZdO,hw1]
   exact m
theorem ZkU (H0 H:Hp):∀ (r d:List (List Zj)),ls=d++r→(∀ l∈d,Few l)→∃ b,T8 x (.int .i64 (d.length:Int)) H0 H=some (.bool b,H)∧(b=true→ls.length≤8∧∀ l∈ls,Few l):=by
 have hn:=hx.len 32
 intro r
 induction r with
 |nil =>
  intro d hd h2
  rw[List.append_nil]at hd
  subst hd
  have hlt:decide ((ls.length:Int)<(ls.length:Int))=false:=by simp
  refine⟨decide ((ls.length:Int)≤8),?_,fun h=>⟨by have:=of_decide_eq_true h;omega,h2⟩⟩
  rw[Sz]
  simp only[hn,go_sem,hlt,ZdJ]
 |cons l r ih =>
  intro d hd h2
  have hlen:ls.length=d.length+(r.length+1):=by rw[hd];simp
  have hlt:decide ((d.length:Int)<(ls.length:Int))=true:=by rw[decide_eq_true_eq];omega
  have hw1:IntKind.i64.wrap ((d.length:Int)+1)=((d.length+1:Nat):Int):=by rw[Zr (by omega) (by omega)];omega
  have his:ls[d.length]?=some l:=by rw[hd,List.getElem?_append_right (Nat.le_refl _)];simp
  have hll:l.length≤1048576:=by rw[hd,R2]at ht;simp[Y0]at ht;omega
  rw[Sz]
  simp only[hn,go_sem,hlt,ZdK]
  rcases Zr2 hx hL hl ht his hll H0 H l [] rfl (fun s hs=>by cases hs) with h|⟨h,hf⟩
  ·rw[List.length_nil,show ((0:Nat):Int)=0 from rfl]at h
   exact⟨false,h,fun h=>by cases h⟩
  ·rw[List.length_nil,show ((0:Nat):Int)=0 from rfl]at h
   obtain⟨b,m1,m2⟩:=ih (d++[l]) (by rw[hd];simp) (fun k hk=>by
    rcases List.mem_append.1 hk with h|h
    ·exact h2 k h
    ·rw[List.mem_singleton.1 h];exact hf)
   rw[List.length_append,List.length_singleton]at m1
   refine⟨b,?_,m2⟩
   rw[h,ZdL]
   simp only[go_sem,hw1]
   exact m1
theorem ZkT (H:Hp):∃ b,Ze CV [x] H=some (.bool b,H)∧(b=true→ls.length≤8∧∀ l∈ls,Few l):=by
 obtain⟨x',h1,h2⟩:=hx.close [] 0 3
 obtain⟨b,r1,r2⟩:=ZkU h2 hL hl ht [] [] ls [] rfl (fun l hl=>by cases hl)
 rw[List.length_nil,show ((0:Nat):Int)=0 from rfl]at r1
 refine⟨b,Xx h1 (H1:=[]) ?_ rfl,r2⟩
 rw[Zeq]
 unfold ZcU
 exact r1
end
theorem ZkF:∀ (l:List Zj),(∀ s∈l,s.length≤200)→Y9 l≤l.length*206:=by
 intro l
 induction l with
 |nil=>intro _;exact Nat.le_refl _
 |cons s l ih =>
  intro h
  have h1:=h s (by simp)
  have h2:=ih fun t ht=>h t (by simp[ht])
  simp only[Y9,List.length_cons]
  omega
theorem Few.cost {l:List Zj}(h:Few l):Y9 l≤6180:=by
 have:=ZkF l h.2
 have:=h.1
 omega
theorem OK:∀ (ls:List (List Zj)),(∀ l∈ls,Few l)→Y9 ls.flatten≤ls.length*6180:=by
 intro ls
 induction ls with
 |nil=>intro _;exact Nat.le_refl _
 |cons l ls ih =>
  intro h
  have h1:=(h l (by simp)).cost
  have h2:=ih fun t ht=>h t (by simp[ht])
  rw[List.flatten_cons,HV,List.length_cons]
  omega
theorem ZkV:∀ (ls:List (List Zj)),(∀ l∈ls,Few l)→Y0 ls≤ls.length*30:=by
 intro ls
 induction ls with
 |nil=>intro _;exact Nat.le_refl _
 |cons l ls ih =>
  intro h
  have h1:=(h l (by simp)).1
  have h2:=ih fun t ht=>h t (by simp[ht])
  rw[Y0,List.length_cons]
  omega
theorem Few.fits {l:List Zj}(h:Few l):Xw l=true:=List.all_eq_true.2 fun s hs=>by have:=h.2 s hs;simp;omega
theorem Few.lens {l:List Zj}(h:Few l):Bu l:=fun s hs=>by have:=h.2 s hs;omega
def WO (srt:Bool)(L:Loc)(p:Spec)(l:List Zj):List Zj:=if srt then YN L p l else l
theorem Few.out {l:List Zj}(h:Few l)(srt:Bool)(L:Loc)(p:Spec):Few (WO srt L p l):=by
 cases srt with
 |false=>exact h
 |true=>exact⟨Nat.le_trans (AP L p l) h.1,fun s hs=>h.2 s (Zmh L p l s hs)⟩
section
variable {L:Loc}{lx c e:AV}{p:Spec}{xp:AV}(hl:LocAV (.agg (L.cells lx c e)) L)(hok:LocOk L)(hs:SpecAV (.agg (p.cells xp)) p)(hks:∀ k∈p.keys,KeOk k)
 {x:AV} {ls:List (List Zj)} (hx:LsV x ls) (hf:∀ l∈ls,Few l) (h8:ls.length≤8)
include hl hok hs hks hx hf h8
theorem ZiN (srt:Bool){o t i4 i5:Nat}{H:Hp}{A:List Nat}{pk:Nat}{d r:List (List Zj)}{l:List Zj}(hd:ls=d++l::r)(h:SysAt H o t (UO d.length) (Jq (d.map (WO srt L p)) pk) A)(hpk:pk≤262144)
 (g4:H[i4]?=some (.cells (L.cells lx c e))) (g5:H[i5]?=some (.cells (p.cells xp))) (x13:AV) (H0:Hp) :
 ∃ H' A' pk',P2 x (.bool srt) (.ptr i4 0) (.ptr i5 0) (.ptr o 0) x13 (.int .i64 (d.length:Int)) H0 H=Jd x (.bool srt) (.ptr i4 0) (.ptr i5 0) (.ptr o 0) (.int .i64 0) x13 (.int .i64 (d.length:Int)) (.str (ZH YH (d.length+1))) H0 H' ∧
  SysRes H H' o t (UO (d++[l]).length) (Jq ((d++[l]).map (WO srt L p)) pk') A A'∧pk'≤262144:=by
 have hlen:ls.length=d.length+(r.length+1):=by rw[hd];simp
 have his:ls[d.length]?=some l:=by rw[hd,List.getElem?_append_right (Nat.le_refl _)];simp
 obtain⟨a,q1,q2⟩:=hx.get' his
 have hfl:Few l:=hf l (by rw[hd];simp)
 have hfd:∀ m∈d.map (WO srt L p),Few m:=fun m hm=>by
  obtain⟨k,hk,rfl⟩:=List.mem_map.1 hm
  exact (hf k (by rw[hd];simp[hk])).out srt L p
 have hfo:=hfl.out srt L p
 have hco:=hfo.cost
 have hcd:=OK _ hfd
 have hdl:(d.map (WO srt L p)).length=d.length:=List.length_map _
 rw[hdl]at hcd
 have hmul:d.length*6180≤7*6180:=Nat.mul_le_mul_right _ (by omega)
 obtain⟨tm1,s1,s2,pk',n1,n2,n3,n4,n5,n6,n7⟩:=ZjG (ls:=d.map (WO srt L p)) (pk:=pk) (l:=WO srt L p l) (by omega) hpk hfo.fits (by omega)
 have e1:(d.map (WO srt L p)++[WO srt L p l])=(d++[l]).map (WO srt L p):=by simp
 have e2:((d++[l]).map (WO srt L p)).length=(d++[l]).length:=List.length_map _
 rw[e1,e2]at n6
 rw[hdl]at n1 n4 n6
 have hm:=Zg1 (k:=d.length) (by omega)
 have hk:StoOk (Jq (d.map (WO srt L p)) pk):=ZbZ (by omega) (by omega) hpk
 have hl30:=hfl.1
 cases srt with
 |true =>
  obtain⟨H',A',r1,r2⟩:=ZjZ h hm hk (show d.length<1000000 by omega) hl hok hs hks q2 hfl.lens (by omega) (show Y9 (WO true L p l)≤1048576 by omega) (hfo.lens) n1 n2 n3 n4 n5 n6
  refine⟨H',A',pk',?_,r2,n7⟩
  rw[NE]
  simp only[go_sem,NZ g4,Tl g5,q1,ZG,r1,List.getElem?_cons_zero,List.getElem?_cons_succ]
 |false =>
  obtain⟨H1,A1,r1,r2⟩:=Zev h hm hk (show d.length<1000000 by omega)
  rw[n1]at r1 r2
  obtain⟨H2,A2,w1,w2⟩:=ZcX r2.at' n2 n3 (ZH YH (d.length+1)) q2 hfl.lens (show Y9 (WO false L p l)≤1048576 by omega)
  have n4':Bf tm1 s1 (ZH YH (d.length+1)) l=(0,s2):=n4
  rw[n4']at w1 w2
  obtain⟨H3,A3,t1,t2⟩:=Zeu w2.at' n2 n5 (ZH YH (d.length+1))
  rw[n6]at t1 t2
  have e0:((0:Int)==0)=true:=rfl
  refine⟨H3,A3,pk',?_,(r2.trans w2).trans t2,n7⟩
  rw[NE]
  simp only[go_sem,r1,List.getElem?_cons_zero,List.getElem?_cons_succ,e0,q1,ZG,w1,ZaE,t1]
theorem ZiM (srt:Bool){o t i4 i5:Nat}(H0:Hp):∀ (r d:List (List Zj)) (x13:AV) (H:Hp) (A:List Nat) (pk:Nat),ls=d++r→SysAt H o t (UO d.length) (Jq (d.map (WO srt L p)) pk) A→pk≤262144 →
 H[i4]?=some (.cells (L.cells lx c e))→H[i5]?=some (.cells (p.cells xp))→i4∉A→i5∉A→NmAt H x13 (nms.take d.length)→(∀ a∈ZJ x13,a∉A) →
 ∃ H' A' pk' x13',Bt x (.bool srt) (.ptr i4 0) (.ptr i5 0) (.ptr o 0) (.int .i64 0) x13 (.int .i64 (d.length:Int)) H0 H=some (.tuple [.ptr o 0,x13',.bool true],H') ∧
  SysAt H' o t (UO ls.length) (Jq (ls.map (WO srt L p)) pk') A'∧pk'≤262144∧(NmAt H' x13' (nms.take ls.length)∧∀ a∈ZJ x13',a∉A'∧(a∈ZJ x13∨H.length≤a))∧Stp (ZJ x13++A) H H'∧(∀ a∈A',a∈A∨H.length≤a):=by
 have e0:((0:Int)==0)=true:=rfl
 have hn:=hx.len 32
 intro r
 induction r with
 |nil =>
  intro d x13 H A pk hd h hpk g4 g5 a4 a5 hnm hdj
  rw[List.append_nil]at hd
  subst hd
  have hlt:decide ((ls.length:Int)<(ls.length:Int))=false:=by simp
  refine⟨H,A,pk,x13,?_,h,hpk,⟨hnm,fun a ha=>⟨hdj a ha,.inl ha⟩⟩,Stp.refl _ _,fun a ha=>.inl ha⟩
  rw[NF]
  simp only[hn,go_sem,hlt,ZaB,e0]
 |cons l r ih =>
  intro d x13 H A pk hd h hpk g4 g5 a4 a5 hnm hdj
  have hlen:ls.length=d.length+(r.length+1):=by rw[hd];simp
  have hlt:decide ((d.length:Int)<(ls.length:Int))=true:=by rw[decide_eq_true_eq];omega
  have hw1:IntKind.i64.wrap ((d.length:Int)+1)=((d.length+1:Nat):Int):=by rw[Zr (by omega) (by omega)];omega
  obtain⟨H1,A1,pk1,p1,p2,p3⟩:=ZiN hl hok hs hks hx hf h8 srt (i4:=i4) (i5:=i5) hd h hpk g4 g5 x13 H0
  have htl:∀ a∈ZJ x13,a<H.length:=fun a ha=>by
   rcases hnm with ⟨e,_⟩|⟨u,v,e,hu⟩
   ·rw[e]at ha;cases ha
   ·rw[e]at ha
    rw[List.mem_singleton.1 ha];exact Zf hu
  have hnm1:NmAt H1 x13 (nms.take d.length):=hnm.frame fun a ha=>p2.stp.at' a (htl a ha) (hdj a ha)
  have hdj1:∀ a∈ZJ x13,a∉A1:=fun a ha h1=>by
   rcases p2.own a h1 with k|k
   ·exact hdj a ha k
   ·have:=htl a ha;omega
  have hnm2:=hnm1.app (ZH YH (d.length+1)) (by rw[Ue (by omega)];omega)
  obtain⟨x',H2,w1,w2,w3,w4,w5,w6,w7⟩:=hnm2
  rw[←Za2 (by omega)]at w2
  have hnc:∀ {a:Nat} {cs:List AV},H[a]?=some (.cells cs)→a∉ZJ x13:=fun {a cs} hc ha=>by
   rcases hnm with ⟨e,_⟩|⟨u,v,e,hu⟩
   ·rw[e]at ha;cases ha
   ·rw[e]at ha
    rw[List.mem_singleton.1 ha,hu]at hc
    cases hc
  have hout:∀ {a:Nat},a<H.length→a∉A→a∉A1:=fun ha hn h1=>by
   rcases p2.own _ h1 with k|k
   ·exact hn k
   ·omega
  have g4':=w3.get (p2.stp.get g4 a4) (hnc g4)
  have g5':=w3.get (p2.stp.get g5 a5) (hnc g5)
  have hsys:=p2.at'.stp w3 (fun a ha ht=>hdj1 a ht ha)
  have hA1:=p2.at'.lt
  have e2:(d++[l]).length=d.length+1:=by simp
  obtain⟨H3,A3,pk3,x3,m1,m2,m3,m4,m5,m6⟩:=ih (d++[l]) x' H2 A1 pk1 (by rw[hd];simp) hsys p3 g4' g5' (hout (Zf g4) a4) (hout (Zf g5) a5) (by rw[e2];exact w2) (fun a ha=>by
   rcases w4 a ha with k|k
   ·exact hdj1 a k
   ·intro h1;have:=hA1 a h1;omega)
  rw[e2]at m1
  have hle1:=p2.stp.len
  have hle2:=w3.len
  refine⟨H3,A3,pk3,x3,?_,m2,m3,⟨m4.1,fun a ha=>⟨(m4.2 a ha).1,?_⟩⟩,?_,fun a ha=>?_⟩
  ·rw[NF]
   simp only[hn,go_sem,hlt,e0,p1,ZaD,B2,w1,ZaC,hw1]
   exact m1
  ·rcases (m4.2 a ha).2 with k|k
   ·rcases w4 a k with k|k
    ·exact .inl k
    ·exact .inr (by omega)
   ·exact .inr (by omega)
  ·have s1:Stp (ZJ x13++A) H H1:=p2.stp.mono fun a ha=>by simp[ha]
   have s2:Stp (ZJ x13++A) H H2:=s1.trans w3 (fun _ h=>h) fun a ha=>.inl (by simp[ha])
   refine s2.trans m5 (fun _ h=>h) fun a ha=>?_
   rcases List.mem_append.1 ha with k|k
   ·rcases w4 a k with k|k
    ·exact .inl (by simp[k])
    ·exact .inr (by omega)
   ·rcases p2.own a k with k|k
    ·exact .inl (by simp[k])
    ·exact .inr k
  ·rcases m6 a ha with k|k
   ·exact p2.own a k
   ·exact .inr (by omega)
theorem Zd9 (srt:Bool){q:AV}{b:AV}(hq:q=.agg (L.cells lx c e))(hb:b=.agg (p.cells xp))(H:Hp) :
 ∃ H' o t A' pk' x',Fd [q,b,x,.bool srt] H=some (.tuple [.ptr o 0,x',.bool true],H') ∧
  SysAt H' o t (UO ls.length) (Jq (ls.map (WO srt L p)) pk') A'∧pk'≤262144∧(NmAt H' x' (nms.take ls.length)∧∀ a∈ZJ x',a∉A'∧H.length≤a)∧Stp [] H H'∧(∀ a∈A',H.length≤a):=by
 subst hq hb
 have hl1:(H++[AObj.cells (L.cells lx c e)]).length=H.length+1:=by simp
 have g1:((H++[AObj.cells (L.cells lx c e)])++[AObj.cells (p.cells xp)])[H.length]?=some (.cells (L.cells lx c e)):=by simp
 have g2:((H++[AObj.cells (L.cells lx c e)])++[AObj.cells (p.cells xp)])[H.length+1]?=some (.cells (p.cells xp)):=by
  rw[List.getElem?_append_right (by simp)];simp
 have hS0:Stp [] H ((H++[AObj.cells (L.cells lx c e)])++[AObj.cells (p.cells xp)]):=by rw[List.append_assoc];exact Stp.push _ _
 have hl2:((H++[AObj.cells (L.cells lx c e)])++[AObj.cells (p.cells xp)]).length=H.length+2:=by simp
 generalize hH2:(H++[AObj.cells (L.cells lx c e)])++[AObj.cells (p.cells xp)]=H2 at g1 g2 hS0 hl2
 obtain⟨H3,q1,q2,q3⟩:=Zpd 262144 (by omega) H2
 have hs0:(⟨(min (max 262144 0) 262144:Int).toNat,0,[],false,0⟩:Sto)=Jq [] 0:=rfl
 rw[hs0]at q2
 have hS1:Stp [] H2 H3:=by rw[q3];exact Stp.push _ _
 obtain⟨H4,A4,r1,r2,r3,r4⟩:=Zg7 q2 (ZbZ (ls:=[]) (by simp) (by simp[Y9]) (Nat.zero_le _)) rfl YH (by decide) (by decide) 262144
 have htm:(⟨YH,[],[],(max 0 262144:Int).toNat,0,false⟩:Tmp)=UO 0:=rfl
 rw[htm]at r2
 have hlen3:H3.length=H2.length+2:=by rw[q3];simp
 have hA4:∀ a∈A4,H2.length≤a:=fun a ha=>by
  rcases r4 a ha with k|k
  ·simp at k;omega
  ·omega
 have hn4:∀ {a:Nat},a<H2.length→a∉A4:=fun h k=>by have:=hA4 _ k;omega
 have hlt2:∀ a,a<H2.length→a∉[H2.length+1,H2.length]:=fun a ha k=>by simp at k;omega
 have hn3:∀ {a:Nat},a<H2.length→a∉([H2.length+1,H2.length]:List Nat):=fun h k=>hlt2 _ h k
 have g1':=r3.get (hS1.get g1 (by simp)) (by first|exact hn3 (by omega)|(simp;omega))
 have g2':=r3.get (hS1.get g2 (by simp)) (by first|exact hn3 (by omega)|(simp;omega))
 obtain⟨H5,A5,pk5,x5,m1,m2,m3,m4,m5,m6⟩:=ZiM hl hok hs hks hx hf h8 srt (o:=H3.length+1) (t:=H2.length+1) (i4:=H.length) (i5:=H.length+1) H ls [] .nils H4 A4 0 rfl r2 (Nat.zero_le _) g1' g2' (hn4 (by omega)) (hn4 (by omega)) (.inl ⟨rfl,rfl⟩) (fun a ha=>by cases ha)
 have hS2:Stp [] H H3:=hS0.trans hS1 (fun _ h=>h) fun _ h=>by cases h
 have hS3:Stp [] H H4:=hS2.trans r3 (fun _ h=>h) fun a ha=>.inr (by simp at ha;omega)
 have hS4:Stp [] H H5:=hS3.trans m5 (fun _ h=>h) fun a ha=>.inr (by
  rcases List.mem_append.1 ha with k|k
  ·cases k
  ·have:=hA4 a k;omega)
 refine⟨H5,_,_,A5,pk5,x5,?_,m2,m3,⟨m4.1,fun a ha=>⟨(m4.2 a ha).1,?_⟩⟩,hS4,fun a ha=>?_⟩
 ·rw[Zcd]
  unfold IL
  simp only[X8,go_sem,hl1,q1,show QO [.ptr (H2.length+1) 0,.str [109,101,114,103,101],.int .i64 262144] H3=some (.tuple [.ptr (H3.length+1) 0,.int .i64 0],H4) from r1,hH2,List.getElem?_cons_zero,List.getElem?_cons_succ]
  exact m1
 ·rcases (m4.2 a ha).2 with k|k
  ·cases k
  ·have:=r3.len;omega
 ·rcases m6 a ha with k|k
  ·have:=hA4 a k;omega
  ·have:=r3.len;omega
end
def Rm:List Nat→List Zm→List (List Zj)→List Rd
 |r::rs,n::ns,l::ls=>⟨r,n,ZX l,l⟩::Rm rs ns ls
 |_,_,_=>[]
theorem Zro:∀ (rs:List Nat) (ns:List Zm) (ls:List (List Zj)),rs.length=ns.length→ns.length=ls.length→(Rm rs ns ls).map Rd.r=rs∧(Rm rs ns ls).map Rd.rest=ls:=by
 intro rs
 induction rs with
 |nil =>
  intro ns ls h1 h2
  cases ns with
  |nil =>
   cases ls with
   |nil=>exact⟨rfl,rfl⟩
   |cons l ls=>cases h2
  |cons n ns=>cases h1
 |cons r rs ih =>
  intro ns ls h1 h2
  cases ns with
  |nil=>cases h1
  |cons n ns =>
   cases ls with
   |nil=>cases h2
   |cons l ls =>
    obtain⟨i1,i2⟩:=ih ns ls (by simpa using h1) (by simpa using h2)
    rw[Rm,List.map_cons,List.map_cons,i1,i2]
    exact⟨rfl,rfl⟩
theorem Zoq:∀ (rs:List Nat) (ns:List Zm) (ls:List (List Zj)),∀ x∈Rm rs ns ls,∃ (i:Nat) (r:Nat) (n:Zm) (l:List Zj),rs[i]?=some r∧ns[i]?=some n∧ls[i]?=some l∧x=⟨r,n,ZX l,l⟩:=by
 intro rs
 induction rs with
 |nil=>intro ns ls x hx;simp[Rm]at hx
 |cons r rs ih =>
  intro ns ls x hx
  cases ns with
  |nil=>simp[Rm]at hx
  |cons n ns =>
   cases ls with
   |nil=>simp[Rm]at hx
   |cons l ls =>
    rw[Rm]at hx
    rcases List.mem_cons.1 hx with e|h
    ·exact⟨0,r,n,l,rfl,rfl,rfl,e⟩
    ·obtain⟨i,r',n',l',h1,h2,h3,h4⟩:=ih ns ls x h
     exact⟨i+1,r',n',l',by simpa using h1,by simpa using h2,by simpa using h3,h4⟩
theorem Oc {x1:AV}{ns:List Zm}(hx:SS x1 ns)(hl:ns.length≤65536)(o:Nat)(H:Hp):∃ (H':Hp) (x5':AV) (rs':List Nat),WA [.ptr o 0,x1] H=some (x5',H')∧Sl 1 x5' (rs'.map fun r=>AV.ptr r 0)∧rs'.length=ns.length∧(∀ a,a<H.length→H'[a]?=H[a]?) ∧
 (∀ (i:Nat) (n:Zm),ns[i]?=some n→∃ rr,rs'[i]?=some rr∧H'[rr]?=some (.cells (Va o n 0 false false [])))∧rs'.Nodup∧(∀ rr∈rs',H.length≤rr)∧H.length≤H'.length:=by
 obtain⟨H',x5',rs',m1,m2,m3,m4,m5,m6,m7,m8,m9⟩:=Zfz hx hl o H.length H ns [] .nils [] H rfl rfl (RowN.nil _ _ _) (Nat.le_refl _)
 refine⟨H',x5',rs',?_,by simpa using m2.sl,m3,m4,m6,m7,m8,m9⟩
 rw[Oi]
 unfold Sw
 exact m1
section
variable {o t:Nat}{tm:Tmp}{s:Sto}{A:List Nat}{a q:AV}{L:Loc}{p:Spec}(hm:TmpOk tm)(hk:StoOk s)(hc:s.crashed=false)(h0:s.count=0)
 (ha:LocAV a L) (hok:LocOk L) (hsm:LocSm L) (hq:SpecAV q p) (hks:∀ k∈p.keys,KeOk k) (hkl:p.keys.length≤1048576)
 {xn:AV} {ns:List Zm} {ls:List (List Zj)} (hx:SS xn ns) (hnl:ns.length=ls.length) (hn64:ns.length≤65536)
 (hfl:∀ (i:Nat) (n:Zm) (l:List Zj),ns[i]?=some n→ls[i]?=some l→Xw l=true∧(ZX l).length≤262144∧((Y3 tm n=0∧∃ f,ZQ s.files n=some f∧f.text=ZX l)∨(Y3 tm n=5∧l=[])))
 {m:Nat} (hmt:Y0 ls≤m) (hm64:m≤65536)
include hm hk hc h0 ha hok hsm hq hks hkl hx hnl hn64 hfl hmt hm64
theorem S3 {H:Hp}(h:SysAt H o t tm s A):∃ H1 xr H2 g,WA [.ptr o 0,xn] H=some (xr,H1)∧U4 [a,q,xr] H1=some (.ptr g 0,H2) ∧
 ∃ H3 xo,GT [.ptr g 0,.int .i64 (m:Int)] H2=some (.tuple [xo,.bool true],H3)∧SS xo (G9 L p ls)∧SysAt H3 o t tm s A∧Stp A H H3:=by
 obtain⟨H1,xr,rs,r1,r2,r3,r4,r5,r6,r7,r8⟩:=Oc hx hn64 o H
 obtain⟨H2,g,lx,c,e,xp,rx',n1,n2,n3,n4,n5,n6,n7⟩:=Zes ha hsm hq hkl r2 (by omega) H1
 obtain⟨d1,d2⟩:=Zro rs ns ls r3 hnl
 have hAlt:=h.lt
 have hgH:=Zf n2
 have hrlt:∀ r∈rs,r<H1.length:=fun r hr=>by
  obtain⟨i,hi⟩:=List.getElem?_of_mem hr
  have hil:=(List.getElem?_eq_some_iff.1 hi).1
  obtain⟨rr,k1,k2⟩:=r5 i ns[i] (List.getElem?_eq_getElem (by omega))
  rw[hi]at k1
  injection k1 with k1
  subst k1
  exact Zf k2
 have hl12:=n6.len
 have hsys:SysAt H2 o t tm s A:=h.frame fun b hb=>(n6.at' b (by have:=hAlt b hb;omega) (by simp)).trans (r4 b (hAlt b hb))
 have hrd:∀ d∈Rm rs ns ls,RdAt H2 o tm s A d:=fun d hd=>by
  obtain⟨i,r,n,l,e1,e2,e3,rfl⟩:=Zoq _ _ _ d hd
  obtain⟨rr,k1,k2⟩:=r5 i n e2
  rw[e1]at k1
  injection k1 with k1
  subst k1
  obtain⟨f1,f2,f3⟩:=hfl i n l e2 e3
  refine⟨.inr (.inr ⟨[],?_,rfl⟩),fun hA=>?_,f1,f2,f3⟩
  ·exact (n6.at' r (Zf k2) (by simp)).trans k2
  ·have:=hAlt r hA
   have:=r7 r (List.mem_of_getElem? e1)
   omega
 have htot:ZY (Rm rs ns ls)≤m:=by rw[←Sp,d2];exact hmt
 have hgA:g∉A:=fun hA=>by have:=hAlt g hA;omega
 have hgr:g∉rs:=fun hr=>by have:=hrlt g hr;omega
 obtain⟨H3,xo,out,ds',m1,m2,m3,m4,m5,m6,m7⟩:=ZmN hm hk hc h0 n3 hok n4 hks n5 r6 (by omega) hgA hgr hm64 hgH (N:=H2.length) (fun r hr=>by have:=hrlt r hr;omega) (fun b hb=>by have:=hAlt b hb;omega) H2 m 0 (Rm rs ns ls) [] false .nils [] H2 (by omega) htot rfl (by simp) d1 hsys hrd n2 (RowN.nil _ _ _) (Nat.le_refl _)
 have hout:=m2.merge
 rw[d2]at hout
 subst hout
 refine⟨H1,xr,H2,g,r1,n1,H3,xo,?_,by simpa using m3.sl,m4,⟨by omega,fun i hi hn=>?_⟩⟩
 ·rw[Zep]
  unfold ZcT
  exact m1
 ·have hig:i∉g::rs++A:=fun hh=>by
   rcases List.mem_append.1 hh with hh|hh
   ·rcases List.mem_cons.1 hh with e'|hh
    ·omega
    ·have:=r7 i hh;omega
   ·exact hn hh
  exact (m6 i (by omega) hig).trans ((n6.at' i (by omega) (by simp)).trans (r4 i hi))
end
abbrev iv (n:Nat):AV:=.int .i64 (n:Int)
abbrev IS (x:AV)(l:List Nat):Prop:=Sl 1 x (l.map iv)
def ApI (H:Hp)(a:AV)(l:List Nat):Prop:=a=.nils∧l=[]∨∃ t e,a=.vs 1 (.own t e) (l.map iv)∧H[t]?=some (.tok e)
theorem ApI.is {H:Hp}{a:AV}{l:List Nat}(h:ApI H a l):IS a l:=by
 rcases h with ⟨rfl,rfl⟩|⟨t,e,rfl,_⟩
 ·exact .inl ⟨rfl,rfl⟩
 ·exact .inr ⟨_,rfl⟩
theorem IS.cell {x:AV}{l:List Nat}(h:IS x l):x.cells=[x]∧x.known=true:=by
 rcases h with ⟨rfl,_⟩|⟨t,rfl⟩ <;> exact⟨rfl,rfl⟩
theorem IS.len {x:AV}{l:List Nat}(h:IS x l)(e:Nat):Zk (.slice e) x=some (.int .i64 (l.length:Int)):=by
 rcases h with ⟨rfl,h⟩|⟨t,rfl⟩
 ·have:l=[]:=by simpa using h
  subst this
  rfl
 ·simp[Zk]
theorem ApI.app {H:Hp}{a:AV}{l:List Nat}(h:ApI H a l)(n:Nat)(hl:l.length≤1048576) :
 ∃ (a':AV) (H':Hp),Y6 1 8 a (.vs 1 .clip [iv n]) H=some (a',H')∧ApI H' a' (l++[n])∧∀ (o e:Nat) (es:List AV),H[o]?=some (AObj.row e es)→H'[o]?=some (AObj.row e es):=by
 unfold Y6
 have he:Go.Am.elems 1 (.vs 1 .clip [iv n]) H=some [iv n]:=rfl
 rw[he]
 have hfit:fits ((l.map iv).length+[iv n].length) 8=true:=by simp[fits];omega
 have hone:fits [iv n].length 8=true:=rfl
 rcases h with ⟨rfl,rfl⟩|⟨t,e,rfl,ht⟩
 ·refine⟨.vs 1 (.own H.length 1) [iv n],H++[.tok 1],?_,.inr ⟨H.length,1,rfl,by simp⟩,fun o e' es ho=>YB ho _⟩
  simp only[Yo,hone,if_true]
  rw[if_neg (by simp)]
  rfl
 ·refine⟨.vs 1 (.own t (e+1)) (l.map iv++[iv n]),H.set t (.tok (e+1)),?_,.inr ⟨t,e+1,by simp,Zv _ ht⟩,fun o e' es ho=>?_⟩
  ·simp only[Yo,hfit,and_self,if_true,ht]
   rw[if_neg (by simp)]
   rfl
  ·refine Y5 _ (fun he=>?_) ho
   subst he
   rw[ht]at ho
   cases ho
structure EI (es:List AV)(ls:List (List Nat)):Prop where
 len:es.length=ls.length
 at':∀ (i:Nat) (l:List Nat),ls[i]?=some l→∃ e,es[i]?=some e∧IS e l
theorem EI.nil:EI [] []:=⟨rfl,fun i l h=>by simp at h⟩
theorem EI.app {es:List AV}{ls:List (List Nat)}(h:EI es ls){e:AV}{l:List Nat}(he:IS e l):EI (es++[e]) (ls++[l]):=by
 refine⟨by simp[h.len],fun j m hm=>?_⟩
 by_cases hj:j<ls.length
 ·rw[List.getElem?_append_left hj]at hm
  rw[List.getElem?_append_left (by rw[h.len];exact hj)]
  exact h.at' j m hm
 ·have hlt:=(List.getElem?_eq_some_iff.1 hm).1
  have:j=ls.length:=by simp at hlt;omega
  subst this
  rw[List.getElem?_append_right (Nat.le_refl _)]at hm
  simp at hm
  subst hm
  exact⟨e,by rw[List.getElem?_append_right (by rw[h.len];exact Nat.le_refl _),h.len];simp,he⟩
theorem EI.tail {e:AV}{es:List AV}{l:List Nat}{ls:List (List Nat)}(h:EI (e::es) (l::ls)):IS e l∧EI es ls:=by
 obtain⟨e',h1,h2⟩:=h.at' 0 l rfl
 obtain rfl:e=e':=Option.some.inj h1
 exact⟨h2,by have:=h.len;simpa using this,fun i m hm=>by
  obtain⟨e',q1,q2⟩:=h.at' (i+1) m (by simpa using hm)
  exact⟨e',by simpa using q1,q2⟩⟩
theorem EI.cons {e:AV}{es:List AV}{l:List Nat}{ls:List (List Nat)}(h:IS e l)(k:EI es ls):EI (e::es) (l::ls) :=
 ⟨by simp[k.len],fun i m hm=>by
  cases i with
  |zero=>simp at hm;subst hm;exact⟨e,rfl,h⟩
  |succ i=>simpa using k.at' i m (by simpa using hm)⟩
theorem Zlo (H:Hp)(n f:Nat):∀ l:List Nat,(l.map iv).mapM (Z9 H n (f+1))=some (l.map iv):=by
 intro l
 induction l with
 |nil=>rfl
 |cons a l ih=>rw[List.map_cons,List.mapM_cons,ih];rfl
theorem IS.close {x:AV}{l:List Nat}(h:IS x l)(H:Hp)(n f:Nat):∃ x',Z9 H n (f+2) x=some x'∧IS x' l:=by
 rcases h with ⟨rfl,h⟩|⟨t,rfl⟩
 ·exact⟨.nils,rfl,.inl ⟨rfl,h⟩⟩
 ·exact⟨_,by rw[Es,Zlo],.inr ⟨_,rfl⟩⟩
theorem EI.close {es:List AV}{ls:List (List Nat)}(h:EI es ls)(H:Hp)(n f:Nat):∃ es',es.mapM (Z9 H n (f+2))=some es'∧EI es' ls:=by
 induction es generalizing ls with
 |nil =>
  have:ls=[]:=List.length_eq_zero_iff.1 (by rw[←h.len];rfl)
  subst this
  exact⟨[],rfl,EI.nil⟩
 |cons e es ih =>
  cases ls with
  |nil=>have:=h.len;simp at this
  |cons l ls =>
   obtain⟨h1,h2⟩:=h.tail
   obtain⟨e',q1,q2⟩:=IS.close h1 H n f
   obtain⟨es',q3,q4⟩:=ih h2
   exact⟨e'::es',by rw[List.mapM_cons,q1];simp[q3],EI.cons q2 q4⟩
def IV (x:AV)(ls:List (List Nat)):Prop:=x=.nils∧ls=[]∨∃ t es,x=.vs 1 t es∧EI es ls
theorem IV.len {x:AV}{ls:List (List Nat)}(h:IV x ls)(e:Nat):Zk (.slice e) x=some (.int .i64 (ls.length:Int)):=by
 rcases h with ⟨rfl,rfl⟩|⟨t,es,rfl,he⟩
 ·rfl
 ·show some (AV.int .i64 (es.length:Int))=_;rw[he.len]
theorem IV.get {x:AV}{ls:List (List Nat)}(h:IV x ls){i:Nat}{l:List Nat}(hi:ls[i]?=some l):∃ a,Zn 1 x (.int .i64 (i:Int))=some (.vp [a])∧IS a l:=by
 rcases h with ⟨rfl,rfl⟩|⟨t,es,rfl,he⟩
 ·simp at hi
 ·obtain⟨a,h1,h2⟩:=he.at' i l hi
  refine⟨a,?_,h2⟩
  unfold Zn
  dsimp only
  rw[if_pos ⟨rfl,by omega⟩,Int.toNat_natCast,h1]
  dsimp only
  rw[h2.cell.1]
theorem IS.idx {x:AV}{l:List Nat}(h:IS x l){i n:Nat}(hi:l[i]?=some n):Zn 1 x (.int .i64 (i:Int))=some (.vp [iv n]):=Sl.idx h (c:=iv n) (by simp[hi])
def RowI (H:Hp)(x:AV)(A:List (List Nat))(k:List Nat):Prop:=∃ o e es a,x=.ws false 1 o e (A.length+1)∧H[o]?=some (.row e (es++[a]))∧EI es A∧ApI H a k
def RowA (H:Hp)(x:AV)(ls:List (List Nat)):Prop:=x=.nils∧ls=[]∨∃ o e es,x=.ws false 1 o e ls.length∧H[o]?=some (.row e es)∧EI es ls
theorem RowI.all {H:Hp}{x:AV}{A:List (List Nat)}{k:List Nat}(h:RowI H x A k):RowA H x (A++[k]):=by
 obtain⟨o,e,es,a,rfl,h2,h3,h4⟩:=h
 exact .inr ⟨o,e,es++[a],by simp,h2,h3.app h4.is⟩
theorem RowA.close {H:Hp}{x:AV}{ls:List (List Nat)}(h:RowA H x ls):∃ x',Z9 H 0 6 x=some x'∧IV x' ls:=by
 rcases h with ⟨rfl,rfl⟩|⟨o,e,es,rfl,ho,he⟩
 ·exact⟨.nils,rfl,.inl ⟨rfl,rfl⟩⟩
 ·obtain⟨es',q1,q2⟩:=he.close H 0 3
  have hel:Go.Am.elems 1 (.ws false 1 o e ls.length) H=some es:=by
   unfold Go.Am.elems
   dsimp only
   rw[if_pos ⟨rfl,.inr rfl⟩,ho]
   dsimp only
   rw[if_pos ⟨rfl,by rw[he.len];omega⟩,←he.len,Zgr]
  exact⟨.vs 1 .no es',by rw[Zir,if_neg (Nat.not_lt_zero _),hel];dsimp only;rw[q1],.inr ⟨_,es',rfl,q2⟩⟩
theorem RowA.app {H:Hp}{x:AV}{ls:List (List Nat)}(h:RowA H x ls){a:AV}{k:List Nat}(ha:ApI H a k)(hl:ls.length≤1048576) :
 ∃ x' H',Pe false 1 24 x (.vs 1 .clip [a]) H=some (x',H')∧RowI H' x' ls k:=by
 unfold Pe
 have he:Go.Am.elems 1 (.vs 1 .clip [a]) H=some [a]:=rfl
 rw[he]
 dsimp only
 have hf1:fits 1 24=true:=rfl
 have hfit:fits (ls.length+1) 24=true:=by simp[fits];omega
 rcases h with ⟨rfl,rfl⟩|⟨o,e,es,rfl,ho,hes⟩
 ·refine⟨.ws false 1 H.length 0 1,H++[.row 0 [a]],?_,H.length,0,[],a,rfl,by simp,EI.nil,?_⟩
  ·unfold Tb
   simp only[List.length_singleton,hf1,if_true,List.map_cons,List.map_nil,List.flatten_cons,List.flatten_nil,ha.is.cell.1,List.append_nil]
   rw[if_neg (by simp)]
  ·exact ha.imp id fun⟨t,e,a1,a2⟩=>⟨t,e,a1,YB a2 _⟩
 ·refine⟨.ws false 1 o (e+1) (ls.length+1),H.set o (.row (e+1) (es++[a])),?_,o,e+1,es,a,rfl,Zv _ ho,hes,?_⟩
  ·unfold Tb
   simp only[List.length_singleton,hfit,and_self,if_true,ho,hes.len,Nat.mul_one,List.map_cons,List.map_nil,List.flatten_cons,List.flatten_nil,ha.is.cell.1,List.append_nil]
   rw[if_neg (by simp)]
  ·refine ha.imp id fun⟨t,e',a1,a2⟩=>⟨t,e',a1,Y5 _ (fun he=>?_) a2⟩
   subst he
   rw[ho]at a2
   cases a2
theorem Zrj (n:Nat):(ZF 1 [(0,iv n)] [AV.int .i64 0]).map (AV.vs 1 .clip)=some (.vs 1 .clip [iv n]):=rfl
theorem Zs2 {i w:Nat}(hw:0<w):Z5 .rem (iv i) (iv w)=some (iv (i % w)):=by
 unfold Z5 Xs
 simp only[if_true,Xt]
 rw[if_neg (by omega)]
 congr 2
section
variable {w:Nat}(hw:0<w)(hw2:w≤32)
include hw hw2
theorem ZkD (i:Nat):KX w i≤i:=by
 by_cases h0:i=0
 ·rw[h0,ZeM hw];exact Nat.le_refl _
 ·have h:=Nat.pos_of_ne_zero h0
  by_cases hc:KX w i=0
  ·omega
  ·have h1:=ZkC (w:=w) (i:=i) (q:=KX w i-1) hw (by omega)
   have:KX w i-1≤(KX w i-1)*w:=Nat.le_mul_of_pos_right _ hw
   omega
theorem ZlO {n:Nat}(hn:n≤5000)(H0:Hp):∀ (k i:Nat) (x5:AV) (H:Hp),n-i=k→i≤n→(i % w=0∧RowA H x5 (V9 w i)∨∃ A g,V9 w i=A++[g]∧RowI H x5 A g) →
 ∃ y H',Gz (iv w) x5 (iv n) (iv i) H0 H=some (y,H')∧RowA H' y (V9 w n):=by
 intro k
 induction k with
 |zero =>
  intro i x5 H hk hi hr
  have:i=n:=by omega
  subst this
  have hlt:decide ((i:Int)<(i:Int))=false:=by simp
  rw[PE]
  simp only[go_sem,hlt,OY]
  refine⟨_,_,rfl,?_⟩
  rcases hr with ⟨_,hr⟩|⟨A,g,hp,hr⟩
  ·exact hr
  ·rw[hp];exact hr.all
 |succ k ih =>
  intro i x5 H hk hi hr
  have hlt:decide ((i:Int)<(n:Int))=true:=by rw[decide_eq_true_eq];omega
  have hw1:IntKind.i64.wrap ((i:Int)+1)=((i+1:Nat):Int):=by rw[Zr (by omega) (by omega)];omega
  -- the last group grows
  have grow:∀ (A:List (List Nat)) (g:List Nat) (x:AV) (H:Hp),RowI H x A g→A.length≤5000→g.length≤5000→V9 w (i+1)=A++[g++[i]] →
   ∃ y H',Gy (iv w) x (iv i) (iv n) (iv i) H0 H=some (y,H')∧RowA H' y (V9 w n):=by
   intro A g x H hR hA hg hp
   obtain⟨o,e,es,a,rfl,k2,k3,k4⟩:=hR
   have hal:Zk (.slice 22) (.ws false 1 o e (A.length+1))=some (.int .i64 ((A.length+1:Nat):Int)):=rfl
   have hwm:IntKind.i64.wrap (((A.length+1:Nat):Int)-1)=(A.length:Int):=by rw[Zr (by omega) (by omega)];omega
   have hix:Zn 1 (.ws false 1 o e (A.length+1)) (.int .i64 (A.length:Int))=some (.wp o e (A.length*1)):=ZoU (by omega)
   have hld:Z4 false 1 (.wp o e (A.length*1)) H=some a:=Zqx k2 (by rw[←k3.len,List.getElem?_append_right (Nat.le_refl _)];simp)
   obtain⟨a',H1,p1,p2,p3⟩:=k4.app i (by omega)
   have k2':=p3 o e _ k2
   have hsto:=ZoT (a:=a') k2' p2.is.cell (i:=A.length) (by simp[k3.len])
   have hset:(es++[a]).set A.length a'=es++[a']:=by rw[←k3.len];simp
   rw[hset]at hsto
   have hap:ApI (H1.set o (.row e (es++[a']))) a' (g++[i]):=by
    refine p2.imp id fun⟨t,e',q1,q2⟩=>⟨t,e',q1,Y5 _ (fun he=>?_) q2⟩
    subst he
    rw[k2']at q2
    cases q2
   obtain⟨y,H',m1,m2⟩:=ih (i+1) (.ws false 1 o e (A.length+1)) (H1.set o (.row e (es++[a']))) (by omega) (by omega) (.inr ⟨A,g++[i],hp,o,e,es,a',rfl,Zv _ k2',k3,hap⟩)
   refine⟨y,H',?_,m2⟩
   rw[Za1]
   simp only[hal,go_sem,hwm,hix,hld,Zrj,p1,hsto,Za0,hw1]
   exact m1
  rw[PE]
  simp only[go_sem,hlt,OZ,Zs2 hw]
  by_cases h0:i % w=0
  ·have hb:(((i % w:Nat):Int)==0)=true:=by rw[h0];rfl
   have hra:RowA H x5 (V9 w i):=by
    rcases hr with ⟨_,hr⟩|⟨A,g,hp,hr⟩
    ·exact hr
    ·rw[hp];exact hr.all
   have hcl:=ZkD hw hw2 i
   have hpl:(V9 w i).length≤5000:=by rw[Zfu];omega
   obtain⟨x',H1,q1,q2⟩:=hra.app (a:=.nils) (k:=[]) (.inl ⟨rfl,rfl⟩) (by omega)
   have hone:(ZF 1 [(0,AV.nils)] [AV.nils]).map (AV.vs 1 .clip)=some (.vs 1 .clip [.nils]):=rfl
   obtain⟨y,H',m1,m2⟩:=grow (V9 w i) [] x' H1 q2 hpl (by simp) (Zok hw h0)
   refine⟨y,H',?_,m2⟩
   simp only[hb,go_sem,hone,q1]
   exact m1
  ·have hb:(((i % w:Nat):Int)==0)=false:=by simp;omega
   obtain⟨A,g,hp,hp2,hg⟩:=Zol hw h0
   have hpl:(V9 w i).length≤i:=by rw[Zfu];exact ZkD hw hw2 i
   rcases hr with ⟨h1,_⟩|⟨A',g',hp',hr⟩
   ·exact absurd h1 h0
   ·rw[hp]at hp'
    have hlast:=List.append_inj' hp' rfl
    obtain⟨rfl,hg'⟩:=hlast
    injection hg' with hg' _
    subst hg'
    rw[hp,List.length_append]at hpl
    obtain⟨y,H',m1,m2⟩:=grow A g x5 H hr (by omega) (by omega) hp2
    refine⟨y,H',?_,m2⟩
    simp only[hb,go_sem]
    exact m1
end
def Su (ways:Int):Nat:=(min (max ways 2) 32).toNat
theorem ZoS (ways:Int):0<Su ways∧Su ways≤32∧((Su ways:Nat):Int)=min (max ways 2) 32:=by unfold Su;omega
theorem ZlN (n ways:Int)(hn:n≤5000)(H:Hp):∃ y,Ze TN [.int .i64 n,.int .i64 ways] H=some (y,H)∧IV y (V9 (Su ways) n.toNat):=by
 obtain⟨w1,w2,w3⟩:=ZoS ways
 have hp0:V9 (Su ways) 0=[]:=by unfold V9;rw[ZeM w1];rfl
 obtain⟨y,H',m1,m2⟩:=ZlO w1 w2 (n:=n.toNat) (by omega) [] n.toNat 0 .nils [] (by omega) (by omega) (.inl ⟨by simp,.inl ⟨rfl,hp0⟩⟩)
 obtain⟨y',c1,c2⟩:=m2.close
 refine⟨y',?_,c2⟩
 refine DW (args':=[.int .i64 n,.int .i64 ways]) (H1:=H') (v:=y) rfl ?_ c1
 rw[Zal]
 unfold Hf
 have hn0:max n 0=((n.toNat:Nat):Int):=by omega
 simp only[go_sem,←w3,hn0]
 exact m1
section
variable {w:Nat}(hw:0<w)(hw2:w≤32)
include hw hw2
end
section
variable {x y:AV}{ls:List (List Nat)}(hx:IV x ls)(hy:IV y ls)(hl:ls.length≤1048576)(hin:∀ k∈ls,k.length≤1048576)
include hx hy hl hin
end
section
variable {w n:Nat}(hw:0<w)(hw2:w≤32)(hn:n≤5000){x:AV}(hx:IV x (V9 w n)){a0:AV}
include hw hw2 hn hx
end
end Go.Am
