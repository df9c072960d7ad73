/-
  THE ABSTRACT MACHINE, part K: tokens; append and make, whole.
-/
import Derived.Test.YtpahcdhligjdiaaKmMapx
import Derived.Lib.Bytealg
namespace Go.Am
open RowKit

section
variable {P:Program} {S:Snap} {W0:World} {H:Hp}

def Snap.tokn (S:Snap) (n:Nat) (o:Obj) (e hw sz:Nat):Snap :=
 {w:=S.w.alloc o,phi:=S.phi,pub:=fun b i=>S.pub b i ∨ (b=S.w.heap.size∧i < hw),tk:=fun t=>if t=n then some (e,S.w.heap.size,hw,sz) else S.tk t,lim:=S.lim }

structure TokSet (H H':Hp) (n e:Nat):Prop where
 here:H'[n]?=some (.tok e)
 there:∀ x,x ≠ n→H'[x]?=H[x]?
 len:H.length≤H'.length
 nd:H[n]? ≠ some .dead

theorem TokSet.new (H:Hp) (e:Nat):TokSet H (H++[.tok e]) H.length e:=by
 refine ⟨by simp,fun x hx=>?_,by simp,by simp⟩
 rcases Nat.lt_or_ge x H.length with h | h
 ·exact List.getElem?_append_left h
 ·rw [List.getElem?_eq_none (by simp;omega),List.getElem?_eq_none h]
theorem TokSet.set {n e0 e:Nat} (h:H[n]?=some (.tok e0)):TokSet H (H.set n (.tok e)) n e:=by
 refine ⟨by simp [lt_of_get h],fun x hx=>List.getElem?_set_ne (Ne.symm hx),by simp,by rw [h];simp⟩

theorem Ext.tokn (hI:Inv W0 S H) {n e hw sz:Nat} {o:Obj} (he:∀ e0 b0 hw0 sz0,S.tk n=some (e0,b0,hw0,sz0)→e0 < e):Ext S (S.tokn n o e hw sz):=by
 refine ⟨⟨fun _ _ h=>h,fun b i h=>⟨.inl h,World.cell?_alloc_lt _ _ _ (hI.puball b i h)⟩,fun t e1 b hw1 sz1 h=>?_⟩,rfl,fun b i hp hl=>hp.elim id fun e=>by have:=hI.lim;have:=hI.below.size;have:=e.1;omega⟩
 by_cases ht:t=n
 ·subst ht
  have:=he _ _ _ _ h
  exact ⟨e,S.w.heap.size,hw,sz,by simp [Snap.tokn],by omega,fun h=>by omega⟩
 ·exact ⟨e1,b,hw1,sz1,by simp [Snap.tokn,ht,h],Nat.le_refl _,fun _=>⟨rfl,rfl,rfl⟩⟩

theorem Inv.tokn (hI : Inv W0 S H) {H' : Hp} {n e hw sz : Nat} {c : Array Value} {el : TypeId} (hH : TokSet H H' n e) (he : ∀ e0 b0 hw0 sz0, S.tk n = some (e0, b0, hw0, sz0) → e0 < e) (hsz : c.size = sz) (hle : hw ≤ sz) :
    Inv W0 (S.tokn n (.cells c el) e hw sz) H':=by
 have hext:=Ext.tokn hI (o:=.cells c el) (hw:=hw) (sz:=sz) he
 have hnew:∀ i,hw≤i→¬ (S.tokn n (.cells c el) e hw sz).pub S.w.heap.size i:=by
  rintro i hi (h | ⟨_,h⟩)
  ·exact Nat.lt_irrefl _ (hI.puball _ i h)
  ·omega
 have hdead:∀ x,H'[x]? ≠ some AObj.dead→H[x]? ≠ some AObj.dead:=fun x h=>by
  by_cases hx:x=n
  ·subst hx;exact hH.nd
  ·rwa [hH.there x hx] at h
 refine ⟨hI.below.alloc hI.size _,fun x y h=>?_,fun x hx=>?_,fun o1 o2 b h1 h2 hd1 hd2=>hI.inj o1 o2 b h1 h2 (hdead _ hd1) (hdead _ hd2),fun t t' e1 b hw1 sz1 e2 hw2 sz2 h1 h2=>?_,fun t e1 b hw1 sz1 o h=>?_,fun b i h=>?_,fun o b h=>?_,fun t e1 b hw1 sz1 h=>?_,hI.lim⟩
 ·by_cases hxn:x=n
  ·subst hxn
   rw [hH.here] at h
   injection h with h
   subst h
   exact ⟨S.w.heap.size,hw,sz,c,el,(0,0),by simp [Snap.tokn],hI.size,heap_alloc_new S.w _,hsz,hle,hnew,fun i _ h=>by omega⟩
  ·rw [hH.there x hxn] at h
   refine (hI.objs x y h).frame hext (fun b _ hlt=>⟨Below.heap_alloc S.w _ b hlt,fun i hp=>?_⟩) (by simp [Snap.tokn,hxn]) rfl
   rcases hp with hp | ⟨rfl,_⟩
   ·exact hp
   ·exact absurd hlt (Nat.lt_irrefl _)
 ·have hnx:x ≠ n:=fun hxn=>by subst hxn;have:=lt_of_get hH.here;omega
  obtain ⟨p,q⟩:=hI.past x (Nat.le_trans hH.len hx)
  exact ⟨p,by simp [Snap.tokn,hnx,q]⟩
 ·by_cases ht:t=n
  ·by_cases ht':t'=n
   ·rw [ht,ht']
   ·simp [Snap.tokn,ht] at h1
    simp [Snap.tokn,ht'] at h2
    have:=hI.tdom _ _ _ _ _ h2
    omega
  ·by_cases ht':t'=n
   ·simp [Snap.tokn,ht] at h1
    simp [Snap.tokn,ht'] at h2
    have:=hI.tdom _ _ _ _ _ h1
    omega
   ·simp [Snap.tokn,ht] at h1
    simp [Snap.tokn,ht'] at h2
    exact hI.tinj _ _ _ _ _ _ _ _ _ h1 h2
 ·by_cases ht:t=n
  ·simp [Snap.tokn,ht] at h
   intro hp
   have hp':S.phi o=some b:=hp
   have:=hI.dom o b hp'
   omega
  ·simp [Snap.tokn,ht] at h
   exact hI.apart _ _ _ _ _ o h
 ·show b < (S.w.alloc _).heap.size
  rw [World.size_alloc]
  rcases h with h | ⟨rfl,_⟩
  ·exact Nat.lt_succ_of_lt (hI.puball b i h)
  ·exact Nat.lt_succ_self _
 ·show b < (S.w.alloc _).heap.size
  rw [World.size_alloc];exact Nat.lt_succ_of_lt (hI.dom o b h)
 ·show b < (S.w.alloc _).heap.size
  rw [World.size_alloc]
  by_cases ht:t=n
  ·simp [Snap.tokn,ht] at h
   omega
  ·simp [Snap.tokn,ht] at h
   exact Nat.lt_succ_of_lt (hI.tdom _ _ _ _ _ h)

theorem tokn_vs {n e k len cap : Nat} {l : List AV} {c : Array Value} {el : TypeId} (hlen : len = l.length) (hk : ∀ e ∈ l, e.cells.length = k) (hcell : (flat l).all AV.isCell = true)
    (hcap:l.length≤cap) (hsz:c.size=cap * k) (hr:∀ (i:Nat) (x:AV) (v:Value),(flat l)[i]?=some x→c[i]?=some v→VRel (S.tokn n (.cells c el) e (l.length * k) c.size) x v) :
    VRel (S.tokn n (.cells c el) e (l.length * k) c.size) (.vs k (.own n e) l) (.slice (some ⟨S.w.heap.size,0,none⟩) len cap):=by
 subst hlen
 refine vs_of_block (S:=S.tokn n (.cells c el) e (l.length * k) c.size) (c:=c) (el:=el) (fz:=(0,0)) (heap_alloc_new S.w _) hcap hk hcell (fun i hi=>.inr ⟨rfl,by omega⟩) ?_ (fun i x v hi hv=>?_) ?_
 ·rw [Nat.zero_add,hsz];exact Nat.mul_le_mul_right k hcap
 ·rw [Nat.zero_add] at hv;exact hr i x v hi hv
 ·exact ⟨e,S.w.heap.size,l.length * k,c.size,by simp [Snap.tokn],Nat.le_refl _,fun _ _=>⟨rfl,by omega,by omega⟩⟩

theorem grown_cells {l xs:List AV} {old news rest:Array Value} (ho:CellsRel S (flat l) old) (hn:CellsRel S (flat xs) news) (i:Nat) (x:AV) (v:Value) (hx:(flat (l++xs))[i]?=some x) (hv:(old++news++rest)[i]?=some v):VRel S x v:=by
 rw [flat_append] at hx
 have h1:=ho.size
 have h2:=hn.size
 by_cases hi:i < (flat l).length
 ·rw [List.getElem?_append_left hi] at hx
  rw [Array.getElem?_append_left (by simp;omega),Array.getElem?_append_left (by omega)] at hv
  exact ho.rel i x v hx hv
 ·rw [List.getElem?_append_right (by omega)] at hx
  have hlt:=lt_of_get hx
  rw [Array.getElem?_append_left (by simp;omega),Array.getElem?_append_right (by omega)] at hv
  refine hn.rel _ x v hx ?_
  rw [← hv,h1]

theorem append_more_sound {st xt ty e : TypeId} {xd : TypeDesc} {k n0 bytes tk : Nat} {u : Value} {base : Option Addr} {cap : Nat} {l xs : List AV} {H' : Hp} {old : Array Value} (hI : Inv W0 S H)
    (ht:P.underlying st=some (.slice e)) (hxd:P.underlying xt=some xd) (hxi:appendable xd=true) (hs:szT P e=some k) (hb:bytesT P e=some bytes) (hz:∃ z,∀ w:World,(zeroValue e).run P w=.ok z w∧z.cells.size=k)
    (hl:∀ e ∈ l,e.cells.length=k) (hold:CellsRel S (flat l) old) (hold':(Builtin.firstCells k l.length (.slice base l.length cap)).run P S.w.drew=.ok old S.w.drew)
    (hx:∀ e ∈ xs,e.cells.length=k) (hlen:∀ w:World,(Builtin.lenOf u).run P w=.ok xs.length w) {news:Array Value} (hnews:CellsRel S (flat xs) news) (hnews':∀ w:World,w.heap=S.w.heap→(Builtin.firstCells k xs.length u).run P w=.ok news w)
    (hmore:cap < l.length+xs.length) (hsmall:fits (l.length+xs.length) bytes=true) (hH:TokSet H H' tk n0) (he:∀ e0 b0 hw0 sz0,S.tk tk=some (e0,b0,hw0,sz0)→e0 < n0) :
    ∃ v' S',(Builtin.append_ #[st,xt] ty #[.slice base l.length cap,u]).run P S.w=.ok v' S'.w∧Ext S S'∧Inv W0 S' H'∧VRel S' (.vs k (.own tk n0) (l++xs)) v':=by
 obtain ⟨z,hz⟩:=hz
 have hrun:=run_append_more (P:=P) (ty:=ty) ht hxd hxi hs hb (fun w=>(hz w).1) (hlen S.w) hmore (of_decide_eq_true hsmall) hold' (hnews' S.w.drew rfl)
 have hge:=grownCap_ge S.w (l.length+xs.length) cap e
 generalize grownCap S.w (l.length+xs.length) cap e=C at hrun hge
 have hsz:(old++news++Builtin.zeroCells z.cells (C - (l.length+xs.length))).size=C * k:=by
  rw [Array.size_append,Array.size_append,size_zeroCells,hold.size,hnews.size,flat_length hl,flat_length hx,(hz S.w).2,← Nat.add_mul,← Nat.add_mul]
  congr 1;omega
 generalize hc:old++news++Builtin.zeroCells z.cells (C - (l.length+xs.length))=c at hrun hsz
 have hI1:=hI.drew
 have he1:∀ e0 b0 hw0 sz0,S.drew.tk tk=some (e0,b0,hw0,sz0)→e0 < n0:=he
 have hxl:∀ e ∈ l++xs,e.cells.length=k:=fun e h=>(List.mem_append.1 h).elim (hl e) (hx e)
 have hle:(l++xs).length * k≤c.size:=by rw [hsz];exact Nat.mul_le_mul_right k (by simpa using hge)
 have hext:=Ext.tokn hI1 (o:=.cells c e) (hw:=(l++xs).length * k) (sz:=c.size) he1
 refine ⟨_,S.drew.tokn tk (.cells c e) n0 ((l++xs).length * k) c.size,hrun,(Ext.drew S).trans hext,hI1.tokn hH he1 rfl hle,?_⟩
 refine tokn_vs (S:=S.drew) (by simp) hxl ?_ (by simpa using hge) hsz (fun i x v hi hv=>?_)
 ·rw [flat_append,List.all_append,hold.cell,hnews.cell];rfl
 ·rw [← hc] at hv
  exact (grown_cells (S:=S) hold hnews i x v hi hv).mono ((Ext.drew S).trans hext)

def Snap.toki (S:Snap) (n b:Nat) (c:Array Value) (e hw sz:Nat):Snap :=
 {w:=S.w.setRow b c,phi:=S.phi,pub:=fun b' i=>S.pub b' i ∨ (b'=b∧i < hw),tk:=fun t=>if t=n then some (e,b,hw,sz) else S.tk t,lim:=S.lim }

theorem Ext.toki {n b e0 e hw0 hw sz : Nat} {c c' : Array Value} {el : TypeId} {fz : Nat × Nat} (ht : S.tk n = some (e0, b, hw0, sz)) (he : e0 < e) (hb : S.w.heap[b]? = some (.cells c el fz)) (hp : ∀ i, hw0 ≤ i → ¬ S.pub b i)
    (hc:∀ i,i < hw0→c'[i]?=c[i]?) (hlim:S.lim≤b):Ext S (S.toki n b c' e hw sz):=by
 refine ⟨⟨fun _ _ h=>h,fun b' i h=>⟨.inl h,?_⟩,fun t e1 b1 hw1 sz1 h=>?_⟩,rfl,fun b' i hp hl=>hp.elim id fun e=>by have:=e.1;omega⟩
 ·by_cases hbb:b'=b
  ·subst hbb
   have hi:i < hw0:=by
    rcases Nat.lt_or_ge i hw0 with h' | h'
    ·exact h'
    ·exact absurd h (hp i h')
   show (S.w.setRow b' c').cell? _=_
   rw [cell_setRow_same S.w b' i c c' el fz hb,cell_of_row S.w b' i c el fz hb]
   exact hc i hi
  ·exact cell_setRow_other _ _ _ _ hbb
 ·by_cases htn:t=n
  ·subst htn
   rw [ht] at h
   simp only [Option.some.injEq,Prod.mk.injEq] at h
   obtain ⟨rfl,rfl,rfl,rfl⟩:=h
   exact ⟨e,b,hw,sz,by simp [Snap.toki],by omega,fun h=>by omega⟩
  ·exact ⟨e1,b1,hw1,sz1,by simp [Snap.toki,htn,h],Nat.le_refl _,fun _=>⟨rfl,rfl,rfl⟩⟩

theorem Inv.toki (hI : Inv W0 S H) {H' : Hp} {n b e0 e hw0 hw sz : Nat} {c c' : Array Value} {el : TypeId} {fz : Nat × Nat} (hH : TokSet H H' n e) (ht : S.tk n = some (e0, b, hw0, sz)) (he : e0 < e) (hB : W0.heap.size ≤ b) (hb : S.w.heap[b]? = some (.cells c el fz))
    (hp:∀ i,hw0≤i→¬ S.pub b i) (hc:∀ i,i < hw0→c'[i]?=c[i]?) (hle:hw0≤hw) (hsz:c'.size=sz) (hws:hw≤sz) (hfz:FzOk c'.size fz):Inv W0 (S.toki n b c' e hw sz) H':=by
 have hext:=Ext.toki (hw:=hw) ht he hb hp hc (Nat.le_trans hI.lim hB)
 have hdead:∀ x,H'[x]? ≠ some AObj.dead→H[x]? ≠ some AObj.dead:=fun x h=>by
  by_cases hx:x=n
  ·subst hx;exact hH.nd
  ·rwa [hH.there x hx] at h
 refine ⟨Below.setRow hI.below hB c',fun x y h=>?_,fun x hx=>?_,fun o1 o2 b h1 h2 hd1 hd2=>hI.inj o1 o2 b h1 h2 (hdead _ hd1) (hdead _ hd2),fun t t' e1 b1 hw1 sz1 e2 hw2 sz2 h1 h2=>?_,fun t e1 b1 hw1 sz1 o h=>?_,fun b1 i h=>?_,fun o b1 h=>?_,fun t e1 b1 hw1 sz1 h=>?_,hI.lim⟩
 ·by_cases hxn:x=n
  ·subst hxn
   rw [hH.here] at h
   injection h with h
   subst h
   refine ⟨b,hw,sz,c',el,fz,by simp [Snap.toki],hB,setRow_heap S.w b c c' el fz hb,hsz,hws,fun i hi hpi=>?_,hfz⟩
   rcases hpi with hpi | ⟨_,hpi⟩
   ·exact hp i (by omega) hpi
   ·omega
  ·rw [hH.there x hxn] at h
   cases y with
   | dead=>trivial
   | _ =>
    refine (hI.objs x _ h).frame hext (fun b' hb' hlt=>?_) (by simp [Snap.toki,hxn]) rfl
    have hne:b' ≠ b:=by
     rintro rfl
     rcases hb' with hb' | ⟨e',hw',sz',ht'⟩
     ·exact hI.apart _ _ _ _ _ x ht hb'
     ·exact hxn (hI.tinj _ _ _ _ _ _ _ _ _ ht' ht)
    refine ⟨setRow_other _ _ _ _ hne,fun i hpi=>?_⟩
    rcases hpi with hpi | ⟨h1,_⟩
    ·exact hpi
    ·exact absurd h1 hne
 ·have hnx:x ≠ n:=fun hxn=>by subst hxn;have:=lt_of_get hH.here;omega
  obtain ⟨p,q⟩:=hI.past x (Nat.le_trans hH.len hx)
  exact ⟨p,by simp [Snap.toki,hnx,q]⟩
 ·by_cases h3:t=n
  ·by_cases h4:t'=n
   ·rw [h3,h4]
   ·simp [Snap.toki,h3] at h1
    simp [Snap.toki,h4] at h2
    obtain ⟨_,rfl,_,_⟩:=h1
    exact absurd (hI.tinj _ _ _ _ _ _ _ _ _ h2 ht) h4
  ·by_cases h4:t'=n
   ·simp [Snap.toki,h3] at h1
    simp [Snap.toki,h4] at h2
    obtain ⟨_,rfl,_,_⟩:=h2
    exact absurd (hI.tinj _ _ _ _ _ _ _ _ _ h1 ht) h3
   ·simp [Snap.toki,h3] at h1
    simp [Snap.toki,h4] at h2
    exact hI.tinj _ _ _ _ _ _ _ _ _ h1 h2
 ·by_cases h3:t=n
  ·simp [Snap.toki,h3] at h
   obtain ⟨_,rfl,_,_⟩:=h
   exact hI.apart _ _ _ _ _ o ht
  ·simp [Snap.toki,h3] at h
   exact hI.apart _ _ _ _ _ o h
 ·show b1 < (S.w.setRow b c').heap.size
  rw [size_setRow]
  rcases h with h | ⟨rfl,_⟩
  ·exact hI.puball b1 i h
  ·exact hI.tdom _ _ _ _ _ ht
 ·show b1 < (S.w.setRow b c').heap.size
  rw [size_setRow];exact hI.dom o b1 h
 ·show b1 < (S.w.setRow b c').heap.size
  rw [size_setRow]
  by_cases h3:t=n
  ·simp [Snap.toki,h3] at h
   obtain ⟨_,rfl,_,_⟩:=h
   exact hI.tdom _ _ _ _ _ ht
  ·simp [Snap.toki,h3] at h
   exact hI.tdom _ _ _ _ _ h

theorem append_fit_sound {st xt ty e : TypeId} {xd : TypeDesc} {k n e0 b off cap : Nat} {u : Value} {l xs : List AV} {f : Nat → Nat → Value} (hI : Inv W0 S H)
    (ht:P.underlying st=some (.slice e)) (hxd:P.underlying xt=some xd) (hxi:appendable xd=true) (hs:szT P e=some k)
    (hl:∀ e,e ∈ l→e.cells.length=k∧e.cells.all AV.isCell=true) (hcap:l.length≤cap)
    (h1:∀ j i,j < l.length→i < k→S.w.cell? ⟨b,off+j * k+i,none⟩=some (f j i)∧S.pub b (off+j * k+i))
    (h2:∀ (j:Nat) (e:AV) (i:Nat) (c:AV),l[j]?=some e→e.cells[i]?=some c→VRel S c (f j i))
    (htok:TokOk S k (.own n e0) l.length b off cap) (hn:H[n]?=some (.tok e0))
    (hx:∀ e ∈ xs,e.cells.length=k) (hlen:∀ w:World,(Builtin.lenOf u).run P w=.ok xs.length w) {news:Array Value} (hnews:CellsRel S (flat xs) news) (hnews':∀ w:World,w.heap=S.w.heap→(Builtin.firstCells k xs.length u).run P w=.ok news w)
    (hfit:l.length+xs.length≤cap) (h0:0 < xs.length) :
    ∃ v' S',(Builtin.append_ #[st,xt] ty #[.slice (some ⟨b,off,none⟩) l.length cap,u]).run P S.w=.ok v' S'.w∧Ext S S'∧Inv W0 S' (H.set n (.tok (e0+xs.length)))∧VRel S' (.vs k (.own n (e0+xs.length)) (l++xs)) v':=by
 obtain ⟨e1,b1,hw,sz,ht1,hle1,htk⟩:=htok
 obtain ⟨b2,hw2,sz2,c,el,fz,g1,g2,g3,g4,g5,g6,g7⟩:=hI.objs n _ hn
 rw [ht1] at g1
 simp only [Option.some.injEq,Prod.mk.injEq] at g1
 obtain ⟨q1,q2,q3,q4⟩:=g1
 obtain rfl:e0=e1:=q1.symm
 obtain rfl:b1=b2:=q2
 obtain rfl:hw=hw2:=q3
 obtain rfl:sz=sz2:=q4
 obtain ⟨qb,hoff,hsz⟩:=htk rfl (by omega)
 obtain rfl:b=b1:=qb
 have hnl:news.toList.length=xs.length * k:=by rw [Array.length_toList,hnews.size,flat_length hx]
 have hfk:l.length * k+xs.length * k≤cap * k:=by rw [← Nat.add_mul];exact Nat.mul_le_mul_right k hfit
 have hst:=run_storeCells_z P b (off+l.length * k) el fz news.toList 0 c S.w g3 g7 (by rw [hnl,Nat.add_zero];omega) hnews.oneCells
 rw [Nat.add_zero,hnl,hoff] at hst
 generalize hc':(c.toList.take hw++news.toList++c.toList.drop (hw+xs.length * k)).toArray=c' at hst
 have hrun:=run_append_fit (P:=P) (ty:=ty) (a:=⟨b,off,none⟩) (w':=S.w.setRow b c') ht hxd hxi hs (hlen S.w) (hnews' S.w rfl) hfit (by rw [add_spot,hoff];exact hst)
 have hbelow:∀ i,i < hw→c'[i]?=c[i]?:=fun i hi=>by
  rw [← hc',List.getElem?_toArray,List.getElem?_append_left (by simp;omega),List.getElem?_append_left (by simp;omega),List.getElem?_take_of_lt hi,Array.getElem?_toList]
 have hinew:∀ i,i < xs.length * k→c'[hw+i]?=news[i]?:=fun i hi=>by
  rw [← hc',List.getElem?_toArray,List.getElem?_append_left (by simp at hnl ⊢;omega),List.getElem?_append_right (by simp;omega)]
  simp only [List.length_take,Array.length_toList,Array.getElem?_toList]
  congr 1;omega
 have hcs:c'.size=sz:=by
  rw [← hc']
  simp at hnl ⊢
  omega
 have hext:=Ext.toki (S:=S) (n:=n) (e:=e0+xs.length) (hw:=hw+xs.length * k) ht1 (by omega) g3 g6 hbelow (Nat.le_trans hI.lim g2)
 have hI':=hI.toki (e:=e0+xs.length) (TokSet.set hn) (hw:=hw+xs.length * k) ht1 (by omega) g2 g3 g6 hbelow (by omega) hcs (by omega) (by rw [hcs,← g4];exact g7)
 refine ⟨_,S.toki n b c' (e0+xs.length) (hw+xs.length * k) sz,hrun,hext,hI',?_⟩
 have hln:(l++xs).length=l.length+xs.length:=by simp
 rw [← hln]
 have hxc:∀ e ∈ xs,e.cells.all AV.isCell=true:=fun e he=>flat_cell hnews.cell he
 refine .vs k _ (l++xs) b off cap (fun j i=>if j < l.length then f j i else news.getD ((j - l.length) * k+i) undef) (by rw [hln];exact hfit) (fun e he=>?_) (fun j i hj hi=>?_) (fun j e i x he hxi=>?_) ?_ none (.inl rfl)
 ·rcases List.mem_append.1 he with he | he
  ·exact hl e he
  ·exact ⟨hx e he,hxc e he⟩
 ·by_cases hjl:j < l.length
  ·rw [if_pos hjl]
   obtain ⟨p,q⟩:=h1 j i hjl hi
   obtain ⟨q',p'⟩:=hext.pub _ _ q
   exact ⟨p'.trans p,q'⟩
  ·rw [if_neg hjl]
   have hjx:j - l.length < xs.length:=by rw [hln] at hj;omega
   have hin:(j - l.length) * k+i < xs.length * k:=by
    have:=Nat.mul_le_mul_right k (Nat.succ_le_of_lt hjx);rw [Nat.succ_mul] at this;omega
   have hj2:off+j * k+i=hw+((j - l.length) * k+i):=by
    have:j * k=l.length * k+(j - l.length) * k:=by rw [← Nat.add_mul];congr 1;omega
    omega
   refine ⟨?_,.inr ⟨rfl,by omega⟩⟩
   show (S.w.setRow b c').cell? _=_
   rw [cell_setRow_same S.w b _ c c' el fz g3,hj2,hinew _ hin]
   have:(j - l.length) * k+i < news.size:=by simp at hnl;omega
   simp [this]
 ·by_cases hjl:j < l.length
  ·rw [if_pos hjl]
   rw [List.getElem?_append_left hjl] at he
   exact (h2 j e i x he hxi).mono hext
  ·rw [if_neg hjl]
   rw [List.getElem?_append_right (by omega)] at he
   have hik:i < k:=by rw [← hx e (List.mem_of_getElem? he)];exact lt_of_get hxi
   have hjx:=lt_of_get he
   have hin:(j - l.length) * k+i < xs.length * k:=by
    have:=Nat.mul_le_mul_right k (Nat.succ_le_of_lt hjx);rw [Nat.succ_mul] at this;omega
   have hns:(j - l.length) * k+i < news.size:=by simp at hnl;omega
   refine (hnews.rel ((j - l.length) * k+i) x _ ?_ ?_).mono hext
   ·rw [flat_get hx _ _ e he hik];exact hxi
   ·simp [hns]
 ·refine ⟨e0+xs.length,b,hw+xs.length * k,sz,by simp [Snap.toki],Nat.le_refl _,fun _ _=>⟨rfl,?_,hsz⟩⟩
  rw [hln,Nat.add_mul];omega

theorem aappend_sound {st xt ty e : TypeId} {xd : TypeDesc} {k bytes : Nat} {s x r : AV} {us u : Value} {xs : List AV} {H' : Hp} (hI : Inv W0 S H) (hk0 : 0 < k)
    (ht:P.underlying st=some (.slice e)) (hxd:P.underlying xt=some xd) (hxi:appendable xd=true) (hs:szT P e=some k) (hb:bytesT P e=some bytes) (hz:∃ z,∀ w:World,(zeroValue e).run P w=.ok z w∧z.cells.size=k)
    (hsr:VRel S s us) (hxr:VRel S x u) (hel:elems k x H=some xs) (h:aappend k bytes s xs H=some (r,H')) :
    ∃ v' S',(Builtin.append_ #[st,xt] ty #[us,u]).run P S.w=.ok v' S'.w∧Ext S S'∧Inv W0 S' H'∧VRel S' r v':=by
 obtain ⟨hx,hlen,news,hnews,hnews'⟩:=elems_sound (P:=P) hI hk0 hxr hel
 unfold aappend at h
 split at h
 ·cases hsr with | nils =>
  split at h
  ·rename_i hxs
   subst hxs
   simp only [Option.some.injEq,Prod.mk.injEq] at h
   obtain ⟨rfl,rfl⟩:=h
   exact ⟨_,S,run_append_nilfit (P:=P) (ty:=ty) ht hxd hxi hs (hlen S.w) (hnews' S.w rfl),Ext.refl S,hI,.nils⟩
  ·rename_i hxs
   split at h
   ·rename_i hf
    simp only [Option.some.injEq,Prod.mk.injEq] at h
    obtain ⟨rfl,rfl⟩:=h
    have hpos:0 < xs.length:=List.length_pos_iff.2 hxs
    have:=append_more_sound (P:=P) (ty:=ty) (S:=S) (base:=none) (cap:=0) (l:=[]) (old:=#[]) (n0:=xs.length) (tk:=H.length) (H':=H++[.tok xs.length]) hI ht hxd hxi hs hb hz (by simp) ⟨rfl,by simp [flat],rfl⟩ rfl hx hlen hnews hnews'
     (by simpa using hpos) (by simpa using hf) (TokSet.new H _) (fun e0 b0 hw0 sz0 h=>by rw [(hI.past _ (Nat.le_refl _)).2] at h;cases h)
    simpa using this
   ·cases h
 ·rename_i k' tok l
  split at h
  ·rename_i hc
   obtain ⟨hkk,hf⟩:=hc
   obtain rfl:k=k':=hkk.symm
   cases hsr with | vs _ _ _ b off cap f hcap hl h1 h2 htok sp hsp =>
   have hlk:∀ e ∈ l,e.cells.length=k:=fun e he=>(hl e he).1
   have hself:elems k (.vs k tok l) H=some l:=by simp [elems]
   obtain ⟨_,_,old,hold,hold'⟩:=elems_sound (P:=P) hI hk0 (.vs k tok l b off cap f hcap hl h1 h2 htok sp hsp) hself
   split at h
   ·rename_i hxs
    subst hxs
    simp only [Option.some.injEq,Prod.mk.injEq] at h
    obtain ⟨rfl,rfl⟩:=h
    refine ⟨_,S,run_append_fit (P:=P) (ty:=ty) (news:=news) (m:=0) (w':=S.w) ht hxd hxi hs (hlen S.w) (hnews' S.w rfl) (by omega) ?_,Ext.refl S,hI,?_⟩
    ·have : news = #[] := by
        have:=hnews.size
        simp [flat] at this
        exact this
     subst this
     rfl
    ·exact .vs k tok l b off cap f hcap hl h1 h2 htok sp hsp
   ·rename_i hxs
    have hpos:0 < xs.length:=List.length_pos_iff.2 hxs
    split at h
    ·simp only [Option.some.injEq,Prod.mk.injEq] at h
     obtain ⟨rfl,rfl⟩:=h
     have hcl:cap=l.length:=htok
     exact append_more_sound (P:=P) (ty:=ty) (S:=S) (base:=some ⟨b,off,sp⟩) (cap:=cap) hI ht hxd hxi hs hb hz hlk hold (hold' S.w.drew rfl) hx hlen hnews hnews'
      (by omega) hf (TokSet.new H _) (fun e0 b0 hw0 sz0 h=>by rw [(hI.past _ (Nat.le_refl _)).2] at h;cases h)
    ·rename_i t e0
     split at h
     ·rename_i e1 hte
      split at h
      ·rename_i hee
       subst hee
       simp only [Option.some.injEq,Prod.mk.injEq] at h
       obtain ⟨rfl,rfl⟩:=h
       by_cases hfit:l.length+xs.length≤cap
       ·obtain rfl:sp=none:=hsp.resolve_right (by omega)
        exact append_fit_sound (P:=P) (ty:=ty) hI ht hxd hxi hs hl hcap h1 h2 htok hte hx hlen hnews hnews' hfit hpos
       ·refine append_more_sound (P := P) (ty := ty) (S := S) (base := some ⟨b, off, sp⟩) (cap := cap) hI ht hxd hxi hs hb hz hlk hold (hold' S.w.drew rfl) hx hlen hnews hnews'
           (by omega) hf (TokSet.set hte) (fun e0 b0 hw0 sz0 h=>?_)
        obtain ⟨b2,hw2,sz2,c,el,fz,g1,_⟩:=hI.objs t _ hte
        rw [g1] at h
        simp only [Option.some.injEq,Prod.mk.injEq] at h
        omega
      ·cases h
     ·cases h
    ·cases h
  ·cases h
 ·cases h

structure RowSet (H H':Hp) (n:Nat) (x:AObj):Prop where
 here:H'[n]?=some x
 there:∀ y,y ≠ n→H'[y]?=H[y]?
 len:H.length≤H'.length
 nd:H[n]? ≠ some .dead
 xd:x ≠ .dead
theorem RowSet.new (H:Hp) (e:Nat) (l:List AV):RowSet H (H++[.row e l]) H.length (.row e l):=by
 refine ⟨by simp,fun x hx=>?_,by simp,by simp,by simp⟩
 rcases Nat.lt_or_ge x H.length with h | h
 ·exact List.getElem?_append_left h
 ·rw [List.getElem?_eq_none (by simp;omega),List.getElem?_eq_none h]
theorem RowSet.set {n e0 e:Nat} {l0 l:List AV} (h:H[n]?=some (.row e0 l0)):RowSet H (H.set n (.row e l)) n (.row e l):=by
 refine ⟨by simp [lt_of_get h],fun x hx=>List.getElem?_set_ne (Ne.symm hx),by simp,by rw [h];simp,by simp⟩

def Snap.rown (S:Snap) (n:Nat) (o:Obj) (e hw sz:Nat):Snap :=
 {w:=S.w.alloc o,phi:=S.phi,pub:=S.pub,tk:=fun t=>if t=n then some (e,S.w.heap.size,hw,sz) else S.tk t,lim:=S.lim }
theorem Ext.rown (hI:Inv W0 S H) {n e hw sz:Nat} {o:Obj} (he:∀ e0 b0 hw0 sz0,S.tk n=some (e0,b0,hw0,sz0)→e0 < e):Ext S (S.rown n o e hw sz):=by
 refine ⟨⟨fun _ _ h=>h,fun b i h=>⟨h,World.cell?_alloc_lt _ _ _ (hI.puball b i h)⟩,fun t e1 b hw1 sz1 h=>?_⟩,rfl,fun b i hp _=>hp⟩
 by_cases ht:t=n
 ·subst ht
  have:=he _ _ _ _ h
  exact ⟨e,S.w.heap.size,hw,sz,by simp [Snap.rown],by omega,fun h=>by omega⟩
 ·exact ⟨e1,b,hw1,sz1,by simp [Snap.rown,ht,h],Nat.le_refl _,fun _=>⟨rfl,rfl,rfl⟩⟩
theorem Inv.rown (hI : Inv W0 S H) {H' : Hp} {n e hw sz : Nat} {o : Obj} {x : AObj} (hH : RowSet H H' n x) (he : ∀ e0 b0 hw0 sz0, S.tk n = some (e0, b0, hw0, sz0) → e0 < e) (hx : ORel (S.rown n o e hw sz) W0.heap.size n x) :
    Inv W0 (S.rown n o e hw sz) H':=by
 have hext:=Ext.rown hI (o:=o) (hw:=hw) (sz:=sz) he
 have hdead:∀ x,H'[x]? ≠ some AObj.dead→H[x]? ≠ some AObj.dead:=fun x h=>by
  by_cases hx:x=n
  ·subst hx;exact hH.nd
  ·rwa [hH.there x hx] at h
 refine ⟨hI.below.alloc hI.size _,fun y z h=>?_,fun x hx=>?_,fun o1 o2 b h1 h2 hd1 hd2=>hI.inj o1 o2 b h1 h2 (hdead _ hd1) (hdead _ hd2),fun t t' e1 b hw1 sz1 e2 hw2 sz2 h1 h2=>?_,fun t e1 b hw1 sz1 o h=>?_,fun b i h=>?_,fun o b h=>?_,fun t e1 b hw1 sz1 h=>?_,hI.lim⟩
 ·by_cases hxn:y=n
  ·subst hxn
   rw [hH.here] at h
   injection h with h
   subst h
   exact hx
  ·rw [hH.there y hxn] at h
   exact (hI.objs y z h).frame hext (fun b _ hlt=>⟨Below.heap_alloc S.w _ b hlt,fun i hp=>hp⟩) (by simp [Snap.rown,hxn]) rfl
 ·have hnx:x ≠ n:=fun hxn=>by subst hxn;have:=lt_of_get hH.here;omega
  obtain ⟨p,q⟩:=hI.past x (Nat.le_trans hH.len hx)
  exact ⟨p,by simp [Snap.rown,hnx,q]⟩
 ·by_cases ht:t=n
  ·by_cases ht':t'=n
   ·rw [ht,ht']
   ·simp [Snap.rown,ht] at h1
    simp [Snap.rown,ht'] at h2
    have:=hI.tdom _ _ _ _ _ h2
    omega
  ·by_cases ht':t'=n
   ·simp [Snap.rown,ht] at h1
    simp [Snap.rown,ht'] at h2
    have:=hI.tdom _ _ _ _ _ h1
    omega
   ·simp [Snap.rown,ht] at h1
    simp [Snap.rown,ht'] at h2
    exact hI.tinj _ _ _ _ _ _ _ _ _ h1 h2
 ·by_cases ht:t=n
  ·simp [Snap.rown,ht] at h
   intro hp
   have hp':S.phi o=some b:=hp
   have:=hI.dom o b hp'
   omega
  ·simp [Snap.rown,ht] at h
   exact hI.apart _ _ _ _ _ o h
 ·show b < (S.w.alloc _).heap.size
  rw [World.size_alloc]
  exact Nat.lt_succ_of_lt (hI.puball b i h)
 ·show b < (S.w.alloc _).heap.size
  rw [World.size_alloc];exact Nat.lt_succ_of_lt (hI.dom o b h)
 ·show b < (S.w.alloc _).heap.size
  rw [World.size_alloc]
  by_cases ht:t=n
  ·simp [Snap.rown,ht] at h
   omega
  ·simp [Snap.rown,ht] at h
   exact Nat.lt_succ_of_lt (hI.tdom _ _ _ _ _ h)

def Snap.rowi (S:Snap) (n b:Nat) (c:Array Value) (e hw sz:Nat):Snap :=
 {w:=S.w.setRow b c,phi:=S.phi,pub:=S.pub,tk:=fun t=>if t=n then some (e,b,hw,sz) else S.tk t,lim:=S.lim }
theorem Ext.rowi {n b e0 e hw0 hw sz:Nat} {c':Array Value} (ht:S.tk n=some (e0,b,hw0,sz)) (he:e0 < e) (hp:∀ i,¬ S.pub b i):Ext S (S.rowi n b c' e hw sz):=by
 refine ⟨⟨fun _ _ h=>h,fun b' i h=>⟨h,?_⟩,fun t e1 b1 hw1 sz1 h=>?_⟩,rfl,fun b' i hp _=>hp⟩
 ·by_cases hbb:b'=b
  ·subst hbb
   exact absurd h (hp i)
  ·exact cell_setRow_other _ _ _ _ hbb
 ·by_cases htn:t=n
  ·subst htn
   rw [ht] at h
   simp only [Option.some.injEq,Prod.mk.injEq] at h
   obtain ⟨rfl,rfl,rfl,rfl⟩:=h
   exact ⟨e,b,hw,sz,by simp [Snap.rowi],by omega,fun h=>by omega⟩
  ·exact ⟨e1,b1,hw1,sz1,by simp [Snap.rowi,htn,h],Nat.le_refl _,fun _=>⟨rfl,rfl,rfl⟩⟩
theorem Inv.rowi (hI : Inv W0 S H) {H' : Hp} {n b e0 e hw0 hw sz : Nat} {c' : Array Value} {x : AObj} (hH : RowSet H H' n x) (ht : S.tk n = some (e0, b, hw0, sz)) (he : e0 < e) (hB : W0.heap.size ≤ b)
    (hp:∀ i,¬ S.pub b i) (hx:ORel (S.rowi n b c' e hw sz) W0.heap.size n x):Inv W0 (S.rowi n b c' e hw sz) H':=by
 have hext:=Ext.rowi (c':=c') (hw:=hw) ht he hp
 have hdead:∀ x,H'[x]? ≠ some AObj.dead→H[x]? ≠ some AObj.dead:=fun x h=>by
  by_cases hx:x=n
  ·subst hx;exact hH.nd
  ·rwa [hH.there x hx] at h
 refine ⟨Below.setRow hI.below hB c',fun x y h=>?_,fun x hx=>?_,fun o1 o2 b h1 h2 hd1 hd2=>hI.inj o1 o2 b h1 h2 (hdead _ hd1) (hdead _ hd2),fun t t' e1 b1 hw1 sz1 e2 hw2 sz2 h1 h2=>?_,fun t e1 b1 hw1 sz1 o h=>?_,fun b1 i h=>?_,fun o b1 h=>?_,fun t e1 b1 hw1 sz1 h=>?_,hI.lim⟩
 ·by_cases hxn:x=n
  ·subst hxn
   rw [hH.here] at h
   injection h with h
   subst h
   exact hx
  ·rw [hH.there x hxn] at h
   cases y with
   | dead=>trivial
   | _ =>
    refine (hI.objs x _ h).frame hext (fun b' hb' hlt=>?_) (by simp [Snap.rowi,hxn]) rfl
    have hne:b' ≠ b:=by
     rintro rfl
     rcases hb' with hb' | ⟨e',hw',sz',ht'⟩
     ·exact hI.apart _ _ _ _ _ x ht hb'
     ·exact hxn (hI.tinj _ _ _ _ _ _ _ _ _ ht' ht)
    exact ⟨setRow_other _ _ _ _ hne,fun i hpi=>hpi⟩
 ·have hnx:x ≠ n:=fun hxn=>by subst hxn;have:=lt_of_get hH.here;omega
  obtain ⟨p,q⟩:=hI.past x (Nat.le_trans hH.len hx)
  exact ⟨p,by simp [Snap.rowi,hnx,q]⟩
 ·by_cases h3:t=n
  ·by_cases h4:t'=n
   ·rw [h3,h4]
   ·simp [Snap.rowi,h3] at h1
    simp [Snap.rowi,h4] at h2
    obtain ⟨_,rfl,_,_⟩:=h1
    exact absurd (hI.tinj _ _ _ _ _ _ _ _ _ h2 ht) h4
  ·by_cases h4:t'=n
   ·simp [Snap.rowi,h3] at h1
    simp [Snap.rowi,h4] at h2
    obtain ⟨_,rfl,_,_⟩:=h2
    exact absurd (hI.tinj _ _ _ _ _ _ _ _ _ h1 ht) h3
   ·simp [Snap.rowi,h3] at h1
    simp [Snap.rowi,h4] at h2
    exact hI.tinj _ _ _ _ _ _ _ _ _ h1 h2
 ·by_cases h3:t=n
  ·simp [Snap.rowi,h3] at h
   obtain ⟨_,rfl,_,_⟩:=h
   exact hI.apart _ _ _ _ _ o ht
  ·simp [Snap.rowi,h3] at h
   exact hI.apart _ _ _ _ _ o h
 ·show b1 < (S.w.setRow b c').heap.size
  rw [size_setRow]
  exact hI.puball b1 i h
 ·show b1 < (S.w.setRow b c').heap.size
  rw [size_setRow];exact hI.dom o b1 h
 ·show b1 < (S.w.setRow b c').heap.size
  rw [size_setRow]
  by_cases h3:t=n
  ·simp [Snap.rowi,h3] at h
   obtain ⟨_,rfl,_,_⟩:=h
   exact hI.tdom _ _ _ _ _ ht
  ·simp [Snap.rowi,h3] at h
   exact hI.tdom _ _ _ _ _ h

theorem append_row_more {st xt ty e : TypeId} {xd : TypeDesc} {k n0 bytes tk : Nat} {u : Value} {base : Option Addr} {len cap : Nat} {lc : List AV} {xs : List AV} {ag : Bool} {H' : Hp} {old : Array Value} (hI : Inv W0 S H)
    (ht:P.underlying st=some (.slice e)) (hxd:P.underlying xt=some xd) (hxi:appendable xd=true) (hs:szT P e=some k) (hb:bytesT P e=some bytes) (hz:∃ z,∀ w:World,(zeroValue e).run P w=.ok z w∧z.cells.size=k)
    (hl:lc.length=len * k) (hold:CellsRel S lc old) (hold':(Builtin.firstCells k len (.slice base len cap)).run P S.w.drew=.ok old S.w.drew)
    (hx:∀ e ∈ xs,e.cells.length=k) (hlen:∀ w:World,(Builtin.lenOf u).run P w=.ok xs.length w) {news:Array Value} (hnews:CellsRel S (flat xs) news) (hnews':∀ w:World,w.heap=S.w.heap→(Builtin.firstCells k xs.length u).run P w=.ok news w)
    (hmore:cap < len+xs.length) (hsmall:fits (len+xs.length) bytes=true) (hH:RowSet H H' tk (.row n0 (lc++flat xs))) (he:∀ e0 b0 hw0 sz0,S.tk tk=some (e0,b0,hw0,sz0)→e0 < n0) :
    ∃ v' S',(Builtin.append_ #[st,xt] ty #[.slice base len cap,u]).run P S.w=.ok v' S'.w∧Ext S S'∧Inv W0 S' H'∧VRel S' (.ws ag k tk n0 (len+xs.length)) v':=by
 obtain ⟨z,hz⟩:=hz
 have hrun:=run_append_more (P:=P) (ty:=ty) ht hxd hxi hs hb (fun w=>(hz w).1) (hlen S.w) hmore (of_decide_eq_true hsmall) hold' (hnews' S.w.drew rfl)
 have hge:=grownCap_ge S.w (len+xs.length) cap e
 generalize grownCap S.w (len+xs.length) cap e=C at hrun hge
 have hsz:(old++news++Builtin.zeroCells z.cells (C - (len+xs.length))).size=C * k:=by
  rw [Array.size_append,Array.size_append,size_zeroCells,hold.size,hnews.size,hl,flat_length hx,(hz S.w).2,← Nat.add_mul,← Nat.add_mul]
  congr 1;omega
 generalize hc:old++news++Builtin.zeroCells z.cells (C - (len+xs.length))=c at hrun hsz
 have hI1:=hI.drew
 have he1:∀ e0 b0 hw0 sz0,S.drew.tk tk=some (e0,b0,hw0,sz0)→e0 < n0:=he
 have hll:(lc++flat xs).length=(len+xs.length) * k:=by rw [List.length_append,hl,flat_length hx,Nat.add_mul]
 have hle:(lc++flat xs).length≤c.size:=by rw [hsz,hll];exact Nat.mul_le_mul_right k hge
 have hext:=Ext.rown hI1 (o:=.cells c e) (hw:=(lc++flat xs).length) (sz:=c.size) he1
 refine ⟨_,S.drew.rown tk (.cells c e) n0 (lc++flat xs).length c.size,hrun,(Ext.drew S).trans hext,hI1.rown hH he1 ?_,?_⟩
 ·refine ⟨S.drew.w.heap.size,c.size,c,e,(0,0),by simp [Snap.rown],hI1.size,heap_alloc_new S.drew.w _,rfl,hle,fun i x v hi hv=>?_,fun i hp=>absurd (hI1.puball _ i hp) (Nat.lt_irrefl _),by rw [List.all_append,hold.cell,hnews.cell];rfl,fun i _ h=>Nat.not_lt_zero _ h.2⟩
  refine VRel.mono ((Ext.drew S).trans hext) ?_
  rw [← hc] at hv
  by_cases hil:i < lc.length
  ·rw [List.getElem?_append_left hil] at hi
   rw [Array.getElem?_append_left (by simp [hold.size];omega),Array.getElem?_append_left (by rw [hold.size];exact hil)] at hv
   exact hold.rel i x v hi hv
  ·rw [List.getElem?_append_right (by omega)] at hi
   have hlt:=lt_of_get hi
   rw [Array.getElem?_append_left (by simp [hold.size,hnews.size];omega),Array.getElem?_append_right (by rw [hold.size];omega)] at hv
   exact hnews.rel _ x v hi (by rw [← hv,hold.size])
 ·refine .ws ag k tk n0 _ C S.drew.w.heap.size ⟨n0,S.drew.w.heap.size,(lc++flat xs).length,c.size,by simp [Snap.rown],Nat.le_refl _,fun _=>⟨rfl,Nat.le_of_eq hll.symm,by rw [hsz];exact Nat.le_refl _⟩⟩ hge

theorem append_row_fit {st xt ty e : TypeId} {xd : TypeDesc} {k n e0 b len cap : Nat} {u : Value} {lc xs : List AV} {ag : Bool} (hI : Inv W0 S H)
    (ht:P.underlying st=some (.slice e)) (hxd:P.underlying xt=some xd) (hxi:appendable xd=true) (hs:szT P e=some k)
    (hr:RowOk S n e0 b (len * k) (cap * k)) {l0:List AV} (hn:H[n]?=some (.row e0 l0)) (hl0:lc=l0.take (len * k)) (hl:lc.length=len * k)
    (hx:∀ e ∈ xs,e.cells.length=k) (hlen:∀ w:World,(Builtin.lenOf u).run P w=.ok xs.length w) {news:Array Value} (hnews:CellsRel S (flat xs) news) (hnews':∀ w:World,w.heap=S.w.heap→(Builtin.firstCells k xs.length u).run P w=.ok news w)
    (hfit:len+xs.length≤cap) :
    ∃ v' S',(Builtin.append_ #[st,xt] ty #[.slice (some ⟨b,0,none⟩) len cap,u]).run P S.w=.ok v' S'.w∧Ext S S'∧Inv W0 S' (H.set n (.row (e0+1) (lc++flat xs)))∧VRel S' (.ws ag k n (e0+1) (len+xs.length)) v':=by
 obtain ⟨e1,b1,hw,sz,ht1,hle1,htk⟩:=hr
 obtain ⟨b2,sz2,c,el,fz,g1,g2,g3,g4,g5,g6,g7,g8,g9⟩:=hI.objs n _ hn
 have g1':=g1
 rw [ht1] at g1'
 simp only [Option.some.injEq,Prod.mk.injEq] at g1'
 obtain ⟨q1,q2,q3,q4⟩:=g1'
 obtain ⟨r1,r2,r3⟩:=htk q1.symm
 obtain rfl:b=b2:=r1.trans q2
 have g6:∀ i x v,lc[i]?=some x→c[i]?=some v→VRel S x v:=fun i x v hi hv=>by
  rw [hl0] at hi
  have hlt:=lt_of_get hi
  rw [List.length_take] at hlt
  rw [List.getElem?_take_of_lt (by omega)] at hi
  exact g6 i x v hi hv
 have g8:lc.all AV.isCell=true:=by rw [hl0];exact List.all_eq_true.2 fun x hx=>List.all_eq_true.1 g8 x (List.mem_of_mem_take hx)
 have hl1:lc.length≤l0.length:=by rw [hl0,List.length_take];omega
 have hnl:news.toList.length=xs.length * k:=by rw [Array.length_toList,hnews.size,flat_length hx]
 have hfk:len * k+xs.length * k≤cap * k:=by rw [← Nat.add_mul];exact Nat.mul_le_mul_right k hfit
 have hst:=run_storeCells_z P b (len * k) el fz news.toList 0 c S.w g3 g9 (by rw [hnl,Nat.add_zero];omega) hnews.oneCells
 rw [Nat.add_zero,hnl] at hst
 generalize hc':(c.toList.take (len * k)++news.toList++c.toList.drop (len * k+xs.length * k)).toArray=c' at hst
 have hrun:=run_append_fit (P:=P) (ty:=ty) (a:=⟨b,0,none⟩) (w':=S.w.setRow b c') ht hxd hxi hs (hlen S.w) (hnews' S.w rfl) hfit (by rw [add_spot,Nat.zero_add];exact hst)
 have hcs:c'.size=sz2:=by
  rw [← hc']
  simp at hnl ⊢
  omega
 have hll:(lc++flat xs).length=(len+xs.length) * k:=by rw [List.length_append,hl,flat_length hx,Nat.add_mul]
 have hext:=Ext.rowi (S:=S) (n:=n) (e:=e0+1) (c':=c') (hw:=(lc++flat xs).length) g1 (by omega) g7
 refine ⟨_,S.rowi n b c' (e0+1) (lc++flat xs).length sz2,hrun,hext,hI.rowi (RowSet.set hn) g1 (by omega) g2 g7 ?_,?_⟩
 ·refine ⟨b,sz2,c',el,fz,by simp [Snap.rowi],g2,setRow_heap S.w b c c' el fz g3,hcs,by rw [hll,Nat.add_mul];omega,fun i x v hi hv=>?_,g7,by rw [List.all_append,g8,hnews.cell];rfl,by rw [hcs,← g4];exact g9⟩
  refine VRel.mono hext ?_
  rw [← hc',List.getElem?_toArray] at hv
  by_cases hil:i < lc.length
  ·rw [List.getElem?_append_left hil] at hi
   rw [List.getElem?_append_left (by simp;omega),List.getElem?_append_left (by simp;omega),List.getElem?_take_of_lt (by omega),Array.getElem?_toList] at hv
   exact g6 i x v hi hv
  ·rw [List.getElem?_append_right (by omega)] at hi
   have hlt:=lt_of_get hi
   rw [flat_length hx] at hlt
   rw [List.getElem?_append_left (by simp at hnl ⊢;omega),List.getElem?_append_right (by simp;omega)] at hv
   refine hnews.rel _ x v hi ?_
   rw [← hv,Array.getElem?_toList]
   congr 1
   simp
   omega
 ·exact .ws ag k n (e0+1) _ cap b ⟨e0+1,b,(lc++flat xs).length,sz2,by simp [Snap.rowi],Nat.le_refl _,fun _=>⟨rfl,Nat.le_of_eq hll.symm,by omega⟩⟩ hfit

theorem aappL_sound {st xt ty e : TypeId} {xd : TypeDesc} {ag : Bool} {k bytes : Nat} {s x r : AV} {us u : Value} {xs : List AV} {H' : Hp} (hI : Inv W0 S H) (hk0 : 0 < k)
    (ht:P.underlying st=some (.slice e)) (hxd:P.underlying xt=some xd) (hxi:appendable xd=true) (hs:szT P e=some k) (hb:bytesT P e=some bytes) (hz:∃ z,∀ w:World,(zeroValue e).run P w=.ok z w∧z.cells.size=k)
    (hsr:VRel S s us) (hxr:VRel S x u) (hel:elems k x H=some xs) (h:aappL ag k bytes s xs H=some (r,H')) :
    ∃ v' S',(Builtin.append_ #[st,xt] ty #[us,u]).run P S.w=.ok v' S'.w∧Ext S S'∧Inv W0 S' H'∧VRel S' r v':=by
 obtain ⟨hx,hlen,news,hnews,hnews'⟩:=elems_sound (P:=P) hI hk0 hxr hel
 have hfl:∀ l:List AV,(l.map AV.cells).flatten=flat l:=fun l=>rfl
 unfold aappL at h
 split at h
 ·cases hsr with | nils =>
  split at h
  ·rename_i hxs
   subst hxs
   simp only [Option.some.injEq,Prod.mk.injEq] at h
   obtain ⟨rfl,rfl⟩:=h
   exact ⟨_,S,run_append_nilfit (P:=P) (ty:=ty) ht hxd hxi hs (hlen S.w) (hnews' S.w rfl),Ext.refl S,hI,.nils⟩
  ·rename_i hxs
   split at h
   ·rename_i hf
    simp only [Option.some.injEq,Prod.mk.injEq] at h
    obtain ⟨rfl,rfl⟩:=h
    have hpos:0 < xs.length:=List.length_pos_iff.2 hxs
    have:=append_row_more (P:=P) (ty:=ty) (S:=S) (base:=none) (len:=0) (cap:=0) (lc:=[]) (old:=#[]) (n0:=0) (tk:=H.length) (ag:=ag) (H':=H++[.row 0 (flat xs)]) hI ht hxd hxi hs hb hz (by simp) ⟨rfl,by simp,rfl⟩ rfl hx hlen hnews hnews'
     (by simpa using hpos) (by simpa using hf) (by simpa using RowSet.new H 0 (flat xs)) (fun e0 b0 hw0 sz0 h=>by rw [(hI.past _ (Nat.le_refl _)).2] at h;cases h)
    simpa [hfl] using this
   ·cases h
 ·rename_i k' l
  split at h
  ·rename_i hc
   obtain ⟨hkk,hf⟩:=hc
   obtain rfl:k=k':=hkk.symm
   have hself:elems k (.vs k .clip l) H=some l:=by simp [elems]
   obtain ⟨hlk,_,old,hold,hold'⟩:=elems_sound (P:=P) hI hk0 hsr hself
   cases hsr with | vs _ _ _ b off cap f hcap hl h1 h2 htok sp hsp =>
   split at h
   ·rename_i hxs
    subst hxs
    simp only [Option.some.injEq,Prod.mk.injEq] at h
    obtain ⟨rfl,rfl⟩:=h
    refine ⟨_,S,run_append_fit (P:=P) (ty:=ty) (news:=news) (m:=0) (w':=S.w) ht hxd hxi hs (hlen S.w) (hnews' S.w rfl) (by omega) ?_,Ext.refl S,hI,?_⟩
    ·have : news = #[] := by
        have:=hnews.size
        simp [flat] at this
        exact this
     subst this
     rfl
    ·exact .vs k .clip l b off cap f hcap hl h1 h2 htok sp hsp
   ·rename_i hxs
    have hpos:0 < xs.length:=List.length_pos_iff.2 hxs
    simp only [Option.some.injEq,Prod.mk.injEq] at h
    obtain ⟨rfl,rfl⟩:=h
    have hcl:cap=l.length:=htok
    have:=append_row_more (P:=P) (ty:=ty) (S:=S) (base:=some ⟨b,off,sp⟩) (len:=l.length) (cap:=cap) (lc:=flat l) (n0:=0) (tk:=H.length) (ag:=ag) (H':=H++[.row 0 (flat l++flat xs)]) hI ht hxd hxi hs hb hz (flat_length hlk) hold (hold' S.w.drew rfl) hx hlen hnews hnews'
     (by omega) hf (RowSet.new H 0 _) (fun e0 b0 hw0 sz0 h=>by rw [(hI.past _ (Nat.le_refl _)).2] at h;cases h)
    simpa [hfl,flat_append] using this
  ·cases h
 ·rename_i ag' k' o e0 len
  split at h
  ·rename_i hc
   obtain ⟨rfl,hkk,hf⟩:=hc
   obtain rfl:k=k':=hkk.symm
   cases hsr with | ws _ _ _ _ _ cap b hr hcap =>
   split at h
   ·rename_i hxs
    subst hxs
    simp only [Option.some.injEq,Prod.mk.injEq] at h
    obtain ⟨rfl,rfl⟩:=h
    refine ⟨_,S,run_append_fit (P:=P) (ty:=ty) (news:=news) (m:=0) (w':=S.w) ht hxd hxi hs (hlen S.w) (hnews' S.w rfl) (by omega) ?_,Ext.refl S,hI,?_⟩
    ·have : news = #[] := by
        have:=hnews.size
        simp [flat] at this
        exact this
     subst this
     rfl
    ·exact .ws _ k o e0 len cap b hr hcap
   ·rename_i hxs
    have hpos:0 < xs.length:=List.length_pos_iff.2 hxs
    split at h
    ·rename_i e1 l0 hte
     split at h
     ·rename_i hee
      obtain ⟨rfl,hll0⟩:=hee
      simp only [Option.some.injEq,Prod.mk.injEq,cutL_eq] at h
      obtain ⟨rfl,rfl⟩:=h
      generalize hlc:l0.take (len * k)=lc
      have hll:lc.length=len * k:=by rw [← hlc,List.length_take];omega
      by_cases hfit:len+xs.length≤cap
      ·have:=append_row_fit (P:=P) (ty:=ty) (ag:=ag') hI ht hxd hxi hs hr hte hlc.symm hll hx hlen hnews hnews' hfit
       simpa [hfl] using this
      ·obtain ⟨b2,sz2,c,el,fz,g1,g2,g3,g4,g5,g6,g7,g8,g9⟩:=hI.objs o _ hte
       obtain ⟨e2,b0,hw0,sz0,q1,q2,q3⟩:=hr
       rw [g1] at q1
       simp only [Option.some.injEq,Prod.mk.injEq] at q1
       obtain ⟨u1,u2,u3,u4⟩:=q1
       obtain ⟨w1,w2,w3⟩:=q3 u1
       obtain rfl:b=b2:=w1.trans u2.symm
       have hl1:lc.length≤l0.length:=by rw [← hlc,List.length_take];omega
       have hold:CellsRel S lc (c.extract 0 lc.length):=by
        refine ⟨by simp;omega,fun i x v hi hv=>?_,by rw [← hlc];exact List.all_eq_true.2 fun x hx=>List.all_eq_true.1 g8 x (List.mem_of_mem_take hx)⟩
        rw [Array.getElem?_extract] at hv
        split at hv
        ·rw [Nat.zero_add] at hv
         have hlt:=lt_of_get hi
         rw [← hlc,List.getElem?_take_of_lt (by omega)] at hi
         exact g6 i x v hi hv
        ·cases hv
       have:=append_row_more (P:=P) (ty:=ty) (S:=S) (base:=some ⟨b,0,none⟩) (len:=len) (cap:=cap) (lc:=lc) (old:=c.extract 0 lc.length) (n0:=e1+1) (tk:=o) (ag:=ag') (H':=H.set o (.row (e1+1) (lc++flat xs))) hI ht hxd hxi hs hb hz hll hold ?_ hx hlen hnews hnews'
        (by omega) hf (RowSet.set hte) (fun e0 b0 hw0 sz0 h=>by
         rw [g1] at h
         simp only [Option.some.injEq,Prod.mk.injEq] at h
         omega)
       ·simpa [hfl] using this
       ·simp only [Builtin.firstCells]
        have hl:=run_loadCells_list (P:=P) S.w.drew ⟨b,0,none⟩ (c.extract 0 lc.length).toList (fun j v hv=>by
         have hd:S.w.drew.heap=S.w.heap:=rfl
         rw [cell_of_heap hd,add_spot,cell_of_row S.w b _ c el fz g3]
         rw [Array.getElem?_toList,Array.getElem?_extract] at hv
         split at hv
         ·exact hv
         ·cases hv)
        have hsz:(c.extract 0 lc.length).toList.length=len * k:=by rw [Array.length_toList,hold.size];exact hll
        rw [hsz,Array.toArray_toList] at hl
        exact hl
     ·cases h
    ·cases h
  ·cases h
 ·exact aappend_sound hI hk0 ht hxd hxi hs hb hz hsr hxr hel h

theorem zeroT_info {t:TypeId} {z:AV} {i:TypeInfo} (h:zeroT P t=some z) (hi:P.info? t=some i):∃ zc,i.zero=some zc∧∀ S:Snap,VRel S z zc:=by
 unfold zeroT at h
 simp only [hi] at h
 cases hz:i.zero with
 | none=>simp [hz] at h
 | some zc=>simp [hz] at h;subst h;exact ⟨zc,rfl,fun S=>ofConst_sound 3 zc⟩

theorem amake_sound {t e : TypeId} {k bytes : Nat} {ag : Bool} {z len cap r : AV} {ul uc : Value} {H' : Hp} (hI : Inv W0 S H) (ht : P.underlying t = some (.slice e)) (hs : szT P e = some k) (hb : bytesT P e = some bytes) (hz : zeroT P e = some z)
    (hl:VRel S len ul) (hc:VRel S cap uc) (h:amake k bytes ag z len cap H=some (r,H')):∃ v' S',(Instr.makeSlice t ul uc).run P S.w=.ok v' S'.w∧Ext S S'∧Inv W0 S' H'∧VRel S' r v':=by
 unfold amake at h
 split at h
 ·rename_i n c
  split at h
  ·rename_i hcond
   obtain ⟨h0,hnc,hkn,hzl,hk0,hfit⟩:=hcond
   cases hl with | int _ _ =>
   cases hc with | int _ _ =>
   obtain ⟨i,hi,hib,_⟩:=run_bytesT hb S.w
   obtain ⟨zc,hzi,hzv⟩:=zeroT_info hz hi
   subst hib
   have hik:i.size=k:=by
    unfold szT at hs
    simpa [hi] using hs
   subst hik
   obtain ⟨N,rfl⟩:=Int.eq_ofNat_of_zero_le h0
   obtain ⟨C,rfl⟩:=Int.eq_ofNat_of_zero_le (Int.le_trans h0 hnc)
   have hfit':C * (i.bytes+1)≤140737488355328:=of_decide_eq_true hfit
   have hbb:C * i.bytes≤140737488355328:=Nat.le_trans (Nat.mul_le_mul_left _ (Nat.le_succ _)) hfit'
   have hnn:C≤140737488355328:=Nat.le_trans (Nat.le_mul_of_pos_right _ (Nat.succ_pos _)) hfit'
   have hNC:N≤C:=by omega
   have hbi:(i.bytes:Int) * (C:Int)≤281474976710656:=by
    have:((C * i.bytes:Nat):Int)≤140737488355328:=by omega
    rw [Int.natCast_mul] at this
    rw [Int.mul_comm];omega
   have hrun:=run_make (P:=P) S.w t e i zc ht hi hzi .i64 .i64 (N:Int) (C:Int) h0 hnc hbi (by omega)
   have hzrow:CellsRel S (flat (List.replicate C z)) (madeCells zc.cells (C * i.size)):=zeroRow_rel (S:=S) (hzv S) hkn hzl hk0 C
   simp only [Int.toNat_natCast] at hrun h
   have hall:∀ e ∈ List.replicate C z,e.cells.length=i.size:=fun e he=>by rw [List.eq_of_mem_replicate he];exact hzl
   have hcs:(madeCells zc.cells (C * i.size)).size=C * i.size:=by rw [hzrow.size,flat_length hall];simp
   split at h
   ·rename_i hn0
    simp only [Option.some.injEq,Prod.mk.injEq] at h
    obtain ⟨rfl,rfl⟩:=h
    have hN0:N=0:=by omega
    subst hN0
    have he:∀ e0 b0 hw0 sz0,S.tk H.length=some (e0,b0,hw0,sz0)→e0 < 0:=fun e0 b0 hw0 sz0 h=>by rw [(hI.past _ (Nat.le_refl _)).2] at h;cases h
    have hv:=tokn_vs (S:=S) (n:=H.length) (e:=0) (k:=i.size) (len:=0) (cap:=C) (l:=[]) (c:=madeCells zc.cells (C * i.size)) (el:=e) rfl (by simp) (by simp [flat]) (by simp) hcs (fun i x v hi _=>by simp [flat] at hi)
    simp only [List.length_nil,Nat.zero_mul] at hv
    refine ⟨_,S.tokn H.length (.cells (madeCells zc.cells (C * i.size)) e) 0 0 (madeCells zc.cells (C * i.size)).size,hrun,Ext.tokn hI he,hI.tokn (TokSet.new H 0) he rfl (Nat.zero_le _),?_⟩
    split
    ·rename_i hc0
     have hC0:C=0:=by omega
     cases hv with | vs _ _ _ b off cap f hcap hk h1 h2 ht sp hsp=>exact .vs _ .clip _ _ _ _ f hcap hk h1 h2 hC0 none (.inl rfl)
    ·exact hv
   ·simp only [Option.some.injEq,Prod.mk.injEq] at h
    obtain ⟨rfl,rfl⟩:=h
    obtain ⟨_,hI',hphi⟩:=newRow_sound (P:=P) hI hzrow e
    rw [flat_replicate] at hI'
    exact ⟨_,S.obj H.length (.cells (madeCells zc.cells (C * i.size)) e),hrun,Ext.obj hI _,hI',.rs _ _ _ _ _ _ _ hphi hNC⟩
  ·cases h
 ·cases h

theorem flat_u8 (ns:List Int):flat (ns.map (AV.int .u8))=ns.map (AV.int .u8):=by
 unfold flat
 rw [List.map_map]
 show (ns.map fun n=>[AV.int .u8 n]).flatten=_
 induction ns with
 | nil=>rfl
 | cons a l ih=>simp [ih]
theorem cvStrH_sound {src dst e : TypeId} {x r : AV} {u : Value} {H' : Hp} (hI : Inv W0 S H) (hs : P.underlying src = some (.slice e)) (hd : P.underlying dst = some .string) (he : P.underlying e = some (.int .u8)) (hx : VRel S x u)
    (h:cvStrH x H=some (r,H')):∃ v' S',(convert src dst u).run P S.w=.ok v' S'.w∧Ext S S'∧Inv W0 S' H'∧VRel S' r v':=by
 unfold cvStrH at h
 split at h
 ·rename_i l hel
  split at h
  ·rename_i s hsb
   simp only [Option.some.injEq,Prod.mk.injEq] at h
   obtain ⟨rfl,rfl⟩:=h
   obtain ⟨ns,rfl,rfl⟩:=bytesOf_spec hsb
   have hel':elems 1 x H=some (ns.map (AV.int .u8)):=by
    unfold elemsS at hel
    split at hel
    ·cases hel
    ·exact hel
   obtain ⟨_,hlen,news,hnews,hnews'⟩:=elems_sound (P:=P) hI (Nat.zero_lt_one) hx hel'
   rw [flat_u8] at hnews
   have hnv:news=(ns.map (Value.int .u8)).toArray:=by
    apply Array.ext_getElem?
    intro i
    by_cases hi:i < ns.length
    ·obtain ⟨v,hv,hr⟩:=hnews.get (i:=i) (x:=.int .u8 ns[i]) (by simp [hi])
     rw [hv]
     cases hr
     simp [hi]
    ·rw [Array.getElem?_eq_none (by rw [hnews.size];simp;omega),Array.getElem?_eq_none (by simp;omega)]
   subst hnv
   have hsrc:(∃ a n c,u=.slice (some a) n c) ∨ (u=.slice none 0 0∧ns=[]):=by
    cases x <;> first
     | (simp [elems] at hel';done)
     | (simp [elemsS] at hel;done)
     | skip
    ·cases hx
     right
     exact ⟨rfl,by simpa [elems] using hel'⟩
    ·cases hx
     exact .inl ⟨_,_,_,rfl⟩
    ·cases hx
     exact .inl ⟨_,_,_,rfl⟩
    ·cases hx
     exact .inl ⟨_,_,_,rfl⟩
   rcases hsrc with ⟨a,n,c,rfl⟩ | ⟨rfl,rfl⟩
   ·have hn : n = ns.length := by
       have:=hlen S.w
       simpa [Builtin.lenOf] using this
    subst hn
    refine ⟨.string (ns.foldl (fun r n=>r.push (UInt8.ofNat n.toNat)) ByteArray.empty),S,?_,Ext.refl S,hI,.str _ _ ?_⟩
    ·have hnn:=hnews' S.w rfl
     rw [run_convert_bytes_string S.w src dst e _ _ _ hs he hd]
     refine run_bytesToString S.w _ _ _ ns ?_
     simp only [Builtin.firstCells,List.length_map,Nat.mul_one] at hnn
     exact hnn
    ·rw [foldl_push];simp
   ·exact ⟨.string .empty,S,by simp [convert,run_underlying hs,run_underlying hd,run_underlying he,Conv.bytesToString],Ext.refl S,hI,.str _ _ rfl⟩
  ·cases h
 ·cases h
theorem cvRow_sound {src dst e : TypeId} {x r : AV} {u : Value} {H' : Hp} (hI : Inv W0 S H) (hs : P.underlying src = some .string) (hd : P.underlying dst = some (.slice e)) (he : P.underlying e = some (.int .u8)) (hx : VRel S x u)
    (h:cvRow x H=some (r,H')):∃ v' S',(convert src dst u).run P S.w=.ok v' S'.w∧Ext S S'∧Inv W0 S' H'∧VRel S' r v':=by
 unfold cvRow at h
 split at h
 ·simp only [Option.some.injEq,Prod.mk.injEq] at h
  obtain ⟨rfl,rfl⟩:=h
  cases hx with | str _ b hb =>
  subst hb
  have hrun:=run_bytes_of_string S.w src dst e b hs hd he
  have hcap:=grownCap_ge S.w b.size 0 e
  generalize grownCap S.w b.size 0 e=cap at hrun hcap
  have hsz:(bytesRow b cap).size=cap:=by simp [bytesRow];omega
  have hl:(b.data.toList.map fun b=>AV.int .u8 (b.toNat:Int)).length=b.size:=by rw [List.length_map];exact size_toList b
  have hl2:b.data.toList.length=b.size:=size_toList b
  have hI1:=hI.drew
  have he1:∀ e0 b0 hw0 sz0,S.drew.tk H.length=some (e0,b0,hw0,sz0)→e0 < 0:=fun e0 b0 hw0 sz0 h=>by
   have h':S.tk H.length=some (e0,b0,hw0,sz0):=h
   rw [(hI.past _ (Nat.le_refl _)).2] at h';cases h'
  have hext:=Ext.rown hI1 (o:=.cells (bytesRow b cap) e ((bytesRow b cap).size,(bytesRow b cap).size+1)) (hw:=b.size) (sz:=cap) he1
  refine ⟨_,S.drew.rown H.length (.cells (bytesRow b cap) e ((bytesRow b cap).size,(bytesRow b cap).size+1)) 0 b.size cap,hrun,(Ext.drew S).trans hext,hI1.rown (RowSet.new H 0 _) he1 ?_,?_⟩
  ·refine ⟨S.drew.w.heap.size,cap,bytesRow b cap,e,_,by rw [hl];simp [Snap.rown],hI1.size,heap_alloc_new S.drew.w _,hsz,by rw [hl];exact hcap,fun i x v hi hv=>?_,fun i hp=>absurd (hI1.puball _ i hp) (Nat.lt_irrefl _),List.all_eq_true.2 fun x hx=>(by simp at hx;obtain ⟨a,_,rfl⟩:=hx;rfl),fun i hi h=>by have:=h.1;simp only at this;omega⟩
   have hib:i < b.size:=by rw [← hl];exact lt_of_get hi
   rw [List.getElem?_map,List.getElem?_eq_getElem (by rw [hl2];exact hib)] at hi
   unfold bytesRow at hv
   rw [Array.getElem?_append_left (by simp;exact hib)] at hv
   have hg:b.data[i]?=some b.data[i]:=Array.getElem?_eq_getElem hib
   simp [hg] at hi hv
   subst hi hv
   exact .int _ _
  ·rw [hl2]
   exact .ws false 1 H.length 0 b.size cap S.drew.w.heap.size ⟨0,S.drew.w.heap.size,b.size,cap,by simp [Snap.rown],Nat.le_refl _,fun _=>⟨rfl,by omega,by omega⟩⟩ hcap
 ·cases h

def GlobOk (C:Cfg) (S:Snap):Prop:=∀ g cs,C.glob g=some cs→VRel S (.vp cs) (.pointer (some ⟨g,0,none⟩))∧Sc 0 (.vp cs)∧Held S g cs
def CallsOk (C:Cfg) (_:World) (call:CallF):Prop :=
 ∀ {W0:World} (f:FuncId) (args:List AV) (H H':Hp) (v:AV),call f args H=some (v,H')→∀ (S:Snap) (args':Array Value),Inv W0 S H→GlobOk C S→args'.size=args.length →
  (∀ (i:Nat) (a:AV) (u:Value),args[i]?=some a→args'[i]?=some u→VRel S a u) →
  Calls C.P f args' S.w fun e w'=>∃ v' S',e=.returned v'∧S'.w=w'∧Ext S S'∧Inv W0 S' H'∧VRel S' v v'

theorem upon_value {o:Oper} {a:Act} {next:Act→World→Prop} {Q:Exit→Act→World→Prop} {w w':World} {v:Value} (h:(execOp a.eval o).run P w=.ok (.value v) w') (hn:next (a.put o.dst v) w'):o.wp P a w next Q:=by
 unfold Oper.wp;rw [h];exact hn
theorem upon_skip {o:Oper} {a:Act} {next:Act→World→Prop} {Q:Exit→Act→World→Prop} {w w':World} (h:(execOp a.eval o).run P w=.ok .skip w') (hn:next (a.put o.dst undef) w'):o.wp P a w next Q:=by
 unfold Oper.wp;rw [h];exact hn

theorem Gives.wp {C : Cfg} {o : Oper} {a : Act} {next : Act → World → Prop} {Q : Exit → Act → World → Prop} {v : AV} {H' : Hp} (h : Gives C.P W0 S H (execOp a.eval o) v H') (hI : Inv W0 S H)
    (hn:∀ v' S',Ext S S'→Inv W0 S' H'→VRel S' v v'→next (a.put o.dst v') S'.w):o.wp C.P a S.w next Q:=by
 obtain ⟨v',S',h1,h2,h3,h4⟩:=h hI
 exact upon_value h1 (hn v' S' h2 h3 h4)

theorem app_rel {l1 l2 : List AV} {a1 a2 : Array Value} (s1 : a1.size = l1.length) (h1 : ∀ (i : Nat) (a : AV) (u : Value), l1[i]? = some a → a1[i]? = some u → VRel S a u)
    (h2:∀ (i:Nat) (a:AV) (u:Value),l2[i]?=some a→a2[i]?=some u→VRel S a u) (i:Nat) (a:AV) (u:Value) (ha:(l1++l2)[i]?=some a) (hu:(a1++a2)[i]?=some u):VRel S a u:=by
 rcases Nat.lt_or_ge i l1.length with h | h
 ·rw [List.getElem?_append_left h] at ha
  rw [Array.getElem?_append_left (by omega)] at hu
  exact h1 i a u ha hu
 ·rw [List.getElem?_append_right h] at ha
  rw [Array.getElem?_append_right (by omega),s1] at hu
  exact h2 _ a u ha hu

theorem acopy_sound {dt xt ty e : TypeId} {k : Nat} {d x r : AV} {ud ux : Value} {H' : Hp} (hI : Inv W0 S H) (hk : 0 < k) (ht : P.underlying dt = some (.slice e)) (hs : szT P e = some k) (hd : VRel S d ud) (hx : VRel S x ux)
    (h:acopy k d x H=some (r,H')):∃ v' S',(Builtin.copy_ #[dt,xt] ty #[ud,ux]).run P S.w=.ok v' S'.w∧Ext S S'∧Inv W0 S' H'∧VRel S' r v':=by
 unfold acopy at h
 split at h
 ·rename_i xs hxs
  obtain ⟨hl,hlen,news,hnews,hnews'⟩:=elems_sound (P:=P) hI hk hx hxs
  have hnil:∀ (base:Option Addr) (dl dc:Nat),xs=[]→(Builtin.copy_ #[dt,xt] ty #[.slice base dl dc,ux]).run P S.w=.ok (goInt 0) S.w:=by
   intro base dl dc he
   subst he
   have hn:=hnews' S.w rfl
   have he:news=#[]:=by
    have:=hnews.size
    simp [flat] at this
    exact this
   subst he
   simp only [List.length_nil] at hn hlen
   cases base <;> simp [Builtin.copy_,run_underlying ht,hlen S.w,run_szT hs,hn,storeCells]
  split at h
  ·split at h
   ·rename_i he
    simp only [Option.some.injEq,Prod.mk.injEq] at h
    obtain ⟨rfl,rfl⟩:=h
    cases hd
    exact ⟨_,S,hnil _ _ _ he,Ext.refl S,hI,.int _ _⟩
   ·cases h
  ·split at h
   ·rename_i he
    simp only [Option.some.injEq,Prod.mk.injEq] at h
    obtain ⟨rfl,rfl⟩:=h
    cases hd
    exact ⟨_,S,hnil _ _ _ he,Ext.refl S,hI,.int _ _⟩
   ·cases h
  ·rename_i ag k' o off len cap
   cases hd with | rs _ _ _ _ _ _ b hb hcap =>
   split at h
   ·rename_i he
    simp only [Option.some.injEq,Prod.mk.injEq] at h
    obtain ⟨rfl,rfl⟩:=h
    exact ⟨_,S,hnil _ _ _ he,Ext.refl S,hI,.int _ _⟩
   ·split at h
    ·rename_i hc
     obtain ⟨rfl,hle⟩:=hc
     split at h
     ·rename_i cs ho
      split at h
      ·rename_i hfit
       simp only [Option.some.injEq,Prod.mk.injEq] at h
       obtain ⟨rfl,rfl⟩:=h
       obtain ⟨b',c,el,g1,g2,g3,g4,g5,g6,g7⟩:=hI.objs o _ ho
       rw [hb] at g1
       injection g1 with g1
       subst g1
       have hfl:(xs.map AV.cells).flatten=flat xs:=rfl
       have hns:news.size=xs.length * k':=by rw [hnews.size,flat_length hl]
       have hst:=run_storeCells_at P b off el news.toList 0 c S.w g3 (by simp;omega) hnews.oneCells
       rw [Nat.add_zero,← fold_eq_splice off news c (by omega)] at hst
       have hmin:Nat.min xs.length len=xs.length:=Nat.min_eq_left hle
       refine ⟨goInt xs.length,{ S with w:=S.w.setRow b (news.zipIdx.foldl (fun (a:Array Value) (p:Value × Nat)=>a.setIfInBounds (off+p.2) p.1) c) },?_,Ext.write g6 _,?_,.int _ _⟩
       ·simp [Builtin.copy_,run_underlying ht,hlen S.w,hmin,run_szT hs,hnews' S.w rfl,hst]
       ·refine hI.write ho hb g2 g3 g6 ?_
        rw [hfl]
        exact (CellsRel.splice (S:=S) ⟨g4,g5,g7⟩ hnews (by first | omega | (rw [flat_length hl];omega))).mono (Ext.write g6 _)
      ·cases h
     ·cases h
    ·cases h
  ·cases h
 ·cases h
theorem find_indexB (s : List UInt8) (c : UInt8) : ∀ (l : List UInt8) (k : Nat), (∀ i, l[i]? = s[k + i]?) →
    indexB c l k=match (List.range' k l.length).find? fun i=>s[i]! == c with | some i=>(i:Int) | none=>-1:=by
 intro l
 induction l with
 | nil=>intro k _;rfl
 | cons b l ih =>
  intro k h
  have h0:=h 0
  simp only [List.getElem?_cons_zero,Nat.add_zero] at h0
  have hb:s[k]! = b:=by rw [List.getElem!_eq_getElem?_getD,← h0];rfl
  rw [List.length_cons,List.range'_succ,List.find?_cons,hb]
  unfold indexB
  by_cases he:b=c
  ·simp [he]
  ·have:(b == c)=false:=by simpa using he
   simp only [he,if_false,this]
   exact ih (k+1) fun i=>by have:=h (i+1);simpa [Nat.add_assoc,Nat.add_comm 1 i] using this
theorem find_cmpB (s t : List UInt8) : ∀ (l m : List UInt8) (k : Nat), (∀ i, l[i]? = s[k + i]?) → (∀ i, m[i]? = t[k + i]?) →
    cmpB l m=match (List.range' k (min l.length m.length)).find? fun i=>s[i]! != t[i]! with | some i=>(if s[i]! < t[i]! then (-1:Int) else 1) | none=>if l.length < m.length then -1 else if l.length > m.length then 1 else 0:=by
 intro l
 induction l with
 | nil=>intro m k _ _;cases m <;> simp [cmpB]
 | cons a l ih =>
  intro m k h1 h2
  cases m with
  | nil=>simp [cmpB]
  | cons b m =>
   have e1:=h1 0
   have e2:=h2 0
   simp only [List.getElem?_cons_zero,Nat.add_zero] at e1 e2
   have ha:s[k]! = a:=by rw [List.getElem!_eq_getElem?_getD,← e1];rfl
   have hb:t[k]! = b:=by rw [List.getElem!_eq_getElem?_getD,← e2];rfl
   have hmin:min (a :: l).length (b :: m).length=min l.length m.length+1:=by simp
   rw [hmin,List.range'_succ,List.find?_cons,ha,hb]
   unfold cmpB
   by_cases he:a=b
   ·have:(a != b)=false:=by simp [he]
    simp only [he,if_true]
    subst he
    simp only [bne_self_eq_false]
    rw [ih m (k+1) (fun i=>by have:=h1 (i+1);simpa [Nat.add_assoc,Nat.add_comm 1 i] using this) (fun i=>by have:=h2 (i+1);simpa [Nat.add_assoc,Nat.add_comm 1 i] using this)]
    simp
   ·have:(a != b)=true:=by simpa using he
    simp only [he,if_false,this,ha,hb]
theorem bget (b:ByteArray) (i:Nat):b[i]! = b.data.toList[i]!:=by
 cases b with | mk a =>
 by_cases h:i < a.size
 ·have h2:i < (ByteArray.mk a).size:=h
  rw [getElem!_pos (ByteArray.mk a) i h2,getElem!_pos a.toList i (by simpa using h)]
  rfl
 ·have h2:¬ i < (ByteArray.mk a).size:=h
  rw [getElem!_neg (ByteArray.mk a) i h2,getElem!_neg a.toList i (by simpa using h)]
theorem countB_foldl (c:UInt8):∀ (l:List UInt8) (n:Int),l.foldl (fun (n:Int) x=>if x == c then n+1 else n) n=n+(countB c l:Nat):=by
 intro l
 induction l with
 | nil=>intro n;simp [countB]
 | cons b l ih =>
  intro n
  rw [List.foldl_cons,ih]
  have e:countB c (b :: l)=if b=c then countB c l+1 else countB c l:=rfl
  rw [e]
  by_cases h:b=c
  ·subst h;simp;omega
  ·have:(b == c)=false:=by simpa using h
   rw [this,if_neg h];simp
theorem extA_sound {e : ExtK} {args : List AV} {args' : Array Value} {v : AV} (hs : args'.size = args.length) (ha : ∀ (i : Nat) (a : AV) (u : Value), args[i]? = some a → args'[i]? = some u → VRel S a u) (h : extA e args = some v) :
    ∃ v',(extF e args').run P S.w=.ok v' S.w∧VRel S v v':=by
 unfold extA at h
 split at h
 ·rename_i x
  injection h with h
  subst h
  obtain ⟨l⟩:=args'
  match l,hs with
  | [u],_=>exact ⟨u,rfl,ha 0 x u rfl rfl⟩
 ·rename_i s n
  injection h with h
  subst h
  obtain ⟨l⟩:=args'
  match l,hs with
  | [u,w],_ =>
   have h1:=ha 0 _ u rfl rfl
   have h2:=ha 1 _ w rfl rfl
   cases h1 with | str _ b hb =>
   cases h2
   subst hb
   have hf:=find_indexB b.data.toList (UInt8.ofNat n.toNat) b.data.toList 0 (fun i=>by rw [Nat.zero_add])
   rw [hf]
   have hget:∀ i,b[i]! = b.data.toList[i]!:=bget b
   refine ⟨goInt _,?_,.int _ _⟩
   have e:extF .indexByte #[.string b,.int .u8 n]=(match (List.range b.size).find? fun i=>b[i]! == UInt8.ofNat n.toNat with | some i=>pure (goInt i) | none=>pure (goInt (-1))):=rfl
   show (extF .indexByte #[.string b,.int .u8 n]).run P S.w=_
   rw [e]
   simp only [hget]
   rw [List.range_eq_range',show b.data.toList.length=b.size from by rw [Array.length_toList];rfl]
   cases (List.range' 0 b.size).find? fun i=>b.data.toList[i]! == UInt8.ofNat n.toNat <;> rfl
 ·rename_i s t
  injection h with h
  subst h
  obtain ⟨l⟩:=args'
  match l,hs with
  | [u,w],_ =>
   have h1:=ha 0 _ u rfl rfl
   have h2:=ha 1 _ w rfl rfl
   cases h1 with | str _ b hb =>
   cases h2 with | str _ c hc =>
   subst hb hc
   have hf:=find_cmpB b.data.toList c.data.toList b.data.toList c.data.toList 0 (fun i=>by rw [Nat.zero_add]) (fun i=>by rw [Nat.zero_add])
   rw [hf]
   have hgb:∀ (b:ByteArray) (i:Nat),b[i]! = b.data.toList[i]!:=bget
   refine ⟨goInt _,?_,.int _ _⟩
   have hl:∀ b:ByteArray,b.data.toList.length=b.size:=fun b=>by rw [Array.length_toList];rfl
   have e:extF .cmp #[.string b,.string c]=pure (goInt (Extern.BytealgCompare.cmp b c)):=rfl
   show (extF .cmp #[.string b,.string c]).run P S.w=_
   rw [e]
   simp only [Extern.BytealgCompare.cmp,hgb,hl,Sem.run_pure]
   rw [List.range_eq_range']
   rfl
 ·rename_i s n
  injection h with h
  subst h
  obtain ⟨l⟩:=args'
  match l,hs with
  | [u,w],_ =>
   have h1:=ha 0 _ u rfl rfl
   have h2:=ha 1 _ w rfl rfl
   cases h1 with | str _ b hb =>
   cases h2
   subst hb
   refine ⟨goInt _,?_,.int _ _⟩
   have e:extF .count #[.string b,.int .u8 n]=pure (goInt (b.foldl (fun (n':Int) x=>if x == UInt8.ofNat n.toNat then n'+1 else n') ((0:Nat):Int))):=rfl
   show (extF .count #[.string b,.int .u8 n]).run P S.w=_
   rw [e,Lib.foldl_data,countB_foldl]
   simp
 ·cases h
theorem Inv.went (hI:Inv W0 S H) {w':World} (hb:Below S.w.heap.size S.w w'):Ext S { S with w:=w' }∧Inv W0 { S with w:=w' } H:=by
 have hx:Ext S { S with w:=w' }:=⟨⟨fun _ _ h=>h,fun b i h=>⟨h,hb.cell (hI.puball b i h)⟩,fun _ e b hw sz h=>⟨e,b,hw,sz,h,Nat.le_refl _,fun _=>⟨rfl,rfl,rfl⟩⟩⟩,rfl,fun _ _ h _=>h⟩
 have hget:∀ b c,S.w.heap[b]?=some c→w'.heap[b]?=some c:=fun b c h=>by
  have hlt:b < S.w.heap.size:=by
   rcases Nat.lt_or_ge b S.w.heap.size with h' | h'
   ·exact h'
   ·rw [Array.getElem?_eq_none h'] at h;cases h
  rw [hb.block b hlt];exact h
 refine ⟨hx,hI.below.trans (hb.mono hI.below.size),fun o x ho=>?_,hI.past,hI.inj,hI.tinj,hI.apart,fun b i h=>Nat.lt_of_lt_of_le (hI.puball b i h) hb.size,fun o b h=>Nat.lt_of_lt_of_le (hI.dom o b h) hb.size,
  fun t e b hw sz h=>Nat.lt_of_lt_of_le (hI.tdom t e b hw sz h) hb.size,hI.lim⟩
 have hr:=hI.objs o x ho
 cases x with
 | cells l =>
  obtain ⟨b',c',el',h1,h2,h3,h4,h5,h6,h7⟩:=hr
  exact ⟨b',c',el',h1,h2,hget _ _ h3,h4,fun i y v hy hv=>(h5 i y v hy hv).mono hx,h6,h7⟩
 | bld T u l =>
  obtain ⟨b',h1,h2,h3,h4,h5⟩:=hr
  have hlt:b' < S.w.heap.size:=h2.elim (fun h=>h.lt) fun h=>h.lt
  have he:=hb.block b' hlt
  have hcell:∀ i,w'.cell? ⟨b',i,none⟩=S.w.cell? ⟨b',i,none⟩:=fun i=>by unfold World.cell?;rw [he]
  exact ⟨b',h1,h2.frame he fun v g hv hg=>hb.block g (h2.own_lt hv hg),h3,h4,fun v g hv hg=>h5 v g (by rw [← hcell];exact hv) hg⟩
 | row e l =>
  obtain ⟨b',sz,c',el',fz,h1,h2,h3,h4,h5,h6,h7,h8,h9⟩:=hr
  exact ⟨b',sz,c',el',fz,h1,h2,hget _ _ h3,h4,h5,fun i y v hy hv=>(h6 i y v hy hv).mono hx,h7,h8,h9⟩
 | tok e =>
  obtain ⟨b',hw,sz,c',el',fz,h1,h2,h3,h4,h5,h6,h7⟩:=hr
  exact ⟨b',hw,sz,c',el',fz,h1,h2,hget _ _ h3,h4,h5,h6,h7⟩
 | map es clock =>
  obtain ⟨b',es',h1,h2,h3,h4,h5,h6⟩:=hr
  refine ⟨b',es',h1,h2,hget _ _ h3,h4,h5,fun i k v n e he1 he2=>?_⟩
  obtain ⟨q1,q2,q3⟩:=h6 i k v n e he1 he2
  exact ⟨q1.mono hx,q2.mono hx,q3⟩
 | siter s pos =>
  obtain ⟨b',s',h1,h2,h3,h4,h5⟩:=hr
  exact ⟨b',s',h1,h2,hget _ _ h3,h4,h5⟩
 | dead=>trivial
 | free=>exact hr
def Snap.bare (S:Snap):Snap:={ w:=S.w,phi:=fun _=>none,pub:=S.pub,tk:=fun _=>none,lim:=S.w.heap.size }
theorem Inv.bare (hI:Inv W0 S H):Inv S.w S.bare [] :=
 ⟨Below.refl _ _,by simp,fun o _=>⟨rfl,rfl⟩,fun o o' b h=>by simp [Snap.bare] at h,fun t t' e b hw sz e' hw' sz' h=>by simp [Snap.bare] at h,fun t e b hw sz o h=>by simp [Snap.bare] at h,
  hI.puball,fun o b h=>by simp [Snap.bare] at h,fun t e b hw sz h=>by simp [Snap.bare] at h,Nat.le_refl _⟩
def Snap.more (S:Snap) (n:Nat):Snap:={ S with pub:=fun b i=>S.pub b i ∨ (n≤b∧b < S.w.heap.size) }
theorem Inv.more (hI:Inv W0 S H) {n:Nat} (hn:W0.heap.size≤n) (hd:∀ o b,S.phi o=some b→b < n) (ht:∀ t e b hw sz,S.tk t=some (e,b,hw,sz)→b < n):Ext S (S.more n)∧Inv W0 (S.more n) H:=by
 have hx:Ext S (S.more n):=⟨⟨fun _ _ h=>h,fun b i h=>⟨.inl h,rfl⟩,fun _ e b hw sz h=>⟨e,b,hw,sz,h,Nat.le_refl _,fun _=>⟨rfl,rfl,rfl⟩⟩⟩,rfl,fun b i hp hl=>hp.elim id fun e=>by have:=hI.lim;have:=e.1;omega⟩
 refine ⟨hx,hI.below,fun o x ho=>?_,hI.past,hI.inj,hI.tinj,hI.apart,fun b i h=>h.elim (hI.puball b i) fun e=>e.2,hI.dom,hI.tdom,hI.lim⟩
 have hr:=hI.objs o x ho
 cases x with
 | cells l =>
  obtain ⟨b',c',el',h1,h2,h3,h4,h5,h6,h7⟩:=hr
  have:=hd _ _ h1
  exact ⟨b',c',el',h1,h2,h3,h4,fun i y v hy hv=>(h5 i y v hy hv).mono hx,fun i hp=>hp.elim (h6 i) fun e=>by have:=e.1;omega,h7⟩
 | bld T u l =>
  obtain ⟨b',h1,h2,h3,h4,h5⟩:=hr
  have:=hd _ _ h1
  refine ⟨b',h1,h2,h3,fun i hp=>hp.elim (h4 i) fun e=>by have:=e.1;omega,fun v g hv hg=>?_⟩
  obtain ⟨⟨n',hw,sz,q⟩,q2⟩:=h5 v g hv hg
  have:=ht _ _ _ _ _ q
  exact ⟨⟨n',hw,sz,q⟩,fun i hp=>hp.elim (q2 i) fun e=>by have:=e.1;omega⟩
 | row e l =>
  obtain ⟨b',sz,c',el',fz,h1,h2,h3,h4,h5,h6,h7,h8,h9⟩:=hr
  have:=ht _ _ _ _ _ h1
  exact ⟨b',sz,c',el',fz,h1,h2,h3,h4,h5,fun i y v hy hv=>(h6 i y v hy hv).mono hx,fun i hp=>hp.elim (h7 i) fun e=>by have:=e.1;omega,h8,h9⟩
 | tok e =>
  obtain ⟨b',hw,sz,c',el',fz,h1,h2,h3,h4,h5,h6,h7⟩:=hr
  have:=ht _ _ _ _ _ h1
  exact ⟨b',hw,sz,c',el',fz,h1,h2,h3,h4,h5,fun i hi hp=>hp.elim (h6 i hi) fun e=>by have:=e.1;omega,h7⟩
 | map es clock =>
  obtain ⟨b',es',h1,h2,h3,h4,h5,h6⟩:=hr
  have:=hd _ _ h1
  refine ⟨b',es',h1,h2,h3,h4,fun i hp=>hp.elim (h5 i) fun e=>by have:=e.1;omega,fun i k v n e he1 he2=>?_⟩
  obtain ⟨q1,q2,q3⟩:=h6 i k v n e he1 he2
  exact ⟨q1.mono hx,q2.mono hx,q3⟩
 | siter s pos =>
  obtain ⟨b',s',h1,h2,h3,h4,h5⟩:=hr
  have:=hd _ _ h1
  exact ⟨b',s',h1,h2,h3,h4,fun i hp=>hp.elim (h5 i) fun e=>by have:=e.1;omega⟩
 | dead=>trivial
 | free=>exact hr
theorem mapM_le {α β:Type} {f g:α→Option β} (h:∀ a b,f a=some b→g a=some b):∀ {l:List α} {r:List β},l.mapM f=some r→l.mapM g=some r:=by
 intro l
 induction l with
 | nil=>intro r hr;simpa using hr
 | cons a l ih =>
  intro r hr
  rw [List.mapM_cons] at hr ⊢
  cases hf:f a with
  | none=>simp [hf] at hr
  | some b =>
   cases hl:l.mapM f with
   | none=>simp [hf,hl] at hr
   | some bs =>
    simp only [hf,hl] at hr
    simp only [h a b hf,ih hl]
    exact hr
theorem flat_sound {C : Cfg} {call : CallF} (hcall : CallsOk C W0 call) {id : FuncId} {args : List AV} {args' : Array Value} {H' : Hp} {v : AV} (hs : args'.size = args.length)
    (ha:∀ (i:Nat) (a:AV) (u:Value),args[i]?=some a→args'[i]?=some u→VRel S a u) (h:flatC (call id) args H=some (v,H')) (hI:Inv W0 S H) (hG:GlobOk C S) :
    Calls C.P id args' S.w fun e w'=>∃ v' S',e=.returned v'∧S'.w=w'∧Ext S S'∧Inv W0 S' H'∧VRel S' v v':=by
 unfold flatC at h
 split at h
 ·rename_i args1 hm
  split at h
  ·rename_i v1 H1 hc
   split at h
   ·rename_i v2 hf
    simp only [Option.some.injEq,Prod.mk.injEq] at h
    obtain ⟨rfl,rfl⟩:=h
    obtain ⟨q1,q2⟩:=vals_close (S:=S) (T:=S.bare) (H':=[]) (n:=0) (f:=400) (fun a b v=>closeV_bare (S:=S) (T:=S.bare) rfl (fun _ _ h=>h) 400 a b v) hm hs ha
    refine (hcall id args1 [] H1 v1 hc S.bare args' hI.bare (fun g cs hg=>?_) q1 q2).mono fun e w' hp=>?_
    ·obtain ⟨g1,g2⟩:=hG g cs hg
     obtain ⟨g2,vs,g3,g4⟩:=g2
     exact ⟨VRel.bare (S:=S) (T:=S.bare) rfl (fun _ _ h=>h) g1 g2,g2,vs,g3,fun i=>⟨(g4 i).1,(g4 i).2⟩⟩
    ·obtain ⟨v',T,he,hw,hx,hIT,hv⟩:=hp
     subst hw
     have hv2:=closeV_sound (S:=T) (H:=[]) hIT (by simp) 400 _ _ _ hf hv
     obtain ⟨r1,r2⟩:=hI.went (w':=T.w) hIT.below
     obtain ⟨r3,r4⟩:=r2.more (n:=S.w.heap.size) hI.below.size hI.dom hI.tdom
     have hl:T.lim=S.w.heap.size:=hx.lim
     have hx0:Ext0 (T.back []) (({ S with w:=T.w }:Snap).more S.w.heap.size):=by
      refine ⟨fun o b h=>by simp [Snap.back] at h,fun b i h=>⟨?_,rfl⟩,fun t e b hw sz h=>by simp [Snap.back] at h⟩
      rcases h with h | ⟨h1,h2,_⟩
      ·rcases Nat.lt_or_ge b S.w.heap.size with hb | hb
       ·exact .inl (hx.old b i h hb)
       ·exact .inr ⟨hb,hIT.puball b i h⟩
      ·exact .inr ⟨by omega,h2⟩
     exact ⟨v',({ S with w:=T.w }:Snap).more S.w.heap.size,he,rfl,r1.trans r3,r4,hv2.mono0 hx0⟩
   ·cases h
  ·cases h
 ·cases h
theorem ro_sound {C : Cfg} {call : CallF} (hcall : CallsOk C W0 call) {id : FuncId} {args : List AV} {args' : Array Value} {H' : Hp} {v : AV} (hs : args'.size = args.length)
    (ha:∀ (i:Nat) (a:AV) (u:Value),args[i]?=some a→args'[i]?=some u→VRel S a u) (h:roC (call id) args H=some (v,H')) (hI:Inv W0 S H) (hG:GlobOk C S) :
    Calls C.P id args' S.w fun e w'=>∃ v' S',e=.returned v'∧S'.w=w'∧Ext S S'∧Inv W0 S' H'∧VRel S' v v':=by
 unfold roC at h
 split at h
 ·rename_i v1 H1 hc
  split at h
  ·rename_i ht
   have ht:=eqbH_eq _ _ ht
   split at h
   ·rename_i v2 hcl
    simp only [Option.some.injEq,Prod.mk.injEq] at h
    obtain ⟨rfl,rfl⟩:=h
    refine (hcall id args H H1 v1 hc S args' hI hG hs ha).mono ?_
    rintro e w' ⟨v',S1,he,hw,hx1,hI1,hv⟩
    exact ⟨v',S1.back H,he,hw,Ext.back hI hx1,Inv.back hI hI1 ht,closeV_sound hI1 ht 400 _ _ _ hcl hv⟩
   ·cases h
  ·cases h
 ·cases h
theorem gro_sound {C : Cfg} {call : CallF} (hcall : CallsOk C W0 call) {id : FuncId} {args : List AV} {args' : Array Value} {H' : Hp} {v : AV} (hs : args'.size = args.length)
    (ha:∀ (i:Nat) (a:AV) (u:Value),args[i]?=some a→args'[i]?=some u→VRel S a u) (h:groC (call id) args H=some (v,H')) (hI:Inv W0 S H) (hG:GlobOk C S) :
    Calls C.P id args' S.w fun e w'=>∃ v' S',e=.returned v'∧S'.w=w'∧Ext S S'∧Inv W0 S' H'∧VRel S' v v':=by
 unfold groC at h
 split at h
 ·rename_i v1 H1 hc
  split at h
  ·simp only [Option.some.injEq,Prod.mk.injEq] at h
   obtain ⟨rfl,rfl⟩:=h
   exact hcall id args H _ _ hc S args' hI hG hs ha
  ·cases h
 ·cases h
theorem methF_run {P:Program} {t:TypeId} {name:String} {f:FuncId} (h:methF P t name=some f) (k:Nat) (v:Value) (w:World):(method (k+1) t v name).run P w=.ok (f,v) w:=by
 unfold methF at h
 split at h
 ·rename_i i e hi hu
  split at h
  ·rename_i m hm
   split at h
   ·rename_i f' hp hf
    injection h with h
    subst h
    have h1:(typeInfo t).run P w=.ok i w:=run_typeInfo w hi
    have hu':=fun w=>run_underlying (w:=w) hu
    have hpe:m.path=#[]:=by simpa using hp
    unfold method
    simp [Sem.run_bind,h1,Result.andThen_ok,hm,hp,follow,hf,receiverAt,hu',Place.get]
   ·cases h
  ·cases h
 ·cases h
theorem acall_sound {C : Cfg} (hC : okCfg C) {call : CallF} (hcall : CallsOk C W0 call) {f v : AV} {args : List AV} {fu : Value} {args' : Array Value} {H' : Hp} (hf : VRel S f fu) (hs : args'.size = args.length)
    (ha:∀ (i:Nat) (a:AV) (u:Value),args[i]?=some a→args'[i]?=some u→VRel S a u) (h:acall C call f args H=some (v,H')) (hI:Inv W0 S H) (hG:GlobOk C S) :
    (∃ v',(do let d ← Deferred.ofValue fu args';invoke d.target d.args:Sem Next).run C.P S.w=.ok (.value v') S.w∧VRel S v v'∧H'=H) ∨
    ∃ id as,(∀ w:World,(do let d ← Deferred.ofValue fu args';invoke d.target d.args:Sem Next).run C.P w=.ok (.enter id as) w) ∧
     Calls C.P id as S.w fun e w'=>∃ v' S',e=.returned v'∧S'.w=w'∧Ext S S'∧Inv W0 S' H'∧VRel S' v v':=by
 unfold acall at h
 split at h
 ·rename_i id first captured
  cases hf with | fn _ _ _ F K hF hK h1 h2 =>
  have hsz:(F++args'++K).size=(first++args++captured).length:=by simp [hF,hs,hK]
  have hrel:=app_rel (S:=S) (by simp [hF,hs]) (app_rel hF h1 ha) h2
  unfold acallF at h
  split at h
  ·rename_i e he
   unfold extC at h
   split at h
   ·rename_i v1 hv1
    simp only [Option.some.injEq,Prod.mk.injEq] at h
    obtain ⟨rfl,rfl⟩:=h
    obtain ⟨v',g1,g2⟩:=extA_sound (P:=C.P) hsz hrel hv1
    refine .inl ⟨v',?_,g2,rfl⟩
    have h0:=hC.2.2.2.1 id e he (F++args'++K) S.w
    rw [Sem.run_bind,g1] at h0
    simp only [Result.andThen_ok,Sem.run_pure,Array.append_assoc] at h0
    simp [Deferred.ofValue,invoke]
    exact h0
   ·cases h
  ·split at h
   ·rename_i g hg
    obtain ⟨hu,hsum⟩:=hC.2.2.2.2.1 id g hg
    unfold sumC at h
    split at h
    ·rename_i v1 hv1
     simp only [Option.some.injEq,Prod.mk.injEq] at h
     obtain ⟨rfl,rfl⟩:=h
     refine .inr ⟨id,F++args'++K,fun w=>?_,hsum S H _ _ v1 hI (fun g cs hgl=>⟨(hG g cs hgl).1,(hG g cs hgl).2.2⟩) hsz hrel hv1⟩
     simp [Deferred.ofValue,invoke,hC.2.1 id hu]
    ·cases h
   split at h
   ·rename_i g hg
    obtain ⟨hu,heff⟩:=hC.2.2.2.2.2 id g hg
    refine .inr ⟨id,F++args'++K,fun w=>?_,heff S H _ _ _ v hI (fun g cs hgl=>⟨(hG g cs hgl).1,(hG g cs hgl).2.2⟩) hsz hrel h⟩
    simp [Deferred.ofValue,invoke,hC.2.1 id hu]
   split at h
   ·rename_i hu
    refine .inr ⟨id,F++args'++K,fun w=>?_,?_⟩
    ·simp [Deferred.ofValue,invoke,hC.2.1 id hu]
    ·split at h
     ·exact flat_sound hcall hsz hrel h hI hG
     split at h
     ·exact ro_sound hcall hsz hrel h hI hG
     split at h
     ·exact gro_sound hcall hsz hrel h hI hG
     ·exact hcall id _ H H' v h S _ hI hG hsz hrel
   ·cases h
 ·cases h

theorem aop_sound {C : Cfg} (hC : okCfg C) {call : CallF} (hcall : CallsOk C W0 call) {tm : List AV} {o : Oper} {a : Act} {next : Act → World → Prop} {Q : Exit → Act → World → Prop} {v : AV} {H' : Hp} {fl : Bool}
    (hev:∀ x,VRel S (eval C tm x) (a.eval x)) (h:aop C call (eval C tm) H fl o.op=some (v,H')) (hI:Inv W0 S H) (hG:GlobOk C S)
    (hn:∀ v' S',Ext S S'→Inv W0 S' H'→VRel S' v v'→next (a.put o.dst v') S'.w):o.wp C.P a S.w next Q:=by
 unfold aop at h
 split at h
 ·rename_i v' hp
  simp only [Option.some.injEq,Prod.mk.injEq] at h
  obtain ⟨rfl,rfl⟩:=h
  exact (apure_sound hC hev hp).wp hI hn
 split at h
 ·cases h
 generalize hop:o.op=op at h
 cases op with
 | alloc e =>
  simp only [aheap] at h
  split at h
  ·rename_i z hz
   obtain ⟨zc,hzr,hzv⟩:=zeroT_sound hz
   split at h
   ·rename_i u hu
    split at h
    ·rename_i hkn
     simp only [Option.some.injEq,Prod.mk.injEq] at h
     obtain ⟨rfl,rfl⟩:=h
     simp only [Bool.and_eq_true,bne_iff_ne,ne_eq] at hkn
     obtain ⟨hz1,hz2⟩:=hkn
     have hzc:zc.cells=#[.pointer none,.slice none 0 0]:=by
      have hv:=hzv S
      unfold bldZ at hz1
      split at hz1
      ·cases hv with | agg _ vs hc hs hr =>
       obtain ⟨l⟩:=vs
       match l,hs with
       | [x,y],_ =>
        have h1:=hr 0 _ x rfl rfl
        have h2:=hr 1 _ y rfl rfl
        cases h1
        cases h2
        rfl
      ·cases hz1
     obtain ⟨h1,h2,h3⟩:=newBld_sound (P:=C.P) hI hzc hz2
     refine upon_value (w':=(S.obj H.length (.cells zc.cells e)).w) ?_ (hn _ _ (Ext.obj hI _) h2 (.ptr _ 0 _ h3))
     simp [execOp,hop,Instr.alloc,hzr,newVar,h1]
    ·cases h
   split at h
   ·rename_i hkn
    simp only [Option.some.injEq,Prod.mk.injEq] at h
    obtain ⟨rfl,rfl⟩:=h
    obtain ⟨h1,h2,h3⟩:=newRow_sound (P:=C.P) hI ((hzv S).cells hkn) e
    refine upon_value (w':=(S.obj H.length (.cells zc.cells e)).w) ?_ (hn _ _ (Ext.obj hI _) h2 (.ptr _ 0 _ h3))
    simp [execOp,hop,Instr.alloc,hzr,newVar,h1]
   ·cases h
  ·cases h
 | box e x =>
  simp only [aheap] at h
  unfold abox at h
  split at h
  ·rename_i hkn
   simp only [Option.some.injEq,Prod.mk.injEq] at h
   obtain ⟨rfl,rfl⟩:=h
   obtain ⟨h1,h2,h3⟩:=newRow_sound (P:=C.P) hI ((hev x).cells hkn) e
   refine upon_value (w':=(S.obj H.length (.cells (a.eval x).cells e)).w) ?_ (hn _ _ (Ext.obj hI _) h2 (.ptr _ 0 _ h3))
   simp [execOp,hop,Instr.box,newVar,h1]
  ·cases h
 | load t x =>
  simp only [aheap] at h
  split at h
  ·rename_i g sz hg hs
   cases hl:aload g sz (eval C tm x) H with
   | none=>simp [hl] at h
   | some r =>
    simp [hl] at h
    obtain ⟨rfl,rfl⟩:=h
    obtain ⟨v',ad,hu,hr,hv⟩:=aload_sound (P:=C.P) hI hg hs (hev x) hl
    refine upon_value (w':=S.w) ?_ (hn _ _ (Ext.refl S) hI hv)
    simp [execOp,hop,Instr.loadAt,hu,Instr.sureAddr,hr]
  ·cases h
 | store t x y =>
  simp only [aheap] at h
  split at h
  ·rename_i sz hs
   split at h
   rotate_left
   ·cases h
   unfold astoreU at h
   cases hl:astore sz (eval C tm x) (eval C tm y) H with
   | none=>simp [hl] at h
   | some r =>
    simp only [hl,Option.some.injEq,Prod.mk.injEq] at h
    obtain ⟨rfl,rfl⟩:=h
    obtain ⟨ad,S',hu,hr,hx,hI'⟩:=astore_sound (P:=C.P) hI hs (hev x) (hev y) hl
    refine upon_skip (w':=S'.w) ?_ (hn _ _ hx hI' (.tuple [] #[] rfl (by simp)))
    simp [execOp,hop,Instr.storeAt,hu,Instr.sureAddr,hr]
  ·cases h
 | makeSlice t l c =>
  simp only [aheap] at h
  split at h
  ·rename_i e he
   split at h
   ·rename_i k bytes ag z hs hb hg hz
    obtain ⟨v',S',hr,hx,hI',hv⟩:=amake_sound (P:=C.P) hI (elemT_some he) hs hb hz (hev l) (hev c) h
    refine upon_value (w':=S'.w) ?_ (hn _ _ hx hI' hv)
    simp [execOp,hop,hr]
   ·cases h
  ·cases h
 | convert s d x =>
  simp only [aheap] at h
  split at h
  ·rename_i e hs hd
   split at h
   ·rename_i he
    obtain ⟨v',S',hr,hx,hI',hv⟩:=cvStrH_sound (P:=C.P) hI hs hd (isU8_some he) (hev x) h
    refine upon_value (w':=S'.w) ?_ (hn _ _ hx hI' hv)
    simp [execOp,hop,hr]
   ·cases h
  ·rename_i e hs hd
   split at h
   ·rename_i he
    simp only [Bool.and_eq_true] at he
    have he:=he.2
    obtain ⟨v',S',hr,hx,hI',hv⟩:=cvRow_sound (P:=C.P) hI hs hd (isU8_some he) (hev x) h
    refine upon_value (w':=S'.w) ?_ (hn _ _ hx hI' hv)
    simp [execOp,hop,hr]
   ·cases h
  ·cases h
 | makeMap t r =>
  cases r with
  | some r=>simp [aheap] at h
  | none =>
   simp only [aheap,Option.some.injEq,Prod.mk.injEq] at h
   obtain ⟨rfl,rfl⟩:=h
   obtain ⟨h1,h2,h3⟩:=makeMap_sound (P:=C.P) t hI
   refine upon_value (w':=(S.obj H.length (.map #[] 0)).w) ?_ (hn _ _ (Ext.obj hI _) h2 h3)
   simp [execOp,hop,h1]
 | lookup t x k ck =>
  simp only [aheap] at h
  split at h
  ·rename_i d e ht
   split at h
   ·rename_i z hz
    cases hl:alookup d z ck (eval C tm x) (eval C tm k) H with
    | none=>simp [hl] at h
    | some r =>
     simp [hl] at h
     obtain ⟨rfl,rfl⟩:=h
     obtain ⟨zc,hzr,hzv⟩:=zeroT_sound hz
     obtain ⟨v',hr,hv⟩:=alookup_sound (P:=C.P) hI ht ⟨zc,hzr S.w,hzv S⟩ (hev x) (hev k) hl
     refine upon_value (w':=S.w) ?_ (hn _ _ (Ext.refl S) hI hv)
     simp [execOp,hop,hr]
   ·cases h
  ·cases h
 | mapUpdate t m k x =>
  simp only [aheap] at h
  split at h
  ·rename_i d e ht
   obtain ⟨rfl,S',hr,hx,hI'⟩:=amapSet_sound (P:=C.P) hI ht (hev m) (hev k) (hev x) h
   refine upon_skip (w':=S'.w) ?_ (hn _ _ hx hI' (.tuple [] #[] rfl (by simp)))
   simp [execOp,hop,hr]
  ·cases h
 | insert t m k x =>
  simp only [aheap] at h
  split at h
  ·rename_i d e ht
   obtain ⟨rfl,S',hr,hx,hI'⟩:=amapSet_sound (P:=C.P) hI ht (hev m) (hev k) (hev x) h
   refine upon_skip (w':=S'.w) ?_ (hn _ _ hx hI' (.tuple [] #[] rfl (by simp)))
   simp [execOp,hop,hr]
  ·cases h
 | call c =>
  obtain ⟨callee,args,argTypes⟩:=c
  cases callee with
  | invoke r m =>
   simp only [aheap] at h
   unfold ainv at h
   split at h
   ·rename_i t v0 hr0
    split at h
    ·rename_i f hm
     have hrv:=hev r
     rw [hr0] at hrv
     generalize hru:a.eval r=ru at hrv
     cases hrv with | iface _ _ u hu =>
     have hrun:=methF_run (P:=C.P) hm
     have hfn:VRel S (.fn (.func f) [v0] []) (.func (.func f) #[u] #[]):=.fn _ _ _ #[u] #[] rfl rfl (fun i x y hx hy=>by
      cases i with
      | zero=>simp at hx hy;subst hx;subst hy;exact hu
      | succ i=>simp at hx) (fun i x y hx hy=>by simp at hx)
     have hex:∀ w:World,(execOp a.eval o).run C.P w=(do let d ← Deferred.ofValue (.func (.func f) #[u] #[]) (args.map a.eval);invoke d.target d.args:Sem Next).run C.P w:=fun w=>by
      simp only [execOp,hop,resolve,hru]
      have h0:(#[Value.iface t u]++Array.map a.eval args)[0]?=some (.iface t u):=by simp [Array.getElem?_append]
      have h1:(Array.map a.eval args).extract 0 args.size=Array.map a.eval args:=by simp
      have h2:∀ w,(program:Sem Program).run C.P w=.ok C.P w:=fun w=>rfl
      have h3:C.P.types.size+Made.depth=(C.P.types.size+99)+1:=rfl
      simp [invoke,callMethod,Deferred.ofValue,h0,h1,h2,h3,Sem.run_bind,Result.andThen_ok,hrun]
     rcases acall_sound hC hcall hfn (args':=args.map a.eval) (by simp) (list_rel hev args) h hI hG with ⟨v',g1,g2,rfl⟩ | ⟨id,as,h1,h2⟩
     ·exact upon_value (w':=S.w) ((hex S.w).trans g1) (hn _ _ (Ext.refl S) hI g2)
     unfold Oper.wp
     rw [(hex S.w).trans (h1 S.w)]
     simp only [Oper.upon]
     refine h2.mono fun e w' h3=>?_
     obtain ⟨v',S',rfl,rfl,hx,hI',hv⟩:=h3
     exact hn v' S' hx hI' hv
    ·cases h
   ·cases h
  | builtin b =>
   cases b <;> first
    | (simp [aheap] at h;done)
    | skip
   rotate_left
   ·simp only [aheap] at h
    split at h
    ·rename_i d x dt xt ha ht
     obtain rfl:=two_of_toList ha
     obtain rfl:=two_of_toList ht
     split at h
     ·rename_i e he
      split at h
      ·rename_i k hs
       split at h
       ·rename_i hk0
        obtain ⟨v',S',hr,hx,hI',hv⟩:=acopy_sound (P:=C.P) (ty:=o.type) (xt:=xt) hI hk0 (elemT_some he) hs (hev d) (hev x) h
        refine upon_value (w':=S'.w) ?_ (hn _ _ hx hI' hv)
        simp [execOp,hop,resolve,invoke,builtin,hr]
       ·cases h
      ·cases h
     ·cases h
    ·cases h
   ·simp only [aheap] at h
    split at h
    ·rename_i m k t xt ha ht
     obtain rfl:=two_of_toList ha
     obtain rfl:=two_of_toList ht
     split at h
     ·rename_i d e hmt
      obtain ⟨rfl,S',hr,hx,hI'⟩:=amapDel_sound (P:=C.P) (xt:=xt) (ty:=o.type) hI hmt (hev m) (hev k) h
      refine upon_value (w':=S'.w) ?_ (hn _ _ hx hI' (.tuple [] #[] rfl (by simp)))
      simp [execOp,hop,resolve,invoke,builtin,hr]
     ·cases h
    ·cases h
   ·simp only [aheap] at h
    split at h
    ·rename_i x t ha ht
     obtain rfl:=one_of_toList ha
     obtain rfl:=one_of_toList ht
     split at h
     ·rename_i p hmt
      obtain ⟨d,e⟩:=p
      cases hl:alenM (eval C tm x) H with
      | none=>simp [hl] at h
      | some r =>
       simp [hl] at h
       obtain ⟨rfl,rfl⟩:=h
       obtain ⟨v',hr,hv⟩:=alenM_sound (P:=C.P) hI hmt (hev x) hl o.type
       refine upon_value (w':=S.w) ?_ (hn _ _ (Ext.refl S) hI hv)
       simp [execOp,hop,resolve,invoke,builtin,hr]
     ·cases h
    ·cases h
   simp only [aheap] at h
   split at h
   ·rename_i s x st xt ha ht
    obtain rfl:=two_of_toList ha
    obtain rfl:=two_of_toList ht
    split at h
    ·rename_i e xd he hxd
     split at h
     ·cases h
     ·rename_i hxi
      split at h
      ·rename_i k bytes hs hb
       split at h
       ·rename_i hk0
        simp only [Bool.and_eq_true,decide_eq_true_eq] at hk0
        obtain ⟨hk0,hzo⟩:=hk0
        have hxi':appendable xd=true:=by simpa using hxi
        have hz:∃ z,∀ w:World,(zeroValue e).run C.P w=.ok z w∧z.cells.size=k:=by
         unfold zeroOk at hzo
         split at hzo
         ·rename_i z hz
          simp only [Bool.and_eq_true,beq_iff_eq] at hzo
          obtain ⟨zc,hzr,hzv⟩:=zeroT_sound hz
          exact ⟨zc,fun w=>⟨hzr w,by rw [((hzv S).cells hzo.1).size];exact hzo.2⟩⟩
         ·cases hzo
        split at h
        ·rename_i ag hag
         unfold aappEL at h
         split at h
         ·rename_i xs hxs
          obtain ⟨v',S',hr,hx,hI',hv⟩:=aappL_sound (P:=C.P) (ty:=o.type) hI hk0 (elemT_some he) hxd hxi' hs hb hz (hev s) (hev x) hxs h
          refine upon_value (w':=S'.w) ?_ (hn _ _ hx hI' hv)
          simp [execOp,hop,resolve,invoke,builtin,hr]
         ·cases h
        unfold aappE at h
        split at h
        ·rename_i xs hxs
         obtain ⟨v',S',hr,hx,hI',hv⟩:=aappend_sound (P:=C.P) (ty:=o.type) hI hk0 (elemT_some he) hxd hxi' hs hb hz (hev s) (hev x) hxs h
         refine upon_value (w':=S'.w) ?_ (hn _ _ hx hI' hv)
         simp [execOp,hop,resolve,invoke,builtin,hr]
        ·cases h
       ·cases h
      ·cases h
    ·cases h
   ·cases h
  | value f =>
   simp only [aheap] at h
   rcases acall_sound hC hcall (hev f) (args':=args.map a.eval) (by simp) (list_rel hev args) (acallE_sub h) hI hG with ⟨v',g1,g2,rfl⟩ | ⟨id,as,h1,h2⟩
   ·refine upon_value (w':=S.w) ?_ (hn _ _ (Ext.refl S) hI g2)
    simp only [execOp,hop,resolve]
    exact g1
   unfold Oper.wp
   have hr:(execOp a.eval o).run C.P S.w=.ok (.enter id as) S.w:=by
    have:=h1 S.w
    simp only [execOp,hop,resolve]
    exact this
   rw [hr]
   simp only [Oper.upon]
   refine h2.mono fun e w' h3=>?_
   obtain ⟨v',S',rfl,rfl,hx,hI',hv⟩:=h3
   exact hn v' S' hx hI' hv
 | _=>simp [aheap] at h
end
end Go.Am
