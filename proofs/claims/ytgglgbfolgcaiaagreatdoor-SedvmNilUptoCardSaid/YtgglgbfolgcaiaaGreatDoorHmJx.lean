/-
  THE ABSTRACT MACHINE, part J: append and make.
-/
import Derived.Test.YtgglgbfolgcaiaaGreatDoorHmIx
namespace Go.Am
open RowKit

section
variable {P:Program} {S:Snap} {W0:World} {H:Hp}

theorem cell_of_heap {w w':World} (h:w'.heap=w.heap) (a:Addr):w'.cell? a=w.cell? a:=by unfold World.cell?;rw [h]

theorem flat_append (a b:List AV):flat (a++b)=flat a++flat b:=by simp [flat]

theorem isCell_cells {x:AV} (h:x.isCell=true):x.cells=[x]:=by
 cases x <;> first | rfl | (simp [AV.isCell] at h;done)
theorem all_drop {l:List AV} (h:l.all AV.isCell=true) (k:Nat):(l.drop k).all AV.isCell=true:=by
 rw [List.all_eq_true] at h ⊢
 exact fun x hx=>h x (List.mem_of_mem_drop hx)
theorem flat_chunks {ag:Bool} {k:Nat} (hag:ag=true ∨ k=1):∀ (n:Nat) (l:List AV),l.all AV.isCell=true→n * k≤l.length→flat (chunks ag k n l)=l.take (n * k)∧(∀ e ∈ chunks ag k n l,e.cells.length=k)∧(chunks ag k n l).length=n:=by
 intro n
 induction n with
 | zero=>intro l _ _;simp [chunks,flat]
 | succ n ih =>
  intro l hc hl
  have hk:n * k+k≤l.length:=by rw [Nat.succ_mul] at hl;exact hl
  obtain ⟨h1,h2,h3⟩:=ih (l.drop k) (all_drop hc k) (by simp;omega)
  have hf:∀ (a:AV) (r:List AV),flat (a :: r)=a.cells++flat r:=fun a r=>by simp [flat]
  have hfirst:(if ag then AV.agg (l.take k) else l.headD .undef).cells=l.take k:=by
   cases ag with
   | true=>rfl
   | false =>
    rcases hag with h | rfl
    ·cases h
    ·cases l with
     | nil=>simp at hk
     | cons a l =>
      have ha:a.isCell=true:=get_of_all hc (i:=0) rfl
      simp [isCell_cells ha]
  unfold chunks
  refine ⟨?_,fun e he=>?_,by simp [h3]⟩
  ·rw [hf,h1,hfirst,Nat.succ_mul,Nat.add_comm,List.take_add]
  ·rcases List.mem_cons.1 he with rfl | he
   ·rw [hfirst];simp;omega
   ·exact h2 e he

theorem elems_sound {k : Nat} {x : AV} {u : Value} {xs : List AV} (hI : Inv W0 S H) (hk : 0 < k) (hx : VRel S x u) (h : elems k x H = some xs) :
    (∀ e ∈ xs,e.cells.length=k)∧(∀ w:World,(Builtin.lenOf u).run P w=.ok xs.length w) ∧
    ∃ news:Array Value,CellsRel S (flat xs) news∧∀ w:World,w.heap=S.w.heap→(Builtin.firstCells k xs.length u).run P w=.ok news w:=by
 unfold elems at h
 split at h
 ·injection h with h;subst h
  cases hx with | nils =>
  exact ⟨by simp,fun w=>rfl,#[],⟨rfl,by simp [flat],rfl⟩,fun w _=>rfl⟩
 ·split at h
  ·rename_i k' tok l hkk
   obtain rfl:k=k':=hkk.symm
   injection h with h;subst h
   cases hx with | vs _ _ _ b off cap f hcap hke h1 h2 ht sp hsp =>
   by_cases hl0:l=[]
   ·subst hl0
    refine ⟨by simp,fun w=>rfl,#[],⟨rfl,by simp [flat],rfl⟩,fun w _=>?_⟩
    simp only [Builtin.firstCells,List.length_nil,Nat.zero_mul]
    rfl
   obtain rfl:sp=none:=hsp.resolve_right (by have:=List.length_pos_iff.2 hl0;omega)
   have hlen:∀ e ∈ l,e.cells.length=k:=fun e he=>(hke e he).1
   have hdm:∀ n,n < l.length * k→n / k < l.length∧n % k < k∧n / k * k+n % k=n:=fun n hn =>
    ⟨Nat.div_lt_of_lt_mul (by rwa [Nat.mul_comm]),Nat.mod_lt _ hk,by rw [Nat.mul_comm];exact Nat.div_add_mod n k⟩
   refine ⟨hlen,fun w=>rfl,((List.range (l.length * k)).map fun n=>f (n / k) (n % k)).toArray,⟨by simp [flat_length hlen],fun i x v hi hv=>?_,cell_flat fun e he=>(hke e he).2⟩,fun w hw=>?_⟩
   ·have hin : i < l.length * k := by
       rcases Nat.lt_or_ge i (l.length * k) with h' | h'
       ·exact h'
       ·rw [List.getElem?_eq_none (by rw [flat_length hlen];exact h')] at hi;cases hi
    obtain ⟨p1,p2,p3⟩:=hdm i hin
    simp [hin] at hv
    subst hv
    rw [← p3,flat_get hlen _ _ l[i / k] (List.getElem?_eq_getElem p1) p2] at hi
    exact h2 _ _ _ _ (List.getElem?_eq_getElem p1) hi
   ·simp only [Builtin.firstCells]
    exact run_loadCells w _ _ _ (fun n hn=>by
     obtain ⟨p1,p2,p3⟩:=hdm n hn
     rw [cell_of_heap hw,add_spot]
     have:=(h1 _ _ p1 p2).1
     rwa [Nat.add_assoc,p3] at this)
  ·cases h
 ·split at h
  ·rename_i s hkk
   subst hkk
   injection h with h;subst h
   cases hx with | str _ b hb =>
   subst hb
   have hfl:flat (b.data.toList.map fun b=>AV.int .u8 (b.toNat:Int))=b.data.toList.map fun b=>AV.int .u8 (b.toNat:Int):=by
    unfold flat
    rw [List.map_map]
    show (b.data.toList.map fun b=>[AV.int .u8 (b.toNat:Int)]).flatten=_
    induction b.data.toList with
    | nil=>rfl
    | cons a l ih=>simp [ih]
   have hlen:(b.data.toList.map fun b=>AV.int .u8 (b.toNat:Int)).length=b.size:=by rw [List.length_map];exact size_toList b
   refine ⟨fun e he=>by simp at he;obtain ⟨a,_,rfl⟩:=he;rfl,fun w=>by rw [hlen];rfl,b.data.map fun b=>.int .u8 b.toNat,⟨by rw [hfl];simp,fun i x v hi hv=>?_,cell_flat fun e he=>by simp at he;obtain ⟨a,_,rfl⟩:=he;rfl⟩,fun w _=>?_⟩
   ·rw [hfl,List.getElem?_map,Array.getElem?_toList] at hi
    rw [Array.getElem?_map] at hv
    cases hb:b.data[i]? with
    | none=>simp [hb] at hi
    | some c=>simp [hb] at hi hv;subst hi hv;exact .int _ _
   ·rw [hlen]
    simp only [Builtin.firstCells,Sem.run_pure]
    congr 1
    congr 1
    rw [ByteArray.data_extract]
    show b.data.extract 0 b.data.size=b.data
    simp
  ·cases h
 ·split at h
  ·rename_i ag k' o off len cap hc
   obtain ⟨hkk,hag⟩:=hc
   obtain rfl:k=k':=hkk.symm
   split at h
   ·rename_i cs ho
    split at h
    ·rename_i hle
     injection h with h;subst h
     cases hx with | rs _ _ _ _ _ _ b hb hlc =>
     obtain ⟨b',c,el,h1,h2,h3,h4,h5,h6,h7⟩:=hI.objs o _ ho
     rw [hb] at h1
     injection h1 with h1
     subst h1
     obtain ⟨f1,f2,f3⟩:=flat_chunks hag len (cs.drop off) (all_drop h7 off) (by simp;omega)
     have hr:CellsRel S ((cs.drop off).take (len * k)) (c.extract off (off+len * k)):=CellsRel.extract ⟨h4,h5,h7⟩ off (len * k) hle
     refine ⟨f2,fun w=>by rw [f3];rfl,c.extract off (off+len * k),by rw [f1];exact hr,fun w hw=>?_⟩
     rw [f3]
     simp only [Builtin.firstCells]
     have hl:=run_loadCells_list (P:=P) w ⟨b,off,none⟩ (c.extract off (off+len * k)).toList (fun j v hv=>by
      rw [cell_of_heap hw,add_spot,cell_of_row S.w b _ c el (0,0) h3]
      rw [Array.getElem?_toList,Array.getElem?_extract] at hv
      split at hv
      ·exact hv
      ·cases hv)
     have hsz:(c.extract off (off+len * k)).toList.length=len * k:=by rw [Array.length_toList,hr.size];simp;omega
     rw [hsz,Array.toArray_toList] at hl
     exact hl
    ·cases h
   ·cases h
  ·cases h
 ·split at h
  ·rename_i ag k' o e len hc
   obtain ⟨hkk,hag⟩:=hc
   obtain rfl:k=k':=hkk.symm
   split at h
   ·rename_i e' cs ho
    split at h
    ·rename_i hle
     obtain ⟨rfl,hle⟩:=hle
     injection h with h;subst h
     cases hx with | ws _ _ _ _ _ cap b hb hlc =>
     obtain ⟨e0,b0,hw0,sz0,q1,q2,q3⟩:=hb
     obtain ⟨b',sz',c,el,fz,h1,h2,h3,h4,h5,h6,h7,h8,h9⟩:=hI.objs o _ ho
     rw [h1] at q1
     simp only [Option.some.injEq,Prod.mk.injEq] at q1
     obtain ⟨r1,r2,r3,r4⟩:=q1
     obtain ⟨p1,p2,p3⟩:=q3 r1
     obtain rfl:b=b':=p1.trans r2.symm
     obtain ⟨f1,f2,f3⟩:=flat_chunks hag len cs h8 hle
     have hcr:CellsRel S cs (c.extract 0 cs.length):=by
      refine ⟨by simp;omega,fun i x v hi hv=>?_,h8⟩
      rw [Array.getElem?_extract] at hv
      split at hv
      ·rw [Nat.zero_add] at hv;exact h6 i x v hi hv
      ·cases hv
     have hr:CellsRel S ((cs.drop 0).take (len * k)) ((c.extract 0 cs.length).extract 0 (0+len * k)):=CellsRel.extract hcr 0 (len * k) (by omega)
     refine ⟨f2,fun w=>by rw [f3];rfl,(c.extract 0 cs.length).extract 0 (0+len * k),by rw [f1];exact hr,fun w hw=>?_⟩
     rw [f3]
     simp only [Builtin.firstCells]
     have hl:=run_loadCells_list (P:=P) w ⟨b,0,none⟩ ((c.extract 0 cs.length).extract 0 (0+len * k)).toList (fun j v hv=>by
      rw [cell_of_heap hw,add_spot,cell_of_row S.w b _ c el fz h3]
      rw [Array.getElem?_toList,Array.getElem?_extract] at hv
      split at hv
      ·rw [Array.getElem?_extract] at hv
       split at hv
       ·rw [Nat.zero_add,Nat.zero_add] at hv;rw [Nat.zero_add];exact hv
       ·cases hv
      ·cases hv)
     have hsz:((c.extract 0 cs.length).extract 0 (0+len * k)).toList.length=len * k:=by rw [Array.length_toList,hr.size];simp;omega
     rw [hsz,Array.toArray_toList] at hl
     exact hl
    ·cases h
   ·cases h
  ·cases h
 ·cases h

theorem run_bytesT {t:TypeId} {n:Nat} (h:bytesT P t=some n) (w:World):∃ i,P.info? t=some i∧i.bytes=n∧(typeInfo t).run P w=.ok i w:=by
 unfold bytesT at h
 cases hi:P.info? t with
 | none=>simp [hi] at h
 | some i=>simp [hi] at h;exact ⟨i,rfl,h,by simp [typeInfo,hi]⟩

theorem run_append_fit {st xt ty e : TypeId} {xd : TypeDesc} {k n m cap : Nat} {u : Value} {a : Addr} {news : Array Value} {w w' : World} (ht : P.underlying st = some (.slice e)) (hxd : P.underlying xt = some xd) (hxi : appendable xd = true)
    (hs:szT P e=some k) (hlen:(Builtin.lenOf u).run P w=.ok m w) (hnew:(Builtin.firstCells k m u).run P w=.ok news w) (hfit:n+m≤cap) (hst:(storeCells (a.add (n * k)) news.toList).run P w=.ok () w') :
    (Builtin.append_ #[st,xt] ty #[.slice (some a) n cap,u]).run P w=.ok (.slice (some a) (n+m) cap) w':=by
 cases xd <;> first
  | (simp [appendable] at hxi;done)
  | simp [Builtin.append_,run_underlying ht,run_underlying hxd,run_szT hs,hlen,hfit,hnew,hst]

theorem run_append_nilfit {st xt ty e : TypeId} {xd : TypeDesc} {k : Nat} {u : Value} {news : Array Value} {w : World} (ht : P.underlying st = some (.slice e)) (hxd : P.underlying xt = some xd) (hxi : appendable xd = true)
    (hs:szT P e=some k) (hlen:(Builtin.lenOf u).run P w=.ok 0 w) (hnew:(Builtin.firstCells k 0 u).run P w=.ok news w) :
    (Builtin.append_ #[st,xt] ty #[.slice none 0 0,u]).run P w=.ok (.slice none 0 0) w:=by
 cases xd <;> first
  | (simp [appendable] at hxi;done)
  | simp [Builtin.append_,run_underlying ht,run_underlying hxd,run_szT hs,hlen,hnew]

theorem run_append_more {st xt ty e : TypeId} {xd : TypeDesc} {k n m cap bytes : Nat} {u z : Value} {base : Option Addr} {old news : Array Value} {w : World} (ht : P.underlying st = some (.slice e)) (hxd : P.underlying xt = some xd) (hxi : appendable xd = true)
    (hs:szT P e=some k) (hb:bytesT P e=some bytes) (hz:∀ w:World,(zeroValue e).run P w=.ok z w) (hlen:(Builtin.lenOf u).run P w=.ok m w) (hmore:cap < n+m) (hsmall:(n+m) * (bytes+1)≤140737488355328)
    (hold:(Builtin.firstCells k n (.slice base n cap)).run P w.drew=.ok old w.drew) (hnew:(Builtin.firstCells k m u).run P w.drew=.ok news w.drew) :
    (Builtin.append_ #[st,xt] ty #[.slice base n cap,u]).run P w =
     .ok (.slice (some ⟨w.heap.size,0,none⟩) (n+m) (grownCap w (n+m) cap e)) (w.drew.alloc (.cells (old++news++Builtin.zeroCells z.cells (grownCap w (n+m) cap e - (n+m))) e)):=by
 obtain ⟨i,hi,hib,hit⟩:=run_bytesT hb w
 subst hib
 have h1:¬ (n+m≤cap):=by omega
 have hbb:(n+m) * i.bytes≤140737488355328:=Nat.le_trans (Nat.mul_le_mul_left _ (Nat.le_succ _)) hsmall
 have hnn:n+m≤140737488355328:=Nat.le_trans (Nat.le_mul_of_pos_right _ (Nat.succ_pos _)) hsmall
 have h2:=growslice_fits hmore hbb
 have h3:¬ (281474976710656 < Builtin.nextslicecap (n+m) cap * i.bytes):=by omega
 have h5:¬ (9223372036854775807 < ((n:Int)+(m:Int))):=by omega
 cases xd <;> first
  | (simp [appendable] at hxi;done)
  | simp [Builtin.append_,run_underlying ht,run_underlying hxd,run_szT hs,hlen,h1,typeInfo,hi,h3,h5,hz,hold,hnew,Question.forced,newRow,grownCap]
end
end Go.Am
