/-
  slices.Sort of a row of integers, told as a function of the machine: the row, sorted, in the same place.
-/
import Derived.Test.YtpahcdhligjdiaaKmSx
import Derived.Shelf.Sort.Plain
import Derived.Shelf.Slices.In.SortNone
import Derived.Shelf.Lay
import Derived.Ground.NamesProg
import Derived.Sort.OwnSorted
import Derived.Test.YtpahcdhligjdiaaProg
namespace Go.Proofs
open Go.Shelf Go.RowKit
shelf_lay Lays.n189 Nm 189 at Try as Try.laysSort
end Go.Proofs
namespace Go.Am
open Go.Proofs Go.RowKit Go.Lib Go.Sort
set_option linter.unusedVariables false
set_option linter.unusedSimpArgs false
set_option maxRecDepth 100000

def intsL:List AV→Option (List Int)
 | []=>some []
 | .int .i64 n :: r=>(intsL r).map (n :: ·)
 | _=>none
theorem intsL_map:∀ {l:List AV} {ls:List Int},intsL l=some ls→l=ls.map (AV.int .i64):=by
 intro l
 induction l with
 | nil=>intro ls h;simp [intsL] at h;subst h;rfl
 | cons a l ih =>
  intro ls h
  cases a with
  | int k n =>
   cases k with
   | i64 =>
    simp only [intsL,Option.map_eq_some_iff] at h
    obtain ⟨r,h1,rfl⟩:=h
    rw [List.map_cons,← ih h1]
   | _=>simp [intsL] at h
  | _=>simp [intsL] at h
theorem intsL_self:∀ ls:List Int,intsL (ls.map (AV.int .i64))=some ls:=by
 intro ls
 induction ls with
 | nil=>rfl
 | cons s ls ih=>rw [List.map_cons,intsL,ih];rfl
def sortZ (zs:List Int):List Int:=zs.mergeSort fun x y=>decide (x≤y)
theorem sortZ_len (zs:List Int):(sortZ zs).length=zs.length:=List.length_mergeSort _
def sortF (args:List AV) (H:Hp):Option (AV × Hp):=match args with
 | [.nils]=>some (.tuple [],H)
 | [.ws false 1 o e n]=>match H[o]? with
  | some (.row e' l)=>match intsL l with
   | some zs=>if e'=e∧n=l.length∧l.length≤1099511627776 then some (.tuple [],H.set o (.row e ((sortZ zs).map (AV.int .i64)))) else none
   | none=>none
  | _=>none
 | _=>none
theorem fr_unit:Frm fun H=>some (AV.tuple [],H):=fun H v H' h=>by
 simp only [Option.some.injEq,Prod.mk.injEq] at h
 obtain ⟨rfl,rfl⟩:=h
 exact ⟨Nat.le_refl _,fun o ho h=>⟨h,fun x=>rfl⟩⟩
theorem sortF_fr (args:List AV):Frm (sortF args):=by
 unfold sortF
 split
 ·exact fr_unit
 ·rename_i o e n
  intro H v H' h
  dsimp only at h
  split at h
  ·rename_i e' l ho
   split at h
   ·rename_i zs hls
    split at h
    ·rename_i hc
     simp only [Option.some.injEq,Prod.mk.injEq] at h
     obtain ⟨rfl,rfl⟩:=h
     refine ⟨by simp,fun k hk hf=>?_⟩
     have hko:k ≠ o:=fun e=>by subst e;simp [hk] at hf
     have hf':H[k]?=some .free:=by rwa [List.getElem?_set_ne (Ne.symm hko)] at hf
     refine ⟨hf',fun x=>?_⟩
     dsimp only
     rw [List.getElem?_set_ne hko,ho]
     simp only [hls,if_pos hc]
     rw [List.set_comm _ _ hko]
    ·cases h
   ·cases h
  ·cases h
 ·exact fr_none
def sortE:EffFn:=⟨sortF,sortF_fr⟩
theorem putRow_setRowI (w:World) (b:Nat) (d:Array Int) (c:Array Value) (el:TypeId) (fz:Nat × Nat) (h:w.heap[b]?=some (.cells c el fz)):putRow (Value.int .i64) w b 0 d=w.setRow b (putCells (Value.int .i64) 0 d c):=by
 unfold putRow mapBlock World.setRow
 congr 1
 refine Array.ext_getElem? fun k=>?_
 simp only [Array.getElem?_modify]
 by_cases hk:b=k
 ·subst hk
  simp [h,onCells]
 ·simp [hk]
theorem sortE_ok {C:Cfg} {gl:Nat→Option (List AV)} (hP:C.P=Try.prog) (_:∀ g,C.glob g=gl g):EffOk C 33 sortE:=by
 have hf:Try.laysSort_ren.f 189=33:=by kernel_rfl
 intro W0 S H H' args args' v hI hW hs ha h
 replace h:sortF args H=some (v,H'):=h
 obtain ⟨l'⟩:=args'
 unfold sortF at h
 rw [hP]
 split at h
 ·match l',hs with
  | [x],_ =>
   have h1:=ha 0 _ x rfl rfl
   cases h1
   simp only [Option.some.injEq,Prod.mk.injEq] at h
   obtain ⟨rfl,rfl⟩:=h
   have:=Any.slices_Sort_int_none Try.laysSort none 0 S.w
   rw [hf] at this
   refine this.mono ?_
   rintro e w' ⟨rfl,rfl⟩
   exact ⟨_,S,rfl,rfl,Ext.refl S,hI,.tuple [] #[] rfl (fun i c v h=>by cases h)⟩
 ·rename_i o e n
  match l',hs with
  | [x],_ =>
   have h1:=ha 0 _ x rfl rfl
   split at h
   ·rename_i e' l ho
    split at h
    ·rename_i zs hls
     have hl:=intsL_map hls
     subst hl
     split at h
     ·rename_i hc
      obtain ⟨he,hn,hbig⟩:=hc
      subst he
      subst hn
      simp only [Option.some.injEq,Prod.mk.injEq] at h
      obtain ⟨rfl,rfl⟩:=h
      obtain ⟨b,sz,c,el,fz,g1,g2,g3,g4,g5,g6,g7,g8,g9⟩:=hI.objs o _ ho
      rw [List.length_map] at g1 g5 hbig
      cases h1 with
      | ws _ _ _ _ _ cap b0 hr hcap =>
       rw [List.length_map] at hr hcap ⊢
       obtain ⟨e0,b1,hw0,sz0,t1,t2,t3⟩:=hr
       rw [g1] at t1
       simp only [Option.some.injEq,Prod.mk.injEq] at t1
       obtain ⟨rfl,rfl,rfl,rfl⟩:=t1
       obtain ⟨hbb,_,hcz⟩:=t3 rfl
       have hbb':b=b0:=hbb.symm
       subst hbb'
       have hel:∀ i,i < zs.length→c[i]?=some (Value.int .i64 (zs.getD i 0)):=fun i hi=>by
        have h0:c[i]?=some c[i]:=Array.getElem?_eq_getElem (by omega)
        have hv:=g6 i (.int .i64 zs[i]) c[i] (by simp [hi]) h0
        rw [h0]
        generalize c[i]=u at hv
        cases hv
        simp [List.getD,List.getElem?_eq_getElem hi]
       have hH:Holds (Value.int .i64) S.w b 0 zs.toArray:=fun j hj=>by
        have hj':j < zs.length:=by simpa using hj
        refine ⟨?_,?_⟩
        ·rw [Nat.zero_add,cell_of_row S.w b j c el fz g3,hel j hj']
         simp [List.getD,hj']
        ·rw [Nat.zero_add]
         have:=g9 j (by omega)
         simp only [World.frozen?,g3]
         simpa using this
       have hbl:b < S.w.heap.size:=(Array.getElem?_eq_some_iff.1 g3).1
       have hcon:=Any.slices_Sort_int Try.laysSort b 0 cap zs S.w hH hbl (by omega)
       rw [hf] at hcon
       refine hcon.mono ?_
       rintro ev w' ⟨rfl,q0,os,rfl⟩
       have hzl:=sortZ_len zs
       rw [show (zs.mergeSort fun x y=>decide (x≤y))=sortZ zs from rfl]
       generalize sortZ zs=ks at hzl
       have hb0:Below S.w.heap.size S.w (Sort.ahead S.w q0):=⟨rfl,rfl,rfl,Nat.le_refl _,fun _ _=>rfl⟩
       obtain ⟨r1,r2⟩:=hI.went hb0
       rw [putRow_setRowI (Sort.ahead S.w q0) b ks.toArray c el fz g3]
       have hcs:(putCells (Value.int .i64) 0 ks.toArray c).size=c.size:=by simp [putCells]
       have hcg:∀ i,i < ks.length→(putCells (Value.int .i64) 0 ks.toArray c)[i]?=some (Value.int .i64 (ks.getD i 0)):=fun i hi=>by
        have h0:i < c.size:=by omega
        simp [putCells,h0,hi,List.getD]
       generalize putCells (Value.int .i64) 0 ks.toArray c=c' at hcs hcg
       have g3':({ S with w:=Sort.ahead S.w q0 }:Snap).w.heap[b]?=some (.cells c el fz):=g3
       have g1':({ S with w:=Sort.ahead S.w q0 }:Snap).tk o=some (e',b,zs.length,sz):=g1
       have r3:=Ext.write (S:={ S with w:=Sort.ahead S.w q0 }) (b:=b) g7 c'
       have r4:=r2.writeG (y:=.row e' (ks.map (AV.int .i64))) (c':=c') ho (.inr ⟨_,_,_,g1'⟩) g2 (by simp) g7
        ⟨b,sz,c',el,fz,by rw [List.length_map,hzl];exact g1,g2,setRow_heap _ b c c' el fz g3',by omega,by rw [List.length_map];omega,fun i x v hx hv=>by
         have hi:i < ks.length:=by have:=lt_of_get hx;simpa using this
         rw [hcg i hi] at hv
         injection hv with hv
         subst hv
         simp [List.getElem?_eq_getElem hi] at hx
         subst hx
         simp only [List.getD,List.getElem?_eq_getElem hi,Option.getD_some]
         exact .int _ _,g7,by simp [List.all_map,AV.isCell,Function.comp_def],by rw [hcs];exact g9⟩
       generalize hW1:(Sort.ahead S.w q0).setRow b c'=w1 at r3 r4
       have hb2:Below w1.heap.size w1 (grow w1 os):=⟨rfl,rfl,rfl,by simp,fun i hi=>heap_grow_old _ _ hi⟩
       obtain ⟨r5,r6⟩:=r4.went hb2
       exact ⟨_,_,rfl,rfl,(r1.trans r3).trans r5,r6,.tuple [] #[] rfl (fun i c v h=>by cases h)⟩
     ·cases h
    ·cases h
   ·cases h
 ·cases h
end Go.Am
