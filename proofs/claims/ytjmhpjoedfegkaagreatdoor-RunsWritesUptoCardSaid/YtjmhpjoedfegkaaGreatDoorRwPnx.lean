/- The names of a store's files -/
import Derived.Shelf.Sort.Plain
import Derived.Shelf.Slices.In.SortNone
import Derived.Shelf.Lay
import Derived.Ground.NamesProg
import Derived.Sort.KeysCollected
import Derived.Sort.OwnSorted
import Derived.Maps.RangeWalk
import Derived.Maps.AppendAt
import Derived.WalkKit
import Derived.Test.YtjmhpjoedfegkaaGreatDoorProg
open Nat renaming le_refl->zA
namespace Go.Proofs
open Go.Shelf Go.RowKit Go.Maps Go.Sort
shelf_lay Lays.n190 Nm 190 at Tryz as Tryz.laysSort
theorem Tryz.law9:Keyed Tryz.prog 9:=string_keyed Tryz.underlying9
theorem Tryz.info9:(Tryz.prog.info? 9).map (λi=>(i.zero,i.size,i.bytes))=some (some (.string ⟨#[]⟩),1,16):=by kernel_rfl
def F3:Value->Option (DataW Unit×List MemPlace):=λ_=>some (.nil,[])
theorem Zzh (blk off cap:Nat)(ss:List (List UInt8))(w:World)(hH:Holds encStr w blk off ss.toArray)(hblk:blk<w.heap.size)(hsz:ss.length<4611686018427387904) :
 Calls Tryz.prog 83 #[.slice (some ⟨blk,off,none⟩) ss.length cap] w λe w' =>
  e=.returned (.tuple #[])/\∃ n os,w'=grow (putRow encStr (Sort.ahead w n) blk off (ss.mergeSort λx y=>decide (x<=y)).toArray) os:=by
 have h:=Any.slices_Sort_string Tryz.laysSort blk off cap ss w hH hblk hsz;have hf:Tryz.laysSort_ren.f 190=83:=by kernel_rfl
 rwa [hf]at h
theorem Zv6 (p:Option Addr)(cap:Nat)(w:World):Calls Tryz.prog 83 #[.slice p 0 cap] w λe w'=>e=.returned (.tuple #[])/\w'=w:=by
 have h:=Any.slices_Sort_string_none Tryz.laysSort p cap w;have hf:Tryz.laysSort_ren.f 190=83:=by kernel_rfl
 rwa [hf]at h
set_option maxRecDepth 100000 in
set_option maxHeartbeats 2000000 in
theorem Zuc (b bm n:Nat)(D0:DataW Unit)(w:World)(hc:w.cell? ⟨b,3,none⟩=some (.map (some bm)))(hown:w.ownsMap Tryz.prog 9 F3 bm n D0)(hmax:Maps.size D0<=1048576) :
 Calls Tryz.prog 40 #[.pointer (some ⟨b,0,none⟩)] w λe w'=>∃ (v:Value) (ss:List (List UInt8)),e=.returned v/\ss.Perm (strKeys D0)/\(ss=[]->v=.slice none 0 0) /\
  w'.ownsRow w.heap.size 9 1 v ss.length ((ss.mergeSort leB).map encStr)/\Below w.heap.size w w':=by
 obtain⟨i0,hi,hz0,hz1,hz2⟩:=info_parts Tryz.info9;have hbl:=hown.lt;have t76:=Tryz.underlying76;have u76:=run_underlying Tryz.underlying76;have t74:=Tryz.underlying74;have a74:=Tryz.isAgg74;have z74:=Tryz.sizeOf74;have u74:=run_underlying Tryz.underlying74;have t27:=Tryz.underlying27;have u27:=run_underlying Tryz.underlying27;have t9:=Tryz.underlying9;have a9:=Tryz.isAgg9;have z9:=Tryz.sizeOf9;have u9:=run_underlying Tryz.underlying9;have v9:=Tryz.zeroValue9;have e83:∀ args w,(callFunc 83 args).run Tryz.prog w=.ok (.enter 83 args) w:=enters_of Tryz.func83 (by kernel_rfl) rfl
 go_enter Tryz.func40,Tryz.ntmps40
 go_wp2_with (first
  |(at_range;refine wpList_range_own _ rfl _ 74 rfl 9 98 Tryz.law9 Tryz.underlying74 F3 bm n _ rfl hown ?_;intro w0 hrg0 hg0 hs0)
  |go_in)
 go_frame
 go_loopw [3] (λv wr=>∃ (left:Lit->Bool) (cnt:Nat) (ss:List (List UInt8)),wr.ranges Tryz.prog 9 F3 bm w.heap.size n D0 left cnt/\ss.length+cnt<=Maps.size D0 /\
  (ss=[]->v=.slice none 0 0)/\wr.ownsRow w.heap.size 9 1 v ss.length (ss.map encStr)/\Collected D0 left ss/\Below w.heap.size w wr)
  (λ_ wr=>wr.rangeLeft bm w.heap.size)
 case atStart =>
  exact⟨_,_,[],hrg0,by simp,λ_=>rfl,⟨by simp,.inl ⟨rfl,rfl⟩⟩,Collected.start D0,(Below.refl _ _).grown hg0 (zA _) (λj hj=>by cases hj)⟩
 case round =>
  obtain⟨left,cnt,ss,hrg,hcs,hnn,hrow,hC,hnx⟩:=hrel
  go_wp2_with (first
   |(at_next;refine wpList_next_ranges _ rfl _ rfl 9 Tryz.law9 F3 encStr (λv:Value=>v) (λkey kl hk=>by obtain⟨x,hx,_⟩:=Maps.keyOf_str Tryz.underlying9 hk;exact⟨x,hx⟩) (λv y hv=>⟨v,rfl⟩) bm w.heap.size n _ _ _ rfl hrg ?_ ?_)
   |go_in)
  ·intro hc0 hl0;have hP:=hC.perm hown Tryz.law9 Tryz.underlying9 hl0;rcases hrow.2 with ⟨rfl,h0⟩|⟨g,cap,cur,rfl,hbase,hb,h1,h2,h3,h4⟩
   ·have hss:ss=[]:=List.length_eq_zero_iff.1 h0;subst hss
    go_wp2_with (go_at_fn 83;refine (Zv6 none 0 wr).mono ?_;rintro e w' ⟨rfl,rfl⟩)
    go_ret
    exact⟨.slice none 0 0,[],rfl,hP,λ_=>rfl,by rw[List.mergeSort_nil];exact hrow,hnx⟩
   ·have hH:Holds encStr wr g 0 ss.toArray:=holds_of_block hb (by simpa using h4);have hgl:g<wr.heap.size:=(Array.getElem?_eq_some_iff.1 hb).1;have hs:=Zzh g 0 cap ss wr hH hgl (by omega)
    go_wp2_with (go_at_fn 83;refine hs.mono ?_;rintro e w' ⟨rfl,nn,os,rfl⟩)
    go_ret
    exact⟨_,ss,rfl,hP,hnn,ownsRow_sorted (by simp) hbase hb h1 h2 h3,hnx.grown (grownBy_sorted _) hnx.size (λj hj=>by cases hj;exact hbase)⟩
  ·intro x c kl yd yp w2 cnt2 hkey hlk hv hat hrg2 hlt hg2 hs2 hen;obtain⟨x',ex,rfl,_⟩:=Maps.keyOf_str Tryz.underlying9 hkey;obtain rfl:x=x':=encStr_inj ex;have hrow2:=hrow.kept hg2 (Or.inr (row_ne_iter hrow hrg).symm);clear hs2
   go_wp2_with (first
    |(at_builtin;refine wpList_append_own _ rfl _ _ 27 rfl w.heap.size 9 i0 (.string ⟨#[]⟩) 1 16 Tryz.underlying27 hi hz0 hz1 hz2 rfl (by decide) _ _ _ rfl (hrow2.alloc _) ⟨w2.heap.size,0,none⟩ 1 1 [encStr x] rfl rfl (cell_one_new _ _ _) (by simp[Value.oneCell',encStr]) (by unfold maxLen at *;omega) (by omega) (by have:=hnx.size;have:=hg2.size;simp;omega) ?_;intro v' w3 hown' hg3 hnil3;go_frame)
    |go_in)
   have hrg3:=(hrg2.alloc _).kept hg3 (row_ne_low hrow2 hbl) (row_ne_iter hrow2 hrg2)
   go_roundw
   case rel =>
    refine⟨_,cnt2,ss++[x],hrg3,by simp;omega,λh=>by simp at h,by simpa using hown',hC.step hlk hat,?_⟩;exact ((hnx.grown hg2 hnx.size (λj hj=>by cases hj;exact zA _)).alloc (by have:=hnx.size;have:=hg2.size;omega) _).grown hg3 (by have:=hnx.size;have:=hg2.size;simp;omega) (λj hj=>(hrow2.lt j hj).1)
   case measure=>rw[hrg3.left_eq,hrg.left_eq];exact hlt
end Go.Proofs
