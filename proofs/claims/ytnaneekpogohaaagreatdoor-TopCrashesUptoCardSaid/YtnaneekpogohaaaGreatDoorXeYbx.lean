/- What the rows' listed variables give to the machine -/
import Derived.Test.YtnaneekpogohaaaGreatDoorXeGx
import Derived.Test.YtnaneekpogohaaaGreatDoorHmVx
import Derived.Lib.LaidTab
import Derived.Stop.LaidErr
import Derived.Test.YtnaneekpogohaaaGreatDoorRows
open List renaming mem_map->zA
namespace Go.Am
open Go.Proofs Go.Lib
set_option maxRecDepth 100000
abbrev lvF : List (String × DataW Unit) := [("unicode/utf8.first", YtnaneekpogohaaaGreatDoor.Rows.laid_unicode_utf8_first)]
abbrev lvC : List (String × DataW Unit) := ("texttools/frame.table", YtnaneekpogohaaaGreatDoor.Rows.laid_texttools_frame_table) :: lvF
abbrev lvU : List (String × DataW Unit) := ("unicode/utf8.acceptRanges", YtnaneekpogohaaaGreatDoor.Rows.laid_unicode_utf8_acceptRanges) :: lvC
abbrev lvP : List (String × DataW Unit) := ("internal/strconv.uint64pow10", YtnaneekpogohaaaGreatDoor.Rows.laid_internal_strconv_uint64pow10) :: lvU
abbrev Zzm : List (String × DataW Unit) := ("math/bits.deBruijn32tab", YtnaneekpogohaaaGreatDoor.Rows.laid_math_bits_deBruijn32tab) :: ("math/bits.deBruijn64tab", YtnaneekpogohaaaGreatDoor.Rows.laid_math_bits_deBruijn64tab) :: lvP
theorem Znw {W:World}{name:String}{k:IntKind}{j:List Int}{g:Nat}(h:TabIs Tryz.prog W name k j)(u:Tryz.prog.globalNamed name=some g) :
 ∃ el fr,W.heap[g]?=some (.cells (j.map (Value.int k)).toArray el fr):=by
 unfold TabIs World.var? at h;rw[u]at h;simp only[Option.bind_some]at h;split at h
 ·rename_i vs el fr w;injection h with h;subst h;exact⟨el,fr,w⟩
 ·cases h
theorem ZsZ {W:World}(h:laidMet Tryz.prog Zzm W):GlobOk cfg (start W):=by
 have h3:=h.tail.tail
 have hp : TabIs Tryz.prog W "internal/strconv.uint64pow10" .u64 Lib.pow10Tab :=
  tabIs_of_head (g:=4) (t:=269) (e:=30) (n:=20) (by kernel_rfl) (by kernel_rfl) (by kernel_rfl) (by kernel_rfl) (by kernel_rfl) (by kernel_rfl) (rest:=lvU) h3
 have hc : TabIs Tryz.prog W "texttools/frame.table" .u32 crcTab :=
  tabIs_of_head (g:=3) (t:=267) (e:=184) (n:=16) (by kernel_rfl) (by kernel_rfl) (by kernel_rfl) (by kernel_rfl) (by kernel_rfl) (by kernel_rfl) (rest:=lvF) h3.tail.tail
 refine Zqz fun g cs hg=>?_
 have key:∀ (k:IntKind) (zs:List Int),(∃ el fr,W.heap[g]?=some (.cells (zs.map (Value.int k)).toArray el fr))->cs=zs.map (AV.int k) ->
  Sc 0 (.vp cs)/\cs.all AV.isCell=true/\∃ (c:Array Value) (el:TypeId) (fr:Nat×Nat),W.heap[g]?=some (.cells c el fr)/\c.size=cs.length/\∀ (i:Nat) (x:AV) (v:Value),cs[i]?=some x->c[i]?=some v->VRel (start W) x v:=by
  rintro k zs ⟨el,fr,hh⟩ rfl
  refine⟨.vp _ fun c hc=>?_,?_,_,el,fr,hh,by simp,fun i c v hc hv=>?_⟩
  ·obtain⟨z,_,rfl⟩:=zA.1 hc;exact .int _ _
  ·refine List.all_eq_true.2 fun c hc=>?_;obtain⟨z,_,rfl⟩:=zA.1 hc;rfl
  ·simp only[List.getElem?_map,Option.map_eq_some_iff,List.getElem?_toArray]at hc hv;obtain⟨z,hz,rfl⟩:=hc;obtain⟨z',hz',rfl⟩:=hv;rw[hz]at hz';injection hz' with hz';subst hz';exact .int _ _
 have hg:TE g=some cs:=hg;unfold TE at hg;split at hg
 ·rename_i hg3;subst hg3;injection hg with hg;exact key .u64 _ (Znw hp (by kernel_rfl)) hg.symm
 ·split at hg
  ·rename_i hg1;subst hg1;injection hg with hg;exact key .u32 _ (Znw hc (by kernel_rfl)) hg.symm
  ·cases hg
end Go.Am
