/- What the rows' listed variables give to the machine -/
import Derived.Test.YtjmhpjoedfegkaaGreatDoorRwGx
import Derived.Test.YtjmhpjoedfegkaaGreatDoorHmVx
import Derived.Lib.LaidTab
import Derived.Stop.LaidErr
import Derived.Test.YtjmhpjoedfegkaaGreatDoorRows
open Option renaming some->O
open List renaming mem_map->zA
namespace Go.Am
open Go.Proofs Go.Lib
set_option maxRecDepth 100000
abbrev lvF : List (String × DataW Unit) := [("unicode/utf8.first", YtjmhpjoedfegkaaGreatDoor.Rows.laid_unicode_utf8_first)]
abbrev lvC : List (String × DataW Unit) := ("texttools/frame.table", YtjmhpjoedfegkaaGreatDoor.Rows.laid_texttools_frame_table) :: lvF
abbrev lvU : List (String × DataW Unit) := ("unicode/utf8.acceptRanges", YtjmhpjoedfegkaaGreatDoor.Rows.laid_unicode_utf8_acceptRanges) :: lvC
abbrev lvP : List (String × DataW Unit) := ("internal/strconv.uint64pow10", YtjmhpjoedfegkaaGreatDoor.Rows.laid_internal_strconv_uint64pow10) :: lvU
abbrev ZAz : List (String × DataW Unit) := ("math/bits.deBruijn32tab", YtjmhpjoedfegkaaGreatDoor.Rows.laid_math_bits_deBruijn32tab) :: ("math/bits.deBruijn64tab", YtjmhpjoedfegkaaGreatDoor.Rows.laid_math_bits_deBruijn64tab) :: lvP
theorem Zo1 {W:World}{name:String}{k:IntKind}{j:List Int}{g:Nat}(h:TabIs Tryz.prog W name k j)(u:Tryz.prog.globalNamed name=O g) :
 ∃ el fr,W.heap[g]?=O (.cells (j.map (Value.int k)).toArray el fr):=by
 unfold TabIs World.var? at h;rw[u]at h;simp only[Option.bind_some]at h;split at h
 ·rename_i vs el fr w;injection h with h;subst h;exact⟨el,fr,w⟩
 ·cases h
theorem ZtI {W:World}(h:laidMet Tryz.prog ZAz W):GlobOk cfg (start W):=by
 have h3:=h.tail.tail
 have hp : TabIs Tryz.prog W "internal/strconv.uint64pow10" .u64 Lib.pow10Tab :=
  tabIs_of_head (g:=2) (t:=234) (e:=65) (n:=20) dz dz dz dz dz dz (rest:=lvU) h3
 have hc : TabIs Tryz.prog W "texttools/frame.table" .u32 crcTab :=
  tabIs_of_head (g:=0) (t:=216) (e:=180) (n:=16) dz dz dz dz dz dz (rest:=lvF) h3.tail.tail
 refine Zr7 fun g cs hg=>?_
 have key:∀ (k:IntKind) (zs:List Int),(∃ el fr,W.heap[g]?=some (.cells (zs.map (Value.int k)).toArray el fr))->cs=zs.map (AV.int k) ->
  Sc 0 (.vp cs)/\cs.all AV.isCell=true/\∃ (c:Array Value) (el:TypeId) (fr:Nat×Nat),W.heap[g]?=some (.cells c el fr)/\c.size=cs.length/\∀ (i:Nat) (x:AV) (v:Value),cs[i]?=some x->c[i]?=some v->VRel (start W) x v:=by
  rintro k zs ⟨el,fr,hh⟩ rfl
  refine⟨.vp _ fun c hc=>?_,?_,_,el,fr,hh,by simp,fun i c v hc hv=>?_⟩
  ·obtain⟨z,_,rfl⟩:=zA.1 hc;exact .int _ _
  ·refine List.all_eq_true.2 fun c hc=>?_;obtain⟨z,_,rfl⟩:=zA.1 hc;rfl
  ·simp only[List.getElem?_map,Option.map_eq_some_iff,List.getElem?_toArray]at hc hv;obtain⟨z,hz,rfl⟩:=hc;obtain⟨z',hz',rfl⟩:=hv;rw[hz]at hz';injection hz' with hz';subst hz';exact .int _ _
 have hg:My g=some cs:=hg;unfold My at hg;split at hg
 ·rename_i hg3;subst hg3;injection hg with hg;exact key .u64 _ (Zo1 hp dz) hg.symm
 ·split at hg
  ·rename_i hg1;subst hg1;injection hg with hg;exact key .u32 _ (Zo1 hc dz) hg.symm
  ·cases hg
end Go.Am
