/-
  NARROWER THAN 'FOR EVERY INPUT', by the rows' own cells (each row's printed sentence says how): MemsortMerges: laid · RunsSplits: laid · RunsDivide: laid · RunsSort: laid · RunsPeeks: laid · MergePlans: laid · MergeGroups: laid · MergeNexts: laid · MergeOrders: laid · RunsWrites: laid · MergeFails: laid · MergeFiles: laid.
  DERIVED. THE GIVEN ROWS OF THIS SEAT. 12 by the template 'for every input the law returns true; each argument reads behind the call as it read before'; 0 by the template 'total and deterministic' (their statements: YtehanadfidoodaaGreatDoorTotals.lean).
  GIVEN WITH THE SEED: the statements are not yours to turn. If you find one false, say at which input.
  Laid BY PROGRAM, IN A SANDBOX (cutbox-rows.mjs): the forced cells as the released guide's own fill.sh prints them over the translation ef9598ab3b563f70… (all of the seat's roots in one cut). By AI agents, Wed Nov 11 2026. No macro, syntax, notation, axiom, sorry.
-/
import Derived.Test.YtehanadfidoodaaGreatDoorChecked
import GoSem.PinnedTables
import GoSem.Claim
import GoSem.ClaimJoined
import GoSem.ClaimMapViews
import Derived.JoinedTies
import Derived.KernelRfl
namespace Go.Proofs.YtehanadfidoodaaGreatDoor
/- THE CELL 'sum', in the pinned program and in every row, IS THE sha256 OF THE DUMP (.gsa) THAT YtehanadfidoodaaGreatDoorProg.lean LOADS. Nothing in Lean hashes anything: it is a label: what it is worth is what the hold of that sum in a sandbox is worth. -/
noncomputable def Tryz.pinned : Pinned := { name := "ytehanadfidoodaagreatdoor", sum := "ef9598ab3b563f70593b83d60821796dcd9f80ce31a10f7e97334fc940439708", checked := Tryz.checked }
namespace Rows
def none {H : Type} : Left H := { results := [], args := [] }

/- WHAT THE LISTED PACKAGE-LEVEL VARIABLES READ AS WHEN THE CALL BEGINS. Each datum BY PROGRAM (the guide's laid-datum.mjs) off the statement by which the dump's own 'gosem.cut.vars' lays the variable. In a bare row this is a premise. The card (YtehanadfidoodaaGreatDoorCards.lean) ties it to the program's text. -/
def laid_unicode_utf8_acceptRanges {H : Type} : DataW H := .agg [.agg [.lit (.int .u8 128), .lit (.int .u8 191)], .agg [.lit (.int .u8 160), .lit (.int .u8 191)], .agg [.lit (.int .u8 128), .lit (.int .u8 159)], .agg [.lit (.int .u8 144), .lit (.int .u8 191)], .agg [.lit (.int .u8 128), .lit (.int .u8 143)], .agg [.lit (.int .u8 0), .lit (.int .u8 0)], .agg [.lit (.int .u8 0), .lit (.int .u8 0)], .agg [.lit (.int .u8 0), .lit (.int .u8 0)], .agg [.lit (.int .u8 0), .lit (.int .u8 0)], .agg [.lit (.int .u8 0), .lit (.int .u8 0)], .agg [.lit (.int .u8 0), .lit (.int .u8 0)], .agg [.lit (.int .u8 0), .lit (.int .u8 0)], .agg [.lit (.int .u8 0), .lit (.int .u8 0)], .agg [.lit (.int .u8 0), .lit (.int .u8 0)], .agg [.lit (.int .u8 0), .lit (.int .u8 0)], .agg [.lit (.int .u8 0), .lit (.int .u8 0)]]
/-- One of Go's own tables, pinned by name: the form's constant. -/
def laid_unicode_utf8_first : DataW Unit := Go.Pinned.utf8First
def laid_math_bits_deBruijn32tab {H : Type} : DataW H := .agg [.lit (.int .u8 0), .lit (.int .u8 1), .lit (.int .u8 28), .lit (.int .u8 2), .lit (.int .u8 29), .lit (.int .u8 14), .lit (.int .u8 24), .lit (.int .u8 3), .lit (.int .u8 30), .lit (.int .u8 22), .lit (.int .u8 20), .lit (.int .u8 15), .lit (.int .u8 25), .lit (.int .u8 17), .lit (.int .u8 4), .lit (.int .u8 8), .lit (.int .u8 31), .lit (.int .u8 27), .lit (.int .u8 13), .lit (.int .u8 23), .lit (.int .u8 21), .lit (.int .u8 19), .lit (.int .u8 16), .lit (.int .u8 7), .lit (.int .u8 26), .lit (.int .u8 12), .lit (.int .u8 18), .lit (.int .u8 6), .lit (.int .u8 11), .lit (.int .u8 5), .lit (.int .u8 10), .lit (.int .u8 9)]
def laid_math_bits_deBruijn64tab {H : Type} : DataW H := .agg [.lit (.int .u8 0), .lit (.int .u8 1), .lit (.int .u8 56), .lit (.int .u8 2), .lit (.int .u8 57), .lit (.int .u8 49), .lit (.int .u8 28), .lit (.int .u8 3), .lit (.int .u8 61), .lit (.int .u8 58), .lit (.int .u8 42), .lit (.int .u8 50), .lit (.int .u8 38), .lit (.int .u8 29), .lit (.int .u8 17), .lit (.int .u8 4), .lit (.int .u8 62), .lit (.int .u8 47), .lit (.int .u8 59), .lit (.int .u8 36), .lit (.int .u8 45), .lit (.int .u8 43), .lit (.int .u8 51), .lit (.int .u8 22), .lit (.int .u8 53), .lit (.int .u8 39), .lit (.int .u8 33), .lit (.int .u8 30), .lit (.int .u8 24), .lit (.int .u8 18), .lit (.int .u8 12), .lit (.int .u8 5), .lit (.int .u8 63), .lit (.int .u8 55), .lit (.int .u8 48), .lit (.int .u8 27), .lit (.int .u8 60), .lit (.int .u8 41), .lit (.int .u8 37), .lit (.int .u8 16), .lit (.int .u8 46), .lit (.int .u8 35), .lit (.int .u8 44), .lit (.int .u8 21), .lit (.int .u8 52), .lit (.int .u8 32), .lit (.int .u8 23), .lit (.int .u8 11), .lit (.int .u8 54), .lit (.int .u8 26), .lit (.int .u8 40), .lit (.int .u8 15), .lit (.int .u8 34), .lit (.int .u8 20), .lit (.int .u8 31), .lit (.int .u8 10), .lit (.int .u8 25), .lit (.int .u8 14), .lit (.int .u8 19), .lit (.int .u8 9), .lit (.int .u8 13), .lit (.int .u8 8), .lit (.int .u8 7), .lit (.int .u8 6)]
def laid_internal_strconv_uint64pow10 {H : Type} : DataW H := .agg [.lit (.int .u64 1), .lit (.int .u64 10), .lit (.int .u64 100), .lit (.int .u64 1000), .lit (.int .u64 10000), .lit (.int .u64 100000), .lit (.int .u64 1000000), .lit (.int .u64 10000000), .lit (.int .u64 100000000), .lit (.int .u64 1000000000), .lit (.int .u64 10000000000), .lit (.int .u64 100000000000), .lit (.int .u64 1000000000000), .lit (.int .u64 10000000000000), .lit (.int .u64 100000000000000), .lit (.int .u64 1000000000000000), .lit (.int .u64 10000000000000000), .lit (.int .u64 100000000000000000), .lit (.int .u64 1000000000000000000), .lit (.int .u64 10000000000000000000)]
def laid_texttools_frame_table {H : Type} : DataW H := .agg [.lit (.int .u32 0), .lit (.int .u32 498536548), .lit (.int .u32 997073096), .lit (.int .u32 651767980), .lit (.int .u32 1994146192), .lit (.int .u32 1802195444), .lit (.int .u32 1303535960), .lit (.int .u32 1342533948), .lit (.int .u32 3988292384), .lit (.int .u32 4027552580), .lit (.int .u32 3604390888), .lit (.int .u32 3412177804), .lit (.int .u32 2607071920), .lit (.int .u32 2262029012), .lit (.int .u32 2685067896), .lit (.int .u32 3183342108)]

/-- 'texttoolslaw21.MemsortMerges': WHATEVER THE INPUT: true; the input reads as it did. -/
def memsortMergesSpec : ChangeSpec := { name := "memsortMerges", fn := fun _ => fun
  | [d1, d2, d3] => { results := [.lit (.bool true)], args := [d1, d2, d3] }
  | _ => none }
def memsortMergesRow : OpenClaim := { program := "ytehanadfidoodaagreatdoor", sum := "ef9598ab3b563f70593b83d60821796dcd9f80ce31a10f7e97334fc940439708", func := "texttools/texttoolslaw21.MemsortMerges", spec := "memsortMerges", inPlace := ["internal/bytealg.IndexByteString", "internal/bytealg.IndexString", "internal/abi.NoEscape", "internal/bytealg.abigen_runtime_cmpstring"], unfollowed := true, recurses := true, named := ["unicode/utf8.first", "unicode/utf8.acceptRanges", "internal/bytealg.MaxLen"], apart := false, laid := [("unicode/utf8.acceptRanges", laid_unicode_utf8_acceptRanges), ("unicode/utf8.first", laid_unicode_utf8_first)] }
def MemsortMergesSaid : Prop := memsortMergesRow.holds Tryz.pinned (OpenSpec.ofChange memsortMergesSpec)

/-- ITS FALSE NEIGHBOUR: 'it returns false'. Refute it at one input. -/
def memsortMergesWrong : ChangeSpec := { name := "memsortMerges", fn := fun _ => fun
  | [d1, d2, d3] => { results := [.lit (.bool false)], args := [d1, d2, d3] }
  | _ => none }
def MemsortMergesWrongFalsely : Prop := memsortMergesRow.holds Tryz.pinned (OpenSpec.ofChange memsortMergesWrong)

/-- 'texttoolslaw22.RunsSplits': WHATEVER THE INPUT: true; the input reads as it did. -/
def runsSplitsSpec : ChangeSpec := { name := "runsSplits", fn := fun _ => fun
  | [d1, d2] => { results := [.lit (.bool true)], args := [d1, d2] }
  | _ => none }
def runsSplitsRow : OpenClaim := { program := "ytehanadfidoodaagreatdoor", sum := "ef9598ab3b563f70593b83d60821796dcd9f80ce31a10f7e97334fc940439708", func := "texttools/texttoolslaw22.RunsSplits", spec := "runsSplits", inPlace := ["internal/bytealg.IndexByteString", "internal/bytealg.IndexString", "internal/abi.NoEscape", "internal/bytealg.abigen_runtime_cmpstring"], unfollowed := true, recurses := true, named := ["internal/strconv.uint64pow10", "math/bits.deBruijn32tab", "math/bits.deBruijn64tab", "unicode/utf8.first", "unicode/utf8.acceptRanges", "texttools/frame.table", "internal/bytealg.MaxLen"], apart := false, laid := [("math/bits.deBruijn32tab", laid_math_bits_deBruijn32tab), ("math/bits.deBruijn64tab", laid_math_bits_deBruijn64tab), ("internal/strconv.uint64pow10", laid_internal_strconv_uint64pow10), ("unicode/utf8.acceptRanges", laid_unicode_utf8_acceptRanges), ("texttools/frame.table", laid_texttools_frame_table), ("unicode/utf8.first", laid_unicode_utf8_first)] }
def RunsSplitsSaid : Prop := runsSplitsRow.holds Tryz.pinned (OpenSpec.ofChange runsSplitsSpec)

/-- ITS FALSE NEIGHBOUR: 'it returns false'. Refute it at one input. -/
def runsSplitsWrong : ChangeSpec := { name := "runsSplits", fn := fun _ => fun
  | [d1, d2] => { results := [.lit (.bool false)], args := [d1, d2] }
  | _ => none }
def RunsSplitsWrongFalsely : Prop := runsSplitsRow.holds Tryz.pinned (OpenSpec.ofChange runsSplitsWrong)

/-- 'texttoolslaw22.RunsDivide': WHATEVER THE INPUT: true; the input reads as it did. -/
def runsDivideSpec : ChangeSpec := { name := "runsDivide", fn := fun _ => fun
  | [d1, d2] => { results := [.lit (.bool true)], args := [d1, d2] }
  | _ => none }
def runsDivideRow : OpenClaim := { program := "ytehanadfidoodaagreatdoor", sum := "ef9598ab3b563f70593b83d60821796dcd9f80ce31a10f7e97334fc940439708", func := "texttools/texttoolslaw22.RunsDivide", spec := "runsDivide", inPlace := ["internal/bytealg.IndexByteString", "internal/bytealg.IndexString", "internal/abi.NoEscape", "internal/bytealg.abigen_runtime_cmpstring"], unfollowed := true, recurses := true, named := ["internal/strconv.uint64pow10", "math/bits.deBruijn32tab", "math/bits.deBruijn64tab", "unicode/utf8.first", "unicode/utf8.acceptRanges", "texttools/frame.table", "internal/bytealg.MaxLen"], apart := false, laid := [("math/bits.deBruijn32tab", laid_math_bits_deBruijn32tab), ("math/bits.deBruijn64tab", laid_math_bits_deBruijn64tab), ("internal/strconv.uint64pow10", laid_internal_strconv_uint64pow10), ("unicode/utf8.acceptRanges", laid_unicode_utf8_acceptRanges), ("texttools/frame.table", laid_texttools_frame_table), ("unicode/utf8.first", laid_unicode_utf8_first)] }
def RunsDivideSaid : Prop := runsDivideRow.holds Tryz.pinned (OpenSpec.ofChange runsDivideSpec)

/-- ITS FALSE NEIGHBOUR: 'it returns false'. Refute it at one input. -/
def runsDivideWrong : ChangeSpec := { name := "runsDivide", fn := fun _ => fun
  | [d1, d2] => { results := [.lit (.bool false)], args := [d1, d2] }
  | _ => none }
def RunsDivideWrongFalsely : Prop := runsDivideRow.holds Tryz.pinned (OpenSpec.ofChange runsDivideWrong)

/-- 'texttoolslaw22.RunsSort': WHATEVER THE INPUT: true; the input reads as it did. -/
def runsSortSpec : ChangeSpec := { name := "runsSort", fn := fun _ => fun
  | [d1, d2] => { results := [.lit (.bool true)], args := [d1, d2] }
  | _ => none }
def runsSortRow : OpenClaim := { program := "ytehanadfidoodaagreatdoor", sum := "ef9598ab3b563f70593b83d60821796dcd9f80ce31a10f7e97334fc940439708", func := "texttools/texttoolslaw22.RunsSort", spec := "runsSort", inPlace := ["internal/bytealg.IndexByteString", "internal/bytealg.IndexString", "internal/abi.NoEscape", "internal/bytealg.abigen_runtime_cmpstring"], unfollowed := true, recurses := true, named := ["internal/strconv.uint64pow10", "math/bits.deBruijn32tab", "math/bits.deBruijn64tab", "unicode/utf8.first", "unicode/utf8.acceptRanges", "texttools/frame.table", "internal/bytealg.MaxLen"], apart := false, laid := [("math/bits.deBruijn32tab", laid_math_bits_deBruijn32tab), ("math/bits.deBruijn64tab", laid_math_bits_deBruijn64tab), ("internal/strconv.uint64pow10", laid_internal_strconv_uint64pow10), ("unicode/utf8.acceptRanges", laid_unicode_utf8_acceptRanges), ("texttools/frame.table", laid_texttools_frame_table), ("unicode/utf8.first", laid_unicode_utf8_first)] }
def RunsSortSaid : Prop := runsSortRow.holds Tryz.pinned (OpenSpec.ofChange runsSortSpec)

/-- ITS FALSE NEIGHBOUR: 'it returns false'. Refute it at one input. -/
def runsSortWrong : ChangeSpec := { name := "runsSort", fn := fun _ => fun
  | [d1, d2] => { results := [.lit (.bool false)], args := [d1, d2] }
  | _ => none }
def RunsSortWrongFalsely : Prop := runsSortRow.holds Tryz.pinned (OpenSpec.ofChange runsSortWrong)

/-- 'texttoolslaw22.RunsPeeks': WHATEVER THE INPUT: true; the input reads as it did. -/
def runsPeeksSpec : ChangeSpec := { name := "runsPeeks", fn := fun _ => fun
  | [d1, d2, d3] => { results := [.lit (.bool true)], args := [d1, d2, d3] }
  | _ => none }
def runsPeeksRow : OpenClaim := { program := "ytehanadfidoodaagreatdoor", sum := "ef9598ab3b563f70593b83d60821796dcd9f80ce31a10f7e97334fc940439708", func := "texttools/texttoolslaw22.RunsPeeks", spec := "runsPeeks", inPlace := ["internal/bytealg.IndexByteString", "internal/bytealg.IndexString", "internal/abi.NoEscape", "internal/bytealg.abigen_runtime_cmpstring"], unfollowed := true, recurses := true, named := ["internal/strconv.uint64pow10", "math/bits.deBruijn32tab", "math/bits.deBruijn64tab", "unicode/utf8.first", "unicode/utf8.acceptRanges", "texttools/frame.table", "internal/bytealg.MaxLen"], apart := false, laid := [("math/bits.deBruijn32tab", laid_math_bits_deBruijn32tab), ("math/bits.deBruijn64tab", laid_math_bits_deBruijn64tab), ("internal/strconv.uint64pow10", laid_internal_strconv_uint64pow10), ("unicode/utf8.acceptRanges", laid_unicode_utf8_acceptRanges), ("texttools/frame.table", laid_texttools_frame_table), ("unicode/utf8.first", laid_unicode_utf8_first)] }
def RunsPeeksSaid : Prop := runsPeeksRow.holds Tryz.pinned (OpenSpec.ofChange runsPeeksSpec)

/-- ITS FALSE NEIGHBOUR: 'it returns false'. Refute it at one input. -/
def runsPeeksWrong : ChangeSpec := { name := "runsPeeks", fn := fun _ => fun
  | [d1, d2, d3] => { results := [.lit (.bool false)], args := [d1, d2, d3] }
  | _ => none }
def RunsPeeksWrongFalsely : Prop := runsPeeksRow.holds Tryz.pinned (OpenSpec.ofChange runsPeeksWrong)

/-- 'texttoolslaw23.MergePlans': WHATEVER THE INPUT: true; the input reads as it did. -/
def mergePlansSpec : ChangeSpec := { name := "mergePlans", fn := fun _ => fun
  | [d1, d2] => { results := [.lit (.bool true)], args := [d1, d2] }
  | _ => none }
def mergePlansRow : OpenClaim := { program := "ytehanadfidoodaagreatdoor", sum := "ef9598ab3b563f70593b83d60821796dcd9f80ce31a10f7e97334fc940439708", func := "texttools/texttoolslaw23.MergePlans", spec := "mergePlans", inPlace := ["internal/bytealg.IndexByteString", "internal/bytealg.IndexString", "internal/abi.NoEscape", "internal/bytealg.abigen_runtime_cmpstring"], unfollowed := true, recurses := true, named := ["internal/strconv.uint64pow10", "math/bits.deBruijn32tab", "math/bits.deBruijn64tab", "unicode/utf8.first", "unicode/utf8.acceptRanges", "texttools/frame.table", "internal/bytealg.MaxLen"], apart := false, laid := [("math/bits.deBruijn32tab", laid_math_bits_deBruijn32tab), ("math/bits.deBruijn64tab", laid_math_bits_deBruijn64tab), ("internal/strconv.uint64pow10", laid_internal_strconv_uint64pow10), ("unicode/utf8.acceptRanges", laid_unicode_utf8_acceptRanges), ("texttools/frame.table", laid_texttools_frame_table), ("unicode/utf8.first", laid_unicode_utf8_first)] }
def MergePlansSaid : Prop := mergePlansRow.holds Tryz.pinned (OpenSpec.ofChange mergePlansSpec)

/-- ITS FALSE NEIGHBOUR: 'it returns false'. Refute it at one input. -/
def mergePlansWrong : ChangeSpec := { name := "mergePlans", fn := fun _ => fun
  | [d1, d2] => { results := [.lit (.bool false)], args := [d1, d2] }
  | _ => none }
def MergePlansWrongFalsely : Prop := mergePlansRow.holds Tryz.pinned (OpenSpec.ofChange mergePlansWrong)

/-- 'texttoolslaw23.MergeGroups': WHATEVER THE INPUT: true; the input reads as it did. -/
def mergeGroupsSpec : ChangeSpec := { name := "mergeGroups", fn := fun _ => fun
  | [d1, d2] => { results := [.lit (.bool true)], args := [d1, d2] }
  | _ => none }
def mergeGroupsRow : OpenClaim := { program := "ytehanadfidoodaagreatdoor", sum := "ef9598ab3b563f70593b83d60821796dcd9f80ce31a10f7e97334fc940439708", func := "texttools/texttoolslaw23.MergeGroups", spec := "mergeGroups", inPlace := ["internal/bytealg.IndexByteString", "internal/bytealg.IndexString", "internal/abi.NoEscape", "internal/bytealg.abigen_runtime_cmpstring"], unfollowed := true, recurses := true, named := ["internal/strconv.uint64pow10", "math/bits.deBruijn32tab", "math/bits.deBruijn64tab", "unicode/utf8.first", "unicode/utf8.acceptRanges", "texttools/frame.table", "internal/bytealg.MaxLen"], apart := false, laid := [("math/bits.deBruijn32tab", laid_math_bits_deBruijn32tab), ("math/bits.deBruijn64tab", laid_math_bits_deBruijn64tab), ("internal/strconv.uint64pow10", laid_internal_strconv_uint64pow10), ("unicode/utf8.acceptRanges", laid_unicode_utf8_acceptRanges), ("texttools/frame.table", laid_texttools_frame_table), ("unicode/utf8.first", laid_unicode_utf8_first)] }
def MergeGroupsSaid : Prop := mergeGroupsRow.holds Tryz.pinned (OpenSpec.ofChange mergeGroupsSpec)

/-- ITS FALSE NEIGHBOUR: 'it returns false'. Refute it at one input. -/
def mergeGroupsWrong : ChangeSpec := { name := "mergeGroups", fn := fun _ => fun
  | [d1, d2] => { results := [.lit (.bool false)], args := [d1, d2] }
  | _ => none }
def MergeGroupsWrongFalsely : Prop := mergeGroupsRow.holds Tryz.pinned (OpenSpec.ofChange mergeGroupsWrong)

/-- 'texttoolslaw23.MergeNexts': WHATEVER THE INPUT: true; the input reads as it did. -/
def mergeNextsSpec : ChangeSpec := { name := "mergeNexts", fn := fun _ => fun
  | [d1, d2, d3] => { results := [.lit (.bool true)], args := [d1, d2, d3] }
  | _ => none }
def mergeNextsRow : OpenClaim := { program := "ytehanadfidoodaagreatdoor", sum := "ef9598ab3b563f70593b83d60821796dcd9f80ce31a10f7e97334fc940439708", func := "texttools/texttoolslaw23.MergeNexts", spec := "mergeNexts", inPlace := ["internal/bytealg.IndexByteString", "internal/bytealg.IndexString", "internal/abi.NoEscape", "internal/bytealg.abigen_runtime_cmpstring"], unfollowed := true, recurses := true, named := ["internal/strconv.uint64pow10", "math/bits.deBruijn32tab", "math/bits.deBruijn64tab", "unicode/utf8.first", "unicode/utf8.acceptRanges", "texttools/frame.table", "internal/bytealg.MaxLen"], apart := false, laid := [("math/bits.deBruijn32tab", laid_math_bits_deBruijn32tab), ("math/bits.deBruijn64tab", laid_math_bits_deBruijn64tab), ("internal/strconv.uint64pow10", laid_internal_strconv_uint64pow10), ("unicode/utf8.acceptRanges", laid_unicode_utf8_acceptRanges), ("texttools/frame.table", laid_texttools_frame_table), ("unicode/utf8.first", laid_unicode_utf8_first)] }
def MergeNextsSaid : Prop := mergeNextsRow.holds Tryz.pinned (OpenSpec.ofChange mergeNextsSpec)

/-- ITS FALSE NEIGHBOUR: 'it returns false'. Refute it at one input. -/
def mergeNextsWrong : ChangeSpec := { name := "mergeNexts", fn := fun _ => fun
  | [d1, d2, d3] => { results := [.lit (.bool false)], args := [d1, d2, d3] }
  | _ => none }
def MergeNextsWrongFalsely : Prop := mergeNextsRow.holds Tryz.pinned (OpenSpec.ofChange mergeNextsWrong)

/-- 'texttoolslaw23.MergeOrders': WHATEVER THE INPUT: true; the input reads as it did. -/
def mergeOrdersSpec : ChangeSpec := { name := "mergeOrders", fn := fun _ => fun
  | [d1, d2, d3] => { results := [.lit (.bool true)], args := [d1, d2, d3] }
  | _ => none }
def mergeOrdersRow : OpenClaim := { program := "ytehanadfidoodaagreatdoor", sum := "ef9598ab3b563f70593b83d60821796dcd9f80ce31a10f7e97334fc940439708", func := "texttools/texttoolslaw23.MergeOrders", spec := "mergeOrders", inPlace := ["internal/bytealg.IndexByteString", "internal/bytealg.IndexString", "internal/abi.NoEscape", "internal/bytealg.abigen_runtime_cmpstring"], unfollowed := true, recurses := true, named := ["internal/strconv.uint64pow10", "math/bits.deBruijn32tab", "math/bits.deBruijn64tab", "unicode/utf8.first", "unicode/utf8.acceptRanges", "texttools/frame.table", "internal/bytealg.MaxLen"], apart := false, laid := [("math/bits.deBruijn32tab", laid_math_bits_deBruijn32tab), ("math/bits.deBruijn64tab", laid_math_bits_deBruijn64tab), ("internal/strconv.uint64pow10", laid_internal_strconv_uint64pow10), ("unicode/utf8.acceptRanges", laid_unicode_utf8_acceptRanges), ("texttools/frame.table", laid_texttools_frame_table), ("unicode/utf8.first", laid_unicode_utf8_first)] }
def MergeOrdersSaid : Prop := mergeOrdersRow.holds Tryz.pinned (OpenSpec.ofChange mergeOrdersSpec)

/-- ITS FALSE NEIGHBOUR: 'it returns false'. Refute it at one input. -/
def mergeOrdersWrong : ChangeSpec := { name := "mergeOrders", fn := fun _ => fun
  | [d1, d2, d3] => { results := [.lit (.bool false)], args := [d1, d2, d3] }
  | _ => none }
def MergeOrdersWrongFalsely : Prop := mergeOrdersRow.holds Tryz.pinned (OpenSpec.ofChange mergeOrdersWrong)

/-- 'texttoolslaw22.RunsWrites': WHATEVER THE INPUT: true; the input reads as it did. -/
def runsWritesSpec : ChangeSpec := { name := "runsWrites", fn := fun _ => fun
  | [d1, d2] => { results := [.lit (.bool true)], args := [d1, d2] }
  | _ => none }
def runsWritesRow : OpenClaim := { program := "ytehanadfidoodaagreatdoor", sum := "ef9598ab3b563f70593b83d60821796dcd9f80ce31a10f7e97334fc940439708", func := "texttools/texttoolslaw22.RunsWrites", spec := "runsWrites", inPlace := ["internal/bytealg.IndexByteString", "internal/bytealg.IndexString", "internal/abi.NoEscape", "internal/bytealg.abigen_runtime_cmpstring"], unfollowed := true, recurses := true, named := ["internal/strconv.uint64pow10", "math/bits.deBruijn32tab", "math/bits.deBruijn64tab", "unicode/utf8.first", "unicode/utf8.acceptRanges", "texttools/frame.table", "internal/bytealg.MaxLen"], apart := false, laid := [("math/bits.deBruijn32tab", laid_math_bits_deBruijn32tab), ("math/bits.deBruijn64tab", laid_math_bits_deBruijn64tab), ("internal/strconv.uint64pow10", laid_internal_strconv_uint64pow10), ("unicode/utf8.acceptRanges", laid_unicode_utf8_acceptRanges), ("texttools/frame.table", laid_texttools_frame_table), ("unicode/utf8.first", laid_unicode_utf8_first)] }
def RunsWritesSaid : Prop := runsWritesRow.holds Tryz.pinned (OpenSpec.ofChange runsWritesSpec)

/-- ITS FALSE NEIGHBOUR: 'it returns false'. Refute it at one input. -/
def runsWritesWrong : ChangeSpec := { name := "runsWrites", fn := fun _ => fun
  | [d1, d2] => { results := [.lit (.bool false)], args := [d1, d2] }
  | _ => none }
def RunsWritesWrongFalsely : Prop := runsWritesRow.holds Tryz.pinned (OpenSpec.ofChange runsWritesWrong)

/-- 'texttoolslaw23.MergeFails': WHATEVER THE INPUT: true; the input reads as it did. -/
def mergeFailsSpec : ChangeSpec := { name := "mergeFails", fn := fun _ => fun
  | [d1, d2, d3] => { results := [.lit (.bool true)], args := [d1, d2, d3] }
  | _ => none }
def mergeFailsRow : OpenClaim := { program := "ytehanadfidoodaagreatdoor", sum := "ef9598ab3b563f70593b83d60821796dcd9f80ce31a10f7e97334fc940439708", func := "texttools/texttoolslaw23.MergeFails", spec := "mergeFails", inPlace := ["internal/bytealg.IndexByteString", "internal/bytealg.IndexString", "internal/abi.NoEscape", "internal/bytealg.abigen_runtime_cmpstring"], unfollowed := true, recurses := true, named := ["internal/strconv.uint64pow10", "math/bits.deBruijn32tab", "math/bits.deBruijn64tab", "unicode/utf8.first", "unicode/utf8.acceptRanges", "texttools/frame.table", "internal/bytealg.MaxLen"], apart := false, laid := [("math/bits.deBruijn32tab", laid_math_bits_deBruijn32tab), ("math/bits.deBruijn64tab", laid_math_bits_deBruijn64tab), ("internal/strconv.uint64pow10", laid_internal_strconv_uint64pow10), ("unicode/utf8.acceptRanges", laid_unicode_utf8_acceptRanges), ("texttools/frame.table", laid_texttools_frame_table), ("unicode/utf8.first", laid_unicode_utf8_first)] }
def MergeFailsSaid : Prop := mergeFailsRow.holds Tryz.pinned (OpenSpec.ofChange mergeFailsSpec)

/-- ITS FALSE NEIGHBOUR: 'it returns false'. Refute it at one input. -/
def mergeFailsWrong : ChangeSpec := { name := "mergeFails", fn := fun _ => fun
  | [d1, d2, d3] => { results := [.lit (.bool false)], args := [d1, d2, d3] }
  | _ => none }
def MergeFailsWrongFalsely : Prop := mergeFailsRow.holds Tryz.pinned (OpenSpec.ofChange mergeFailsWrong)

/-- 'texttoolslaw23.MergeFiles': WHATEVER THE INPUT: true; the input reads as it did. -/
def mergeFilesSpec : ChangeSpec := { name := "mergeFiles", fn := fun _ => fun
  | [d1, d2, d3] => { results := [.lit (.bool true)], args := [d1, d2, d3] }
  | _ => none }
def mergeFilesRow : OpenClaim := { program := "ytehanadfidoodaagreatdoor", sum := "ef9598ab3b563f70593b83d60821796dcd9f80ce31a10f7e97334fc940439708", func := "texttools/texttoolslaw23.MergeFiles", spec := "mergeFiles", inPlace := ["internal/bytealg.IndexByteString", "internal/bytealg.IndexString", "internal/abi.NoEscape", "internal/bytealg.abigen_runtime_cmpstring"], unfollowed := true, recurses := true, named := ["internal/strconv.uint64pow10", "math/bits.deBruijn32tab", "math/bits.deBruijn64tab", "unicode/utf8.first", "unicode/utf8.acceptRanges", "texttools/frame.table", "internal/bytealg.MaxLen"], apart := false, laid := [("math/bits.deBruijn32tab", laid_math_bits_deBruijn32tab), ("math/bits.deBruijn64tab", laid_math_bits_deBruijn64tab), ("internal/strconv.uint64pow10", laid_internal_strconv_uint64pow10), ("unicode/utf8.acceptRanges", laid_unicode_utf8_acceptRanges), ("texttools/frame.table", laid_texttools_frame_table), ("unicode/utf8.first", laid_unicode_utf8_first)] }
def MergeFilesSaid : Prop := mergeFilesRow.holds Tryz.pinned (OpenSpec.ofChange mergeFilesSpec)

/-- ITS FALSE NEIGHBOUR: 'it returns false'. Refute it at one input. -/
def mergeFilesWrong : ChangeSpec := { name := "mergeFiles", fn := fun _ => fun
  | [d1, d2, d3] => { results := [.lit (.bool false)], args := [d1, d2, d3] }
  | _ => none }
def MergeFilesWrongFalsely : Prop := mergeFilesRow.holds Tryz.pinned (OpenSpec.ofChange mergeFilesWrong)

/- THE SECOND FORM. 'bulk': how many values and letters a reading holds, each counted each time it is reached (what is shared counts as often as it is met; a slice's spare places count too). A statement '..UptoSaid' is the law's where the arguments, and the package variables that the reading takes, are together of bulk at most 1048576: NARROWER than '..Said'. Prove '..Said' where nothing that the law and all that it calls make is longer than what came in: it says more and counts as full. Else prove '..UptoSaid'. A law counts once. -/
mutual
def uptoBulk {H : Type} : DataW H → Nat
  | .lit (.string bytes) => bytes.length + 1
  | .lit _ => 1
  | .nil => 1
  | .ptr d => uptoBulk d + 1
  | .slice elems spare => uptoBulkAll elems + uptoBulkAll spare + 1
  | .agg parts => uptoBulkAll parts + 1
  | .iface _ d => uptoBulk d + 1
  | .map entries => uptoBulkEntries entries + 1
  | .held _ => 1
def uptoBulkAll {H : Type} : List (DataW H) → Nat
  | [] => 0
  | d :: r => uptoBulk d + uptoBulkAll r
def uptoBulkEntries {H : Type} : List (Lit × DataW H) → Nat
  | [] => 0
  | x :: r => uptoBulkEntry x + uptoBulkEntries r
def uptoBulkEntry {H : Type} : Lit × DataW H → Nat
  | (.string bytes, d) => bytes.length + uptoBulk d + 1
  | (_, d) => uptoBulk d + 1
 end
def uptoSmall : (H : Type) → List (DataW H) → Bool := fun _ ds => decide (uptoBulkAll ds ≤ 1048576)
def OpenSpec.upto (s : _root_.Go.ChangeSpec) : _root_.Go.OpenSpec := { _root_.Go.OpenSpec.ofChange s with cond := some uptoSmall }

/-- 'texttoolslaw21.MemsortMerges', WHERE WHAT IT READS IS OF BULK AT MOST 1048576: true; the input reads as it did. -/
def memsortMergesUptoRow : OpenClaim := { program := "ytehanadfidoodaagreatdoor", sum := "ef9598ab3b563f70593b83d60821796dcd9f80ce31a10f7e97334fc940439708", func := "texttools/texttoolslaw21.MemsortMerges", spec := "memsortMerges", inPlace := ["internal/bytealg.IndexByteString", "internal/bytealg.IndexString", "internal/abi.NoEscape", "internal/bytealg.abigen_runtime_cmpstring"], unfollowed := true, recurses := true, named := ["unicode/utf8.first", "unicode/utf8.acceptRanges", "internal/bytealg.MaxLen"], apart := false, laid := [("unicode/utf8.acceptRanges", laid_unicode_utf8_acceptRanges), ("unicode/utf8.first", laid_unicode_utf8_first)], narrowed := true }
def MemsortMergesUptoSaid : Prop := memsortMergesUptoRow.holds Tryz.pinned (OpenSpec.upto memsortMergesSpec)

/-- 'texttoolslaw22.RunsSplits', WHERE WHAT IT READS IS OF BULK AT MOST 1048576: true; the input reads as it did. -/
def runsSplitsUptoRow : OpenClaim := { program := "ytehanadfidoodaagreatdoor", sum := "ef9598ab3b563f70593b83d60821796dcd9f80ce31a10f7e97334fc940439708", func := "texttools/texttoolslaw22.RunsSplits", spec := "runsSplits", inPlace := ["internal/bytealg.IndexByteString", "internal/bytealg.IndexString", "internal/abi.NoEscape", "internal/bytealg.abigen_runtime_cmpstring"], unfollowed := true, recurses := true, named := ["internal/strconv.uint64pow10", "math/bits.deBruijn32tab", "math/bits.deBruijn64tab", "unicode/utf8.first", "unicode/utf8.acceptRanges", "texttools/frame.table", "internal/bytealg.MaxLen"], apart := false, laid := [("math/bits.deBruijn32tab", laid_math_bits_deBruijn32tab), ("math/bits.deBruijn64tab", laid_math_bits_deBruijn64tab), ("internal/strconv.uint64pow10", laid_internal_strconv_uint64pow10), ("unicode/utf8.acceptRanges", laid_unicode_utf8_acceptRanges), ("texttools/frame.table", laid_texttools_frame_table), ("unicode/utf8.first", laid_unicode_utf8_first)], narrowed := true }
def RunsSplitsUptoSaid : Prop := runsSplitsUptoRow.holds Tryz.pinned (OpenSpec.upto runsSplitsSpec)

/-- 'texttoolslaw22.RunsDivide', WHERE WHAT IT READS IS OF BULK AT MOST 1048576: true; the input reads as it did. -/
def runsDivideUptoRow : OpenClaim := { program := "ytehanadfidoodaagreatdoor", sum := "ef9598ab3b563f70593b83d60821796dcd9f80ce31a10f7e97334fc940439708", func := "texttools/texttoolslaw22.RunsDivide", spec := "runsDivide", inPlace := ["internal/bytealg.IndexByteString", "internal/bytealg.IndexString", "internal/abi.NoEscape", "internal/bytealg.abigen_runtime_cmpstring"], unfollowed := true, recurses := true, named := ["internal/strconv.uint64pow10", "math/bits.deBruijn32tab", "math/bits.deBruijn64tab", "unicode/utf8.first", "unicode/utf8.acceptRanges", "texttools/frame.table", "internal/bytealg.MaxLen"], apart := false, laid := [("math/bits.deBruijn32tab", laid_math_bits_deBruijn32tab), ("math/bits.deBruijn64tab", laid_math_bits_deBruijn64tab), ("internal/strconv.uint64pow10", laid_internal_strconv_uint64pow10), ("unicode/utf8.acceptRanges", laid_unicode_utf8_acceptRanges), ("texttools/frame.table", laid_texttools_frame_table), ("unicode/utf8.first", laid_unicode_utf8_first)], narrowed := true }
def RunsDivideUptoSaid : Prop := runsDivideUptoRow.holds Tryz.pinned (OpenSpec.upto runsDivideSpec)

/-- 'texttoolslaw22.RunsSort', WHERE WHAT IT READS IS OF BULK AT MOST 1048576: true; the input reads as it did. -/
def runsSortUptoRow : OpenClaim := { program := "ytehanadfidoodaagreatdoor", sum := "ef9598ab3b563f70593b83d60821796dcd9f80ce31a10f7e97334fc940439708", func := "texttools/texttoolslaw22.RunsSort", spec := "runsSort", inPlace := ["internal/bytealg.IndexByteString", "internal/bytealg.IndexString", "internal/abi.NoEscape", "internal/bytealg.abigen_runtime_cmpstring"], unfollowed := true, recurses := true, named := ["internal/strconv.uint64pow10", "math/bits.deBruijn32tab", "math/bits.deBruijn64tab", "unicode/utf8.first", "unicode/utf8.acceptRanges", "texttools/frame.table", "internal/bytealg.MaxLen"], apart := false, laid := [("math/bits.deBruijn32tab", laid_math_bits_deBruijn32tab), ("math/bits.deBruijn64tab", laid_math_bits_deBruijn64tab), ("internal/strconv.uint64pow10", laid_internal_strconv_uint64pow10), ("unicode/utf8.acceptRanges", laid_unicode_utf8_acceptRanges), ("texttools/frame.table", laid_texttools_frame_table), ("unicode/utf8.first", laid_unicode_utf8_first)], narrowed := true }
def RunsSortUptoSaid : Prop := runsSortUptoRow.holds Tryz.pinned (OpenSpec.upto runsSortSpec)

/-- 'texttoolslaw22.RunsPeeks', WHERE WHAT IT READS IS OF BULK AT MOST 1048576: true; the input reads as it did. -/
def runsPeeksUptoRow : OpenClaim := { program := "ytehanadfidoodaagreatdoor", sum := "ef9598ab3b563f70593b83d60821796dcd9f80ce31a10f7e97334fc940439708", func := "texttools/texttoolslaw22.RunsPeeks", spec := "runsPeeks", inPlace := ["internal/bytealg.IndexByteString", "internal/bytealg.IndexString", "internal/abi.NoEscape", "internal/bytealg.abigen_runtime_cmpstring"], unfollowed := true, recurses := true, named := ["internal/strconv.uint64pow10", "math/bits.deBruijn32tab", "math/bits.deBruijn64tab", "unicode/utf8.first", "unicode/utf8.acceptRanges", "texttools/frame.table", "internal/bytealg.MaxLen"], apart := false, laid := [("math/bits.deBruijn32tab", laid_math_bits_deBruijn32tab), ("math/bits.deBruijn64tab", laid_math_bits_deBruijn64tab), ("internal/strconv.uint64pow10", laid_internal_strconv_uint64pow10), ("unicode/utf8.acceptRanges", laid_unicode_utf8_acceptRanges), ("texttools/frame.table", laid_texttools_frame_table), ("unicode/utf8.first", laid_unicode_utf8_first)], narrowed := true }
def RunsPeeksUptoSaid : Prop := runsPeeksUptoRow.holds Tryz.pinned (OpenSpec.upto runsPeeksSpec)

/-- 'texttoolslaw23.MergePlans', WHERE WHAT IT READS IS OF BULK AT MOST 1048576: true; the input reads as it did. -/
def mergePlansUptoRow : OpenClaim := { program := "ytehanadfidoodaagreatdoor", sum := "ef9598ab3b563f70593b83d60821796dcd9f80ce31a10f7e97334fc940439708", func := "texttools/texttoolslaw23.MergePlans", spec := "mergePlans", inPlace := ["internal/bytealg.IndexByteString", "internal/bytealg.IndexString", "internal/abi.NoEscape", "internal/bytealg.abigen_runtime_cmpstring"], unfollowed := true, recurses := true, named := ["internal/strconv.uint64pow10", "math/bits.deBruijn32tab", "math/bits.deBruijn64tab", "unicode/utf8.first", "unicode/utf8.acceptRanges", "texttools/frame.table", "internal/bytealg.MaxLen"], apart := false, laid := [("math/bits.deBruijn32tab", laid_math_bits_deBruijn32tab), ("math/bits.deBruijn64tab", laid_math_bits_deBruijn64tab), ("internal/strconv.uint64pow10", laid_internal_strconv_uint64pow10), ("unicode/utf8.acceptRanges", laid_unicode_utf8_acceptRanges), ("texttools/frame.table", laid_texttools_frame_table), ("unicode/utf8.first", laid_unicode_utf8_first)], narrowed := true }
def MergePlansUptoSaid : Prop := mergePlansUptoRow.holds Tryz.pinned (OpenSpec.upto mergePlansSpec)

/-- 'texttoolslaw23.MergeGroups', WHERE WHAT IT READS IS OF BULK AT MOST 1048576: true; the input reads as it did. -/
def mergeGroupsUptoRow : OpenClaim := { program := "ytehanadfidoodaagreatdoor", sum := "ef9598ab3b563f70593b83d60821796dcd9f80ce31a10f7e97334fc940439708", func := "texttools/texttoolslaw23.MergeGroups", spec := "mergeGroups", inPlace := ["internal/bytealg.IndexByteString", "internal/bytealg.IndexString", "internal/abi.NoEscape", "internal/bytealg.abigen_runtime_cmpstring"], unfollowed := true, recurses := true, named := ["internal/strconv.uint64pow10", "math/bits.deBruijn32tab", "math/bits.deBruijn64tab", "unicode/utf8.first", "unicode/utf8.acceptRanges", "texttools/frame.table", "internal/bytealg.MaxLen"], apart := false, laid := [("math/bits.deBruijn32tab", laid_math_bits_deBruijn32tab), ("math/bits.deBruijn64tab", laid_math_bits_deBruijn64tab), ("internal/strconv.uint64pow10", laid_internal_strconv_uint64pow10), ("unicode/utf8.acceptRanges", laid_unicode_utf8_acceptRanges), ("texttools/frame.table", laid_texttools_frame_table), ("unicode/utf8.first", laid_unicode_utf8_first)], narrowed := true }
def MergeGroupsUptoSaid : Prop := mergeGroupsUptoRow.holds Tryz.pinned (OpenSpec.upto mergeGroupsSpec)

/-- 'texttoolslaw23.MergeNexts', WHERE WHAT IT READS IS OF BULK AT MOST 1048576: true; the input reads as it did. -/
def mergeNextsUptoRow : OpenClaim := { program := "ytehanadfidoodaagreatdoor", sum := "ef9598ab3b563f70593b83d60821796dcd9f80ce31a10f7e97334fc940439708", func := "texttools/texttoolslaw23.MergeNexts", spec := "mergeNexts", inPlace := ["internal/bytealg.IndexByteString", "internal/bytealg.IndexString", "internal/abi.NoEscape", "internal/bytealg.abigen_runtime_cmpstring"], unfollowed := true, recurses := true, named := ["internal/strconv.uint64pow10", "math/bits.deBruijn32tab", "math/bits.deBruijn64tab", "unicode/utf8.first", "unicode/utf8.acceptRanges", "texttools/frame.table", "internal/bytealg.MaxLen"], apart := false, laid := [("math/bits.deBruijn32tab", laid_math_bits_deBruijn32tab), ("math/bits.deBruijn64tab", laid_math_bits_deBruijn64tab), ("internal/strconv.uint64pow10", laid_internal_strconv_uint64pow10), ("unicode/utf8.acceptRanges", laid_unicode_utf8_acceptRanges), ("texttools/frame.table", laid_texttools_frame_table), ("unicode/utf8.first", laid_unicode_utf8_first)], narrowed := true }
def MergeNextsUptoSaid : Prop := mergeNextsUptoRow.holds Tryz.pinned (OpenSpec.upto mergeNextsSpec)

/-- 'texttoolslaw23.MergeOrders', WHERE WHAT IT READS IS OF BULK AT MOST 1048576: true; the input reads as it did. -/
def mergeOrdersUptoRow : OpenClaim := { program := "ytehanadfidoodaagreatdoor", sum := "ef9598ab3b563f70593b83d60821796dcd9f80ce31a10f7e97334fc940439708", func := "texttools/texttoolslaw23.MergeOrders", spec := "mergeOrders", inPlace := ["internal/bytealg.IndexByteString", "internal/bytealg.IndexString", "internal/abi.NoEscape", "internal/bytealg.abigen_runtime_cmpstring"], unfollowed := true, recurses := true, named := ["internal/strconv.uint64pow10", "math/bits.deBruijn32tab", "math/bits.deBruijn64tab", "unicode/utf8.first", "unicode/utf8.acceptRanges", "texttools/frame.table", "internal/bytealg.MaxLen"], apart := false, laid := [("math/bits.deBruijn32tab", laid_math_bits_deBruijn32tab), ("math/bits.deBruijn64tab", laid_math_bits_deBruijn64tab), ("internal/strconv.uint64pow10", laid_internal_strconv_uint64pow10), ("unicode/utf8.acceptRanges", laid_unicode_utf8_acceptRanges), ("texttools/frame.table", laid_texttools_frame_table), ("unicode/utf8.first", laid_unicode_utf8_first)], narrowed := true }
def MergeOrdersUptoSaid : Prop := mergeOrdersUptoRow.holds Tryz.pinned (OpenSpec.upto mergeOrdersSpec)

/-- 'texttoolslaw22.RunsWrites', WHERE WHAT IT READS IS OF BULK AT MOST 1048576: true; the input reads as it did. -/
def runsWritesUptoRow : OpenClaim := { program := "ytehanadfidoodaagreatdoor", sum := "ef9598ab3b563f70593b83d60821796dcd9f80ce31a10f7e97334fc940439708", func := "texttools/texttoolslaw22.RunsWrites", spec := "runsWrites", inPlace := ["internal/bytealg.IndexByteString", "internal/bytealg.IndexString", "internal/abi.NoEscape", "internal/bytealg.abigen_runtime_cmpstring"], unfollowed := true, recurses := true, named := ["internal/strconv.uint64pow10", "math/bits.deBruijn32tab", "math/bits.deBruijn64tab", "unicode/utf8.first", "unicode/utf8.acceptRanges", "texttools/frame.table", "internal/bytealg.MaxLen"], apart := false, laid := [("math/bits.deBruijn32tab", laid_math_bits_deBruijn32tab), ("math/bits.deBruijn64tab", laid_math_bits_deBruijn64tab), ("internal/strconv.uint64pow10", laid_internal_strconv_uint64pow10), ("unicode/utf8.acceptRanges", laid_unicode_utf8_acceptRanges), ("texttools/frame.table", laid_texttools_frame_table), ("unicode/utf8.first", laid_unicode_utf8_first)], narrowed := true }
def RunsWritesUptoSaid : Prop := runsWritesUptoRow.holds Tryz.pinned (OpenSpec.upto runsWritesSpec)

/-- 'texttoolslaw23.MergeFails', WHERE WHAT IT READS IS OF BULK AT MOST 1048576: true; the input reads as it did. -/
def mergeFailsUptoRow : OpenClaim := { program := "ytehanadfidoodaagreatdoor", sum := "ef9598ab3b563f70593b83d60821796dcd9f80ce31a10f7e97334fc940439708", func := "texttools/texttoolslaw23.MergeFails", spec := "mergeFails", inPlace := ["internal/bytealg.IndexByteString", "internal/bytealg.IndexString", "internal/abi.NoEscape", "internal/bytealg.abigen_runtime_cmpstring"], unfollowed := true, recurses := true, named := ["internal/strconv.uint64pow10", "math/bits.deBruijn32tab", "math/bits.deBruijn64tab", "unicode/utf8.first", "unicode/utf8.acceptRanges", "texttools/frame.table", "internal/bytealg.MaxLen"], apart := false, laid := [("math/bits.deBruijn32tab", laid_math_bits_deBruijn32tab), ("math/bits.deBruijn64tab", laid_math_bits_deBruijn64tab), ("internal/strconv.uint64pow10", laid_internal_strconv_uint64pow10), ("unicode/utf8.acceptRanges", laid_unicode_utf8_acceptRanges), ("texttools/frame.table", laid_texttools_frame_table), ("unicode/utf8.first", laid_unicode_utf8_first)], narrowed := true }
def MergeFailsUptoSaid : Prop := mergeFailsUptoRow.holds Tryz.pinned (OpenSpec.upto mergeFailsSpec)

/-- 'texttoolslaw23.MergeFiles', WHERE WHAT IT READS IS OF BULK AT MOST 1048576: true; the input reads as it did. -/
def mergeFilesUptoRow : OpenClaim := { program := "ytehanadfidoodaagreatdoor", sum := "ef9598ab3b563f70593b83d60821796dcd9f80ce31a10f7e97334fc940439708", func := "texttools/texttoolslaw23.MergeFiles", spec := "mergeFiles", inPlace := ["internal/bytealg.IndexByteString", "internal/bytealg.IndexString", "internal/abi.NoEscape", "internal/bytealg.abigen_runtime_cmpstring"], unfollowed := true, recurses := true, named := ["internal/strconv.uint64pow10", "math/bits.deBruijn32tab", "math/bits.deBruijn64tab", "unicode/utf8.first", "unicode/utf8.acceptRanges", "texttools/frame.table", "internal/bytealg.MaxLen"], apart := false, laid := [("math/bits.deBruijn32tab", laid_math_bits_deBruijn32tab), ("math/bits.deBruijn64tab", laid_math_bits_deBruijn64tab), ("internal/strconv.uint64pow10", laid_internal_strconv_uint64pow10), ("unicode/utf8.acceptRanges", laid_unicode_utf8_acceptRanges), ("texttools/frame.table", laid_texttools_frame_table), ("unicode/utf8.first", laid_unicode_utf8_first)], narrowed := true }
def MergeFilesUptoSaid : Prop := mergeFilesUptoRow.holds Tryz.pinned (OpenSpec.upto mergeFilesSpec)

end Rows
end Go.Proofs.YtehanadfidoodaaGreatDoor
