/-
  strings.Builder as functions of the machine: written by program (wip/pt/ptp.py).
-/
import Derived.Shelf.Lay
import Derived.Ground.NamesProg
import Derived.Test.YtgglgbfolgcaiaaGreatDoorProg
import Derived.Test.YtgglgbfolgcaiaaGreatDoorHmBex
import Derived.Test.YtgglgbfolgcaiaaGreatDoorHmWx
namespace Go.Proofs
open Go.Shelf Go.RowKit
def Tryz.laysText_ren:Ren:={ f:=fun | 166=>114 | 240=>148 | 276=>176 | n=>n,t:=fun | 0=>0 | 3=>3 | 4=>4 | 9=>9 | 20=>20 | 37=>54 | 70=>185 | 72=>187 | 75=>189 | 164=>257 | 80=>115 | n=>n,g:=fun n=>n }
theorem Tryz.laysText:Lays.n166 Tryz.prog Tryz.laysText_ren where
 mixed:=by kernel_rfl
 f166:=by kernel_rfl
 f240:=by kernel_rfl
 f276:=by kernel_rfl
 t0:=Tryz.underlying0
 a0:=Tryz.isAgg0
 z0:=Tryz.sizeOf0
 v0:=Tryz.zeroValue0
 t3:=Tryz.underlying3
 a3:=Tryz.isAgg3
 z3:=Tryz.sizeOf3
 v3:=Tryz.zeroValue3
 t4:=Tryz.underlying4
 a4:=Tryz.isAgg4
 z4:=Tryz.sizeOf4
 v4:=Tryz.zeroValue4
 t9:=Tryz.underlying9
 a9:=Tryz.isAgg9
 z9:=Tryz.sizeOf9
 v9:=Tryz.zeroValue9
 t20:=Tryz.underlying20
 a20:=Tryz.isAgg20
 z20:=Tryz.sizeOf20
 v20:=Tryz.zeroValue20
 t37:=Tryz.underlying54
 a37:=Tryz.isAgg54
 z37:=Tryz.sizeOf54
 v37:=Tryz.zeroValue54
 t70:=Tryz.underlying185
 a70:=Tryz.isAgg185
 z70:=Tryz.sizeOf185
 v70:=Tryz.zeroValue185
 t72:=Tryz.underlying187
 a72:=Tryz.isAgg187
 z72:=Tryz.sizeOf187
 v72:=Tryz.zeroValue187
 t75:=Tryz.underlying189
 a75:=Tryz.isAgg189
 z75:=Tryz.sizeOf189
 v75:=Tryz.zeroValue189
 t164:=Tryz.underlying257
 a164:=Tryz.isAgg257
 z164:=Tryz.sizeOf257
 v164:=Tryz.zeroValue257
def Tryz.laysByte_ren:Ren:={ f:=fun | 167=>113 | 240=>148 | 276=>176 | n=>n,t:=fun | 0=>0 | 4=>4 | 5=>5 | 9=>9 | 20=>20 | 37=>54 | 70=>185 | 72=>187 | 75=>189 | 164=>257 | 80=>115 | n=>n,g:=fun n=>n }
theorem Tryz.laysByte:Lays.n167 Tryz.prog Tryz.laysByte_ren where
 mixed:=by kernel_rfl
 f167:=by kernel_rfl
 f240:=by kernel_rfl
 f276:=by kernel_rfl
 t0:=Tryz.underlying0
 a0:=Tryz.isAgg0
 z0:=Tryz.sizeOf0
 v0:=Tryz.zeroValue0
 t4:=Tryz.underlying4
 a4:=Tryz.isAgg4
 z4:=Tryz.sizeOf4
 v4:=Tryz.zeroValue4
 t5:=Tryz.underlying5
 a5:=Tryz.isAgg5
 z5:=Tryz.sizeOf5
 v5:=Tryz.zeroValue5
 t9:=Tryz.underlying9
 a9:=Tryz.isAgg9
 z9:=Tryz.sizeOf9
 v9:=Tryz.zeroValue9
 t20:=Tryz.underlying20
 a20:=Tryz.isAgg20
 z20:=Tryz.sizeOf20
 v20:=Tryz.zeroValue20
 t37:=Tryz.underlying54
 a37:=Tryz.isAgg54
 z37:=Tryz.sizeOf54
 v37:=Tryz.zeroValue54
 t70:=Tryz.underlying185
 a70:=Tryz.isAgg185
 z70:=Tryz.sizeOf185
 v70:=Tryz.zeroValue185
 t72:=Tryz.underlying187
 a72:=Tryz.isAgg187
 z72:=Tryz.sizeOf187
 v72:=Tryz.zeroValue187
 t75:=Tryz.underlying189
 a75:=Tryz.isAgg189
 z75:=Tryz.sizeOf189
 v75:=Tryz.zeroValue189
 t164:=Tryz.underlying257
 a164:=Tryz.isAgg257
 z164:=Tryz.sizeOf257
 v164:=Tryz.zeroValue257
shelf_lay Lays.n169 Nm 169 at Tryz as Tryz.laysString
shelf_lay Lays.n170 Nm 170 at Tryz as Tryz.laysLen
end Go.Proofs
namespace Go.Am
open Go.Proofs Go.Shelf Go.RowKit
set_option linter.unusedVariables false
set_option linter.unusedSimpArgs false
def bldT:TypeId:=187
def bldU:TypeId:=5
theorem extra_text:Builder.Extra Tryz.prog Tryz.laysText_ren where
 sizeBuilder:=by kernel_rfl
 liesBuilder:=by kernel_rfl
 t5:=Tryz.underlying5
 a5:=Tryz.isAgg5
 z5:=Tryz.sizeOf5
 v5:=Tryz.zeroValue5
 infoByte:=by kernel_rfl
 cellsByte:=by kernel_rfl
 sizeByte:=by kernel_rfl
 neB5:=by decide
def textE:EffFn:=bText bldT bldU
theorem textE_ok {C:Cfg} (hP:C.P=Tryz.prog) (_:∀ g,C.glob g=none):EffOk C 114 textE:=by
 refine bldE_ok ?_
 rw [hP]
 have h:=text_method Tryz.laysText extra_text
 rw [show Tryz.laysText_ren.f 166=114 by kernel_rfl,show Tryz.laysText_ren.t 72=bldT by kernel_rfl,show Tryz.laysText_ren.t 5=bldU by kernel_rfl] at h
 exact h
theorem extra_byte:Builder.Extra Tryz.prog Tryz.laysByte_ren where
 sizeBuilder:=by kernel_rfl
 liesBuilder:=by kernel_rfl
 t5:=Tryz.underlying5
 a5:=Tryz.isAgg5
 z5:=Tryz.sizeOf5
 v5:=Tryz.zeroValue5
 infoByte:=by kernel_rfl
 cellsByte:=by kernel_rfl
 sizeByte:=by kernel_rfl
 neB5:=by decide
def byteE:EffFn:=bByte bldT bldU
theorem byteE_ok {C:Cfg} (hP:C.P=Tryz.prog) (_:∀ g,C.glob g=none):EffOk C 113 byteE:=by
 refine bldE_ok ?_
 rw [hP]
 have h:=byte_method Tryz.laysByte extra_byte
 rw [show Tryz.laysByte_ren.f 167=113 by kernel_rfl,show Tryz.laysByte_ren.t 72=bldT by kernel_rfl,show Tryz.laysByte_ren.t 5=bldU by kernel_rfl] at h
 exact h
theorem extra_string:Builder.Extra Tryz.prog Tryz.laysString_ren where
 sizeBuilder:=by kernel_rfl
 liesBuilder:=by kernel_rfl
 t5:=Tryz.underlying5
 a5:=Tryz.isAgg5
 z5:=Tryz.sizeOf5
 v5:=Tryz.zeroValue5
 infoByte:=by kernel_rfl
 cellsByte:=by kernel_rfl
 sizeByte:=by kernel_rfl
 neB5:=by decide
def stringE:EffFn:=bString bldT bldU
theorem stringE_ok {C:Cfg} (hP:C.P=Tryz.prog) (_:∀ g,C.glob g=none):EffOk C 116 stringE:=by
 refine bldE_ok ?_
 rw [hP]
 have h:=string_method Tryz.laysString extra_string
 rw [show Tryz.laysString_ren.f 169=116 by kernel_rfl,show Tryz.laysString_ren.t 72=bldT by kernel_rfl,show Tryz.laysString_ren.t 5=bldU by kernel_rfl] at h
 exact h
def lenE:EffFn:=bLen bldT bldU
theorem lenE_ok {C:Cfg} (hP:C.P=Tryz.prog) (_:∀ g,C.glob g=none):EffOk C 119 lenE:=by
 refine bldE_ok ?_
 rw [hP]
 have h:=len_method Tryz.laysLen
 rw [show Tryz.laysLen_ren.f 170=119 by kernel_rfl,show Tryz.laysLen_ren.t 72=bldT by kernel_rfl,show Tryz.laysLen_ren.t 5=bldU by kernel_rfl] at h
 exact h
end Go.Am
