/-
  strings.TrimLeft and strings.Builder as functions of the machine.
-/
import Derived.Shelf.Lay
import Derived.Shelf.Strings.SlTrimAscii
import Derived.Ground.NamesProg
import Derived.Test.YtehanadfidoodaaGreatDoorProg
import Derived.Test.YtehanadfidoodaaGreatDoorEmBex
namespace Go.Proofs
open Go.Shelf Go.RowKit
shelf_lay Lays.n161 Nm 161 at Tryz as Tryz.laysTrim
def Tryz.laysByte_ren:Ren:={ f:=fun | 167=>196 | 240=>207 | 276=>239 | n=>n,t:=fun | 0=>0 | 4=>4 | 5=>5 | 9=>9 | 20=>20 | 37=>123 | 70=>190 | 72=>192 | 75=>195 | 164=>251 | 80=>198 | n=>n,g:=fun n=>n }
theorem Tryz.laysByte:Lays.n167 Tryz.prog Tryz.laysByte_ren where
 mixed:=by kernel_rfl
 f167:=by kernel_rfl
 f240:=by kernel_rfl
 f276:=by kernel_rfl
 t0:=Tryz.underlying0
 a0:=Tryz.isAgg0
 z0:=Tryz.sizeOf0
 v0:=Tryz.zeroValue0
 t4:=Tryz.underlying4
 a4:=Tryz.isAgg4
 z4:=Tryz.sizeOf4
 v4:=Tryz.zeroValue4
 t5:=Tryz.underlying5
 a5:=Tryz.isAgg5
 z5:=Tryz.sizeOf5
 v5:=Tryz.zeroValue5
 t9:=Tryz.underlying9
 a9:=Tryz.isAgg9
 z9:=Tryz.sizeOf9
 v9:=Tryz.zeroValue9
 t20:=Tryz.underlying20
 a20:=Tryz.isAgg20
 z20:=Tryz.sizeOf20
 v20:=Tryz.zeroValue20
 t37:=Tryz.underlying123
 a37:=Tryz.isAgg123
 z37:=Tryz.sizeOf123
 v37:=Tryz.zeroValue123
 t70:=Tryz.underlying190
 a70:=Tryz.isAgg190
 z70:=Tryz.sizeOf190
 v70:=Tryz.zeroValue190
 t72:=Tryz.underlying192
 a72:=Tryz.isAgg192
 z72:=Tryz.sizeOf192
 v72:=Tryz.zeroValue192
 t75:=Tryz.underlying195
 a75:=Tryz.isAgg195
 z75:=Tryz.sizeOf195
 v75:=Tryz.zeroValue195
 t164:=Tryz.underlying251
 a164:=Tryz.isAgg251
 z164:=Tryz.sizeOf251
 v164:=Tryz.zeroValue251
shelf_lay Lays.n169 Nm 169 at Tryz as Tryz.laysString
end Go.Proofs
namespace Go.Am
open Go.Proofs Go.Shelf Go.RowKit
set_option linter.unusedVariables false
set_option linter.unusedSimpArgs false
def ZsO (g:Nat):Option (List AV):=none
theorem ZIf (b:ByteArray):b.data.toList.length=b.size:=by rw [Array.length_toList];rfl
def bldT:TypeId:=192
def bldU:TypeId:=5
theorem ZDa:Builder.Extra Tryz.prog Tryz.laysByte_ren where
 sizeBuilder:=by kernel_rfl
 liesBuilder:=by kernel_rfl
 t5:=Tryz.underlying5
 a5:=Tryz.isAgg5
 z5:=Tryz.sizeOf5
 v5:=Tryz.zeroValue5
 infoByte:=by kernel_rfl
 cellsByte:=by kernel_rfl
 sizeByte:=by kernel_rfl
 neB5:=by decide
theorem ZAd:Builder.Extra Tryz.prog Tryz.laysString_ren where
 sizeBuilder:=by kernel_rfl
 liesBuilder:=by kernel_rfl
 t5:=Tryz.underlying5
 a5:=Tryz.isAgg5
 z5:=Tryz.sizeOf5
 v5:=Tryz.zeroValue5
 infoByte:=by kernel_rfl
 cellsByte:=by kernel_rfl
 sizeByte:=by kernel_rfl
 neB5:=by decide
def byteE:EffFn:=ZHK bldT bldU
def stringE:EffFn:=ZId bldT bldU
theorem ZGs {C:Cfg} (hP:C.P=Tryz.prog) (_:∀ g,C.glob g=ZsO g):ZsE C 196 byteE:=by
 refine ZBT ?_
 rw [hP]
 have h:=ZBc Tryz.laysByte ZDa
 rw [show Tryz.laysByte_ren.f 167=196 by kernel_rfl,show Tryz.laysByte_ren.t 72=bldT by kernel_rfl,show Tryz.laysByte_ren.t 5=bldU by kernel_rfl] at h
 exact h
theorem ZE2 {C:Cfg} (hP:C.P=Tryz.prog) (_:∀ g,C.glob g=ZsO g):ZsE C 172 stringE:=by
 refine ZBT ?_
 rw [hP]
 have h:=Zzr Tryz.laysString ZAd
 rw [show Tryz.laysString_ren.f 169=172 by kernel_rfl,show Tryz.laysString_ren.t 72=bldT by kernel_rfl,show Tryz.laysString_ren.t 5=bldU by kernel_rfl] at h
 exact h
def ZsX (args:List AV):Option AV :=
 match args with
 | [.str s,.str c]=>if c.length < 4294967281∧c.all (fun b=>decide (b.toNat < 128))=true then some (.str (Lib.trimLeftS s c)) else none
 | _=>none
theorem ZHA {C:Cfg} (hP:C.P=Tryz.prog) (_:∀ g,C.glob g=ZsO g):ZCj C 156 ZsX:=by
 intro W0 S H args args' v hI hW hs ha h
 unfold ZsX at h
 split at h
 ·rename_i s c
  split at h
  ·rename_i hc
   injection h with h
   subst h
   obtain ⟨l⟩:=args'
   match l,hs with
   | [x,y],_ =>
    have h1:=ha 0 _ x rfl rfl
    have h2:=ha 1 _ y rfl rfl
    cases h1 with | str _ b hb =>
    cases h2 with | str _ d hd =>
    subst hb hd
    have:=Any.strings_TrimLeft_laid Tryz.laysTrim (by kernel_rfl) b d S.w (by rw [← ZIf];exact hc.1) (fun j x hx=>by
     have:=List.all_eq_true.1 hc.2 x (List.mem_of_getElem? hx)
     simpa using this)
    rw [show Tryz.laysTrim_ren.f 161=156 by kernel_rfl] at this
    rw [hP]
    refine this.mono ?_
    rintro e w' ⟨rfl,hb⟩
    obtain ⟨r1,r2⟩:=hI.went hb
    exact ⟨_,_,rfl,rfl,r1,r2,.str _ _ (by simp)⟩
  ·cases h
 ·cases h
end Go.Am
