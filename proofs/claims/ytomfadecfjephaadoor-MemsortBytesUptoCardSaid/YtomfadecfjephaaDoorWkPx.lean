/-
  strings.TrimLeft and strings.Builder, by the library's contracts, as functions of the machine.
-/
import Derived.Shelf.Lay
import Derived.Shelf.Strings.SlTrimAscii
import Derived.Ground.NamesProg
import Derived.Test.YtomfadecfjephaaDoorProg
import Derived.Test.YtomfadecfjephaaDoorEmBex
namespace Go.Proofs
open Go.Shelf Go.RowKit
shelf_lay Lays.n161 Nm 161 at Tryd as Tryd.laysTrim
def Tryd.laysByte_ren : Ren := { f := fun | 167 => 78 | 240 => 99 | 276 => 106 | n => n, t := fun | 0 => 0 | 4 => 4 | 5 => 5 | 9 => 9 | 20 => 20 | 37 => 56 | 70 => 102 | 72 => 104 | 75 => 107 | 164 => 132 | 80 => 109 | n => n, g := fun n => n }
theorem Tryd.laysByte : Lays.n167 Tryd.prog Tryd.laysByte_ren where
  mixed := by kernel_rfl
  f167 := by kernel_rfl
  f240 := by kernel_rfl
  f276 := by kernel_rfl
  t0 := Tryd.underlying0
  a0 := Tryd.isAgg0
  z0 := Tryd.sizeOf0
  v0 := Tryd.zeroValue0
  t4 := Tryd.underlying4
  a4 := Tryd.isAgg4
  z4 := Tryd.sizeOf4
  v4 := Tryd.zeroValue4
  t5 := Tryd.underlying5
  a5 := Tryd.isAgg5
  z5 := Tryd.sizeOf5
  v5 := Tryd.zeroValue5
  t9 := Tryd.underlying9
  a9 := Tryd.isAgg9
  z9 := Tryd.sizeOf9
  v9 := Tryd.zeroValue9
  t20 := Tryd.underlying20
  a20 := Tryd.isAgg20
  z20 := Tryd.sizeOf20
  v20 := Tryd.zeroValue20
  t37 := Tryd.underlying56
  a37 := Tryd.isAgg56
  z37 := Tryd.sizeOf56
  v37 := Tryd.zeroValue56
  t70 := Tryd.underlying102
  a70 := Tryd.isAgg102
  z70 := Tryd.sizeOf102
  v70 := Tryd.zeroValue102
  t72 := Tryd.underlying104
  a72 := Tryd.isAgg104
  z72 := Tryd.sizeOf104
  v72 := Tryd.zeroValue104
  t75 := Tryd.underlying107
  a75 := Tryd.isAgg107
  z75 := Tryd.sizeOf107
  v75 := Tryd.zeroValue107
  t164 := Tryd.underlying132
  a164 := Tryd.isAgg132
  z164 := Tryd.sizeOf132
  v164 := Tryd.zeroValue132
shelf_lay Lays.n169 Nm 169 at Tryd as Tryd.laysString
end Go.Proofs
namespace Go.Am
open Go.Proofs Go.Shelf Go.RowKit
set_option linter.unusedVariables false
def globF (g : Nat) : Option (List AV) := none
theorem bl_size (b : ByteArray) : b.data.toList.length = b.size := by rw [Array.length_toList]; rfl
def bldT : TypeId := 104
def bldU : TypeId := 5
theorem extra_byte : Builder.Extra Tryd.prog Tryd.laysByte_ren where
  sizeBuilder := by kernel_rfl
  liesBuilder := by kernel_rfl
  t5 := Tryd.underlying5
  a5 := Tryd.isAgg5
  z5 := Tryd.sizeOf5
  v5 := Tryd.zeroValue5
  infoByte := by kernel_rfl
  cellsByte := by kernel_rfl
  sizeByte := by kernel_rfl
  neB5 := by decide
theorem extra_string : Builder.Extra Tryd.prog Tryd.laysString_ren where
  sizeBuilder := by kernel_rfl
  liesBuilder := by kernel_rfl
  t5 := Tryd.underlying5
  a5 := Tryd.isAgg5
  z5 := Tryd.sizeOf5
  v5 := Tryd.zeroValue5
  infoByte := by kernel_rfl
  cellsByte := by kernel_rfl
  sizeByte := by kernel_rfl
  neB5 := by decide
def byteE : EffFn := bByte bldT bldU
def stringE : EffFn := bString bldT bldU
theorem byteE_ok {C : Cfg} (hP : C.P = Tryd.prog) (_ : ∀ g, C.glob g = globF g) : EffOk C 78 byteE := by
  refine bldE_ok ?_
  rw [hP]
  have h := byte_method Tryd.laysByte extra_byte
  rw [show Tryd.laysByte_ren.f 167 = 78 by kernel_rfl, show Tryd.laysByte_ren.t 72 = bldT by kernel_rfl, show Tryd.laysByte_ren.t 5 = bldU by kernel_rfl] at h
  exact h
theorem stringE_ok {C : Cfg} (hP : C.P = Tryd.prog) (_ : ∀ g, C.glob g = globF g) : EffOk C 79 stringE := by
  refine bldE_ok ?_
  rw [hP]
  have h := string_method Tryd.laysString extra_string
  rw [show Tryd.laysString_ren.f 169 = 79 by kernel_rfl, show Tryd.laysString_ren.t 72 = bldT by kernel_rfl, show Tryd.laysString_ren.t 5 = bldU by kernel_rfl] at h
  exact h
def trimA (args : List AV) : Option AV :=
  match args with
  | [.str s, .str c] => if c.length < 4294967281 ∧ c.all (fun b => decide (b.toNat < 128)) = true then some (.str (Lib.trimLeftS s c)) else none
  | _ => none
theorem trimA_ok {C : Cfg} (hP : C.P = Tryd.prog) (_ : ∀ g, C.glob g = globF g) : SumOk C 56 trimA := by
  intro W0 S H args args' v hI hW hs ha h
  unfold trimA at h
  split at h
  · rename_i s c
    split at h
    · rename_i hc
      injection h with h
      subst h
      obtain ⟨l⟩ := args'
      match l, hs with
      | [x, y], _ =>
        have h1 := ha 0 _ x rfl rfl
        have h2 := ha 1 _ y rfl rfl
        cases h1 with | str _ b hb =>
        cases h2 with | str _ d hd =>
        subst hb hd
        have := Any.strings_TrimLeft_laid Tryd.laysTrim (by kernel_rfl) b d S.w (by rw [← bl_size]; exact hc.1) (fun j x hx => by
          have := List.all_eq_true.1 hc.2 x (List.mem_of_getElem? hx)
          simpa using this)
        rw [show Tryd.laysTrim_ren.f 161 = 56 by kernel_rfl] at this
        rw [hP]
        refine this.mono ?_
        rintro e w' ⟨rfl, hb⟩
        obtain ⟨r1, r2⟩ := hI.went hb
        exact ⟨_, _, rfl, rfl, r1, r2, .str _ _ (by simp)⟩
    · cases h
  · cases h
end Go.Am
