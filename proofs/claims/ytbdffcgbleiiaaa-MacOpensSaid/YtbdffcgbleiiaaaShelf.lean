/-
  Contracts of Go's library at this program: the shelf's, laid by the kit's program. Conditions: none.
-/
import Derived.Shelf.Strings.Builder1
import Derived.Shelf.Strings.Builder2
import Derived.Shelf.Strings.BuilderF
import Derived.Shelf.Strings.Prefix
import Derived.Shelf.Bits.Mul64
import Derived.Shelf.Strings.Repeat
import Derived.Ground.Names2Prog
import Derived.Shelf.Slices.SearchI
import Derived.Test.YtbdffcgbleiiaaaProg
namespace Go.Proofs
open Go.Shelf
set_option linter.unusedVariables false
def Try.lays105_ren : Go.Shelf.Ren := ⟨fun | 105 => 113 | 212 => 131 | 99 => 132 | 165 => 133 | 166 => 134 | 170 => 135 | 169 => 136 | 263 => 144 | 264 => 145 | 206 => 146 | 240 => 147 | 241 => 148 | 276 => 150 | 277 => 151 | n => n, fun | 9 => 9 | 3 => 3 | 4 => 4 | 20 => 20 | 0 => 0 | 46 => 114 | 109 => 198 | 5 => 5 | 72 => 202 | 76 => 206 | 51 => 180 | 146 => 212 | 53 => 30 | 148 => 214 | 70 => 200 | 37 => 110 | 75 => 205 | 127 => 216 | 164 => 218 | 80 => 208 | n => n, fun | n => n⟩
theorem Try.lays105 : Go.Proofs.Lays.n105 Try.prog Try.lays105_ren := {
  mixed := by kernel_rfl
  f99 := Try.func132.trans (congrArg some (by kernel_rfl))
  f105 := Try.func113.trans (congrArg some (by kernel_rfl))
  f165 := Try.func133.trans (congrArg some (by kernel_rfl))
  f166 := Try.func134.trans (congrArg some (by kernel_rfl))
  f169 := Try.func136.trans (congrArg some (by kernel_rfl))
  f170 := Try.func135.trans (congrArg some (by kernel_rfl))
  f206 := Try.func146.trans (congrArg some (by kernel_rfl))
  f212 := Try.func131.trans (congrArg some (by kernel_rfl))
  f240 := Try.func147.trans (congrArg some (by kernel_rfl))
  f241 := Try.func148.trans (congrArg some (by kernel_rfl))
  f263 := Try.func144.trans (congrArg some (by kernel_rfl))
  f264 := Try.func145.trans (congrArg some (by kernel_rfl))
  f276 := Try.func150.trans (congrArg some (by kernel_rfl))
  f277 := Try.func151.trans (congrArg some (by kernel_rfl))
  t0 := Try.underlying0
  a0 := Try.isAgg0
  z0 := Try.sizeOf0
  v0 := Try.zeroValue0
  t3 := Try.underlying3
  a3 := Try.isAgg3
  z3 := Try.sizeOf3
  v3 := Try.zeroValue3
  t4 := Try.underlying4
  a4 := Try.isAgg4
  z4 := Try.sizeOf4
  v4 := Try.zeroValue4
  t5 := Try.underlying5
  a5 := Try.isAgg5
  z5 := Try.sizeOf5
  v5 := Try.zeroValue5
  t9 := Try.underlying9
  a9 := Try.isAgg9
  z9 := Try.sizeOf9
  v9 := Try.zeroValue9
  t20 := Try.underlying20
  a20 := Try.isAgg20
  z20 := Try.sizeOf20
  v20 := Try.zeroValue20
  t37 := Try.underlying110
  a37 := Try.isAgg110
  z37 := Try.sizeOf110
  v37 := Try.zeroValue110
  t46 := Try.underlying114
  a46 := Try.isAgg114
  z46 := Try.sizeOf114
  v46 := Try.zeroValue114
  t51 := Try.underlying180
  a51 := Try.isAgg180
  z51 := Try.sizeOf180
  v51 := Try.zeroValue180
  t53 := Try.underlying30
  a53 := Try.isAgg30
  z53 := Try.sizeOf30
  v53 := Try.zeroValue30
  t70 := Try.underlying200
  a70 := Try.isAgg200
  z70 := Try.sizeOf200
  v70 := Try.zeroValue200
  t72 := Try.underlying202
  a72 := Try.isAgg202
  z72 := Try.sizeOf202
  v72 := Try.zeroValue202
  t75 := Try.underlying205
  a75 := Try.isAgg205
  z75 := Try.sizeOf205
  v75 := Try.zeroValue205
  t76 := Try.underlying206
  a76 := Try.isAgg206
  z76 := Try.sizeOf206
  v76 := Try.zeroValue206
  t109 := Try.underlying198
  a109 := Try.isAgg198
  z109 := Try.sizeOf198
  v109 := Try.zeroValue198
  t127 := Try.underlying216
  a127 := Try.isAgg216
  z127 := Try.sizeOf216
  v127 := Try.zeroValue216
  t146 := Try.underlying212
  a146 := Try.isAgg212
  z146 := Try.sizeOf212
  v146 := Try.zeroValue212
  t148 := Try.underlying214
  a148 := Try.isAgg214
  z148 := Try.sizeOf214
  v148 := Try.zeroValue214
  t164 := Try.underlying218
  a164 := Try.isAgg218
  z164 := Try.sizeOf218
  v164 := Try.zeroValue218 }
theorem Try.Builder_Extra_105 : Builder.Extra Try.prog Try.lays105_ren := {
  sizeBuilder := by kernel_rfl
  liesBuilder := by kernel_rfl
  t5 := Try.underlying5
  a5 := Try.isAgg5
  z5 := Try.sizeOf5
  v5 := Try.zeroValue5
  infoByte := by kernel_rfl
  cellsByte := by kernel_rfl
  sizeByte := by kernel_rfl
  neB5 := by decide }
open Go.RowKit Go.Lib in
theorem Try.strings_Repeat (s : ByteArray) (c : Nat) (w : World) (hc : c ≤ 9223372036854775807) (hlen : s.size * c ≤ 140737488355328) :
    Calls Try.prog 113 #[.string s, .int .i64 c] w fun e w' => e = .returned (.string ⟨(Lib.repeatL s.data.toList c).toArray⟩) ∧ Below w.heap.size w w' := Any.strings_Repeat Try.lays105 Try.Builder_Extra_105 s c w hc hlen
end Go.Proofs
