/- slices.Insert at []int, laid at this seat from the shelf. -/
import Derived.Shelf.Spec.SlicesInsert
import Derived.Shelf.Spec.SlicesInsertGrow
import Derived.Test.YtdnpfnoobjbanaaH4
set_option linter.unusedVariables false
set_option linter.unusedSimpArgs false
namespace Go.Proofs
open Go.Shelf
def Try.lays221_ren : Go.Shelf.Ren := ⟨fun | 21 => 36 | 27 => 43 | 28 => 44 | 35 => 48 | 39 => 49 | n => n, fun | 22 => 51 | 3 => 3 | 4 => 4 | 0 => 0 | n => n, fun | n => n⟩
theorem Try.lays221 : Go.Proofs.Lays2.n21 Try.prog Try.lays221_ren := {
  mixed := by kernel_rfl
  f21 := Try.func36.trans (congrArg some (by kernel_rfl))
  f27 := Try.func43.trans (congrArg some (by kernel_rfl))
  f28 := Try.func44.trans (congrArg some (by kernel_rfl))
  f35 := Try.func48.trans (congrArg some (by kernel_rfl))
  f39 := Try.func49.trans (congrArg some (by kernel_rfl))
  t0 := Try.underlying0
  a0 := Try.isAgg0
  z0 := Try.sizeOf0
  v0 := Try.zeroValue0
  t3 := Try.underlying3
  a3 := Try.isAgg3
  z3 := Try.sizeOf3
  v3 := Try.zeroValue3
  t4 := Try.underlying4
  a4 := Try.isAgg4
  z4 := Try.sizeOf4
  v4 := Try.zeroValue4
  t22 := Try.underlying51
  a22 := Try.isAgg51
  z22 := Try.sizeOf51
  v22 := Try.zeroValue51
  i3 := by kernel_rfl }
end Go.Proofs
