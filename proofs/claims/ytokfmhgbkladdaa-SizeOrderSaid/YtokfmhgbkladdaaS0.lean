/- Plain facts on the sizes of blocks, and the calls of package size in a closed form. -/
import Derived.Test.YtokfmhgbkladdaaPSizeTellsx1
namespace Go.Proofs.Ytokfmhgbkladdaa.Hand
open Go.RowKit Go.Proofs.Ytokfmhgbkladdaa.PSizeTells Go.Proofs.YtokfmhgbkladdaaW.PrintWords Go.Proofs.YtokfmhgbkladdaaW.PrintLast Go.Proofs.YtokfmhgbkladdaaW.PrintMore

def cls (n : Int) : Int := if n < 0 then -1 else if n ≤ 16 then 0 else if n ≤ 32 then 1 else if n ≤ 64 then 2 else if n ≤ 128 then 3 else if n ≤ 256 then 4 else if n ≤ 512 then 5 else if n ≤ 1024 then 6 else -1
def rnd (n : Int) : Int := if n < 0 then 0 else if n ≤ 16 then 16 else if n ≤ 32 then 32 else if n ≤ 64 then 64 else if n ≤ 128 then 128 else if n ≤ 256 then 256 else if n ≤ 512 then 512 else if n ≤ 1024 then 1024 else 0
def fit (n : Int) : Bool := decide (0 ≤ n) && decide (n ≤ 1024)

theorem shl0 : shl .i64 16 0 = 16 := by decide
theorem shl1 : shl .i64 16 1 = 32 := by decide
theorem shl2 : shl .i64 16 2 = 64 := by decide
theorem shl3 : shl .i64 16 3 = 128 := by decide
theorem shl4 : shl .i64 16 4 = 256 := by decide
theorem shl5 : shl .i64 16 5 = 512 := by decide
theorem shl6 : shl .i64 16 6 = 1024 := by decide
theorem w01 : wrap64 (0 + 1) = 1 := by unfold wrap64; omega
theorem w12 : wrap64 (1 + 1) = 2 := by unfold wrap64; omega
theorem w23 : wrap64 (2 + 1) = 3 := by unfold wrap64; omega
theorem w34 : wrap64 (3 + 1) = 4 := by unfold wrap64; omega
theorem w45 : wrap64 (4 + 1) = 5 := by unfold wrap64; omega
theorem w56 : wrap64 (5 + 1) = 6 := by unfold wrap64; omega
theorem w67 : wrap64 (6 + 1) = 7 := by unfold wrap64; omega

theorem class_f (n : Int) : size_Class.f 10 n = some (cls n) := by
  unfold size_Class.f cls
  by_cases h : n < 0
  · simp [h, size_Class.j0]
  · rw [if_neg h, if_neg h]
    by_cases h2 : n > 1024
    · rw [decide_eq_true h2]
      simp only [size_Class.j0, if_true]
      repeat rw [if_neg (by omega)]
    · rw [decide_eq_false h2]
      simp only [size_Class.j0, Bool.false_eq_true, if_false, size_Class.l0, shl0, shl1, shl2, shl3, shl4, shl5, shl6, w01, w12, w23, w34, w45, w56]
      simp only [show (0 : Int) ≤ 0 from by decide, show (0 : Int) ≤ 1 from by decide, show (0 : Int) ≤ 2 from by decide, show (0 : Int) ≤ 3 from by decide, show (0 : Int) ≤ 4 from by decide, show (0 : Int) ≤ 5 from by decide, show (0 : Int) ≤ 6 from by decide, if_true]
      repeat' split
      all_goals first | rfl | omega

theorem round_f (n : Int) : size_Round.f 10 n = some (rnd n, fit n) := by
  unfold size_Round.f
  rw [class_f]
  simp only [Option.bind_some]
  unfold cls rnd fit
  repeat' split
  all_goals first | omega | (simp [shl0, shl1, shl2, shl3, shl4, shl5, shl6]; try omega)

theorem class_c (n : Int) (w : World) : Calls Try.prog 15 #[.int .i64 n] w fun e w' => e = .returned (.int .i64 (cls n)) ∧ Drawn0 w w' := size_Class.calls 10 n _ w (class_f n)
theorem round_c (n : Int) (w : World) : Calls Try.prog 9 #[.int .i64 n] w fun e w' => e = .returned (.tuple #[.int .i64 (rnd n), .bool (fit n)]) ∧ Drawn0 w w' := size_Round.calls 10 n _ _ w (round_f n)

def sevens : List Int := [16, 32, 64, 128, 256, 512, 1024]
theorem classes_f : size_Classes.f 10 = some sevens := by
  decide +kernel
end Go.Proofs.Ytokfmhgbkladdaa.Hand
