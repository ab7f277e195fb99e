/- SizeSums: the cases joined. -/
import Derived.Test.YtokfmhgbkladdaaU3
import Derived.Test.YtokfmhgbkladdaaU4
import Derived.OpenShut
set_option linter.unusedVariables false
namespace Go.Proofs.Ytokfmhgbkladdaa.Hand
open Go.RowKit Go.Proofs.Ytokfmhgbkladdaa.PSizeTells Go.Proofs.YtokfmhgbkladdaaW.PrintWords Go.Proofs.YtokfmhgbkladdaaW.PrintLast Go.Proofs.YtokfmhgbkladdaaW.PrintMore

theorem SizeSums_walk (A0 : Option Addr) (c0 : Nat) (l0 : List Int) (A1 : Option Addr) (c1 : Nat) (l1 : List Int) (bad : Int) (w : World) (hr0 : ReadsInt w .u16 A0 l0.length l0) (hm0 : l0.length ≤ maxLen) (hw0 : ∀ x ∈ l0, (Lit.int .u16 x).wf = true) (hc0 : l0.length ≤ c0) (hy0 : l0.length * 2 ≤ 140737488351232)
    (hr1 : ReadsInt w .u16 A1 l1.length l1) (hm1 : l1.length ≤ maxLen) (hw1 : ∀ x ∈ l1, (Lit.int .u16 x).wf = true) (hc1 : l1.length ≤ c1) (hy1 : l1.length * 2 ≤ 140737488351232) (w2 : (Lit.int .i64 bad).wf = true) :
    Calls Try.prog 5 #[.slice A0 l0.length c0, .slice A1 l1.length c1, .int .i64 bad] w fun e w' => e = .returned (.bool true) ∧ Below w.heap.size w w' := by
  cases hf : fit bad <;> rcases Nat.lt_or_ge 6 l0.length with ha | ha <;> rcases Nat.lt_or_ge 6 l1.length with hb | hb
  · exact sums_ge_ge_false A0 c0 l0 A1 c1 l1 bad w hr0 hw0 hr1 hw1 hf ha hb
  · exact sums_ge_all_false A0 c0 l0 A1 c1 l1 bad w hr0 hw0 hr1 hw1 hf ha hb
  · exact sums_all_ge_false A0 c0 l0 A1 c1 l1 bad w hr0 hw0 hr1 hw1 hf ha hb
  · exact sums_all_all_false A0 c0 l0 A1 c1 l1 bad w hr0 hw0 hr1 hw1 hf ha hb
  · exact sums_ge_ge_true A0 c0 l0 A1 c1 l1 bad w hr0 hw0 hr1 hw1 hf ha hb
  · exact sums_ge_all_true A0 c0 l0 A1 c1 l1 bad w hr0 hw0 hr1 hw1 hf ha hb
  · exact sums_all_ge_true A0 c0 l0 A1 c1 l1 bad w hr0 hw0 hr1 hw1 hf ha hb
  · exact sums_all_all_true A0 c0 l0 A1 c1 l1 bad w hr0 hw0 hr1 hw1 hf ha hb
end Go.Proofs.Ytokfmhgbkladdaa.Hand
