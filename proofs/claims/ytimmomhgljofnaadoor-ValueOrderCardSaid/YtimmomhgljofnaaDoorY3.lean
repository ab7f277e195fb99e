/- Chapter 8: ValueOrder, the row's form. -/
import Derived.Test.YtimmomhgljofnaaDoorY2
set_option linter.unusedVariables false
set_option linter.unusedSimpArgs false
namespace Go.Proofs.YtimmomhgljofnaaDoor.Hand
open Go.RowKit Go.Proofs.YtimmomhgljofnaaDoorW.PrintWords Go.Proofs.YtimmomhgljofnaaDoorW.PrintLast Go.Proofs.YtimmomhgljofnaaDoorW.PrintMore
theorem in64 {n : Int} (h : (Lit.int .i64 n).wf = true) : InI n := by
  simp [Lit.wf, IntKind.min, IntKind.max, IntKind.signed, IntKind.bits] at h
  unfold InI
  omega
theorem in8 {n : Int} (h : (Lit.int .u8 n).wf = true) : 0 ≤ n ∧ n ≤ 255 := by
  simp [Lit.wf, IntKind.min, IntKind.max, IntKind.signed, IntKind.bits] at h
  omega
theorem ValueOrder_walk (a0 a1 : Int) (a2 : Bool) (a3 a4 : Int) (W : World) (w0 : (Lit.int .i64 a0).wf = true) (w1 : (Lit.int .i64 a1).wf = true) (w3 : (Lit.int .u8 a3).wf = true) (w4 : (Lit.int .u8 a4).wf = true) (hT : Tabs W) :
    Calls Tryd.prog 8 #[.int .i64 a0, .int .i64 a1, .bool a2, .int .u8 a3, .int .u8 a4] W fun e W' => e = .returned (.bool true) ∧ Below W.heap.size W W' :=
  order_walk a0 a1 a2 a3 a4 hT (in64 w0) (in64 w1) (in8 w3).1 (in8 w3).2 (in8 w4).1 (in8 w4).2
end Go.Proofs.YtimmomhgljofnaaDoor.Hand
