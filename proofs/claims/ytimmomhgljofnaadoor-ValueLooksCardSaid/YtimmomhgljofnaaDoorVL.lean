/- Chapter 8: ValueLooks, the row's form. -/
import Derived.Test.YtimmomhgljofnaaDoorVJ
import Derived.Test.YtimmomhgljofnaaDoorO0
set_option linter.unusedVariables false
set_option linter.unusedSimpArgs false
namespace Go.Proofs.YtimmomhgljofnaaDoor.Hand
open Go.RowKit Go.Proofs.YtimmomhgljofnaaDoorW.PrintWords Go.Proofs.YtimmomhgljofnaaDoorW.PrintLast Go.Proofs.YtimmomhgljofnaaDoorW.PrintMore
theorem in64 {n : Int} (h : (Lit.int .i64 n).wf = true) : InI n := by
  simp [Lit.wf, IntKind.min, IntKind.max, IntKind.signed, IntKind.bits] at h
  unfold InI
  omega
theorem in8 {n : Int} (h : (Lit.int .u8 n).wf = true) : 0 ≤ n ∧ n ≤ 255 := by
  simp [Lit.wf, IntKind.min, IntKind.max, IntKind.signed, IntKind.bits] at h
  omega
theorem ValueLooks_walk (y : List Int) (A : Option Addr) (c : Nat) (a1 a2 a3 : Int) (W : World) (hl : y.length ≤ c) (hk : ∀ W', Has W W' → Kd.C (Kd.int .i64) W' A y.length y) (hg : ShortRow (Tryd.prog.bytesOf 2) (fun n => (Lit.int .i64 n).wf = true) y) (w1 : (Lit.int .u8 a1).wf = true) (w2 : (Lit.int .u8 a2).wf = true) (w3 : (Lit.int .u8 a3).wf = true) :
    Calls Tryd.prog 7 #[.slice A y.length c, .int .u8 a1, .int .u8 a2, .int .u8 a3] W fun e W' => e = .returned (.bool true) ∧ Below W.heap.size W W' :=
  looks_walk a1 a2 a3 (hk W (Has.refl W)) hl (fun n hn => in64 (hg.2 n hn)) (in8 w1).1 (in8 w1).2 (in8 w2).1 (in8 w2).2 (in8 w3).1 (in8 w3).2
end Go.Proofs.YtimmomhgljofnaaDoor.Hand
