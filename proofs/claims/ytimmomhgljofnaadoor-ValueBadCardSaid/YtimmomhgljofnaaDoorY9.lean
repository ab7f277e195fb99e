/- Chapter 8: ValueBad, the row's form. -/
import Derived.Test.YtimmomhgljofnaaDoorY8
import Derived.Test.YtimmomhgljofnaaDoorO0
set_option linter.unusedVariables false
set_option linter.unusedSimpArgs false
namespace Go.Proofs.YtimmomhgljofnaaDoor.Hand
open Go.RowKit Go.Proofs.YtimmomhgljofnaaDoorW.PrintWords Go.Proofs.YtimmomhgljofnaaDoorW.PrintLast Go.Proofs.YtimmomhgljofnaaDoorW.PrintMore
theorem in64 {n : Int} (h : (Lit.int .i64 n).wf = true) : InI n := by
  simp [Lit.wf, IntKind.min, IntKind.max, IntKind.signed, IntKind.bits] at h
  unfold InI
  omega
theorem in8 {n : Int} (h : (Lit.int .u8 n).wf = true) : 0 ≤ n ∧ n ≤ 255 := by
  simp [Lit.wf, IntKind.min, IntKind.max, IntKind.signed, IntKind.bits] at h
  omega
theorem short8 {l : List Int} (h : ShortRow (Tryd.prog.bytesOf 5) (fun n => (Lit.int .u8 n).wf = true) l) : (∀ n ∈ l, 0 ≤ n ∧ n ≤ 255) ∧ l.length ≤ 140737488351232 := by
  have e : Tryd.prog.bytesOf 5 = 1 := by kernel_rfl
  refine ⟨fun n hn => in8 (h.2 n hn), ?_⟩
  have := h.1
  rw [e] at this
  omega
theorem ValueBad_walk (l : List Int) (A0 : Option Addr) (c0 : Nat) (m : List Int) (A1 : Option Addr) (c1 : Nat) (v : List Int) (A2 : Option Addr) (c2 : Nat) (a3 : Int) (W : World)
    (hl0 : l.length ≤ c0) (hk0 : ∀ W', Has W W' → Kd.C (Kd.int .u8) W' A0 l.length l) (hg0 : ShortRow (Tryd.prog.bytesOf 5) (fun n => (Lit.int .u8 n).wf = true) l)
    (hl1 : m.length ≤ c1) (hk1 : ∀ W', Has W W' → Kd.C (Kd.int .u8) W' A1 m.length m) (hg1 : ShortRow (Tryd.prog.bytesOf 5) (fun n => (Lit.int .u8 n).wf = true) m)
    (hl2 : v.length ≤ c2) (hk2 : ∀ W', Has W W' → Kd.C (Kd.int .i64) W' A2 v.length v) (hg2 : ShortRow (Tryd.prog.bytesOf 2) (fun n => (Lit.int .i64 n).wf = true) v) (w3 : (Lit.int .u8 a3).wf = true) (hT : Tabs W) :
    Calls Tryd.prog 6 #[.slice A0 l.length c0, .slice A1 m.length c1, .slice A2 v.length c2, .int .u8 a3] W fun e W' => e = .returned (.bool true) ∧ Below W.heap.size W W' :=
  bad_walk a3 hT hl0 (short8 hg0).1 (short8 hg0).2 hk0 hl1 (short8 hg1).1 (short8 hg1).2 hk1 (hk2 W (Has.refl W)) hl2 (fun n hn => in64 (hg2.2 n hn)) (in8 w3).1 (in8 w3).2
end Go.Proofs.YtimmomhgljofnaaDoor.Hand
