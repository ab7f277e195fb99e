/- Intervals: rows of them, what the methods come to. -/
import Derived.Test.YtoidaakmmnlhgaaPSpansTellsx0
import Derived.OpenShut
import Derived.Deep.DeepCutAuto
import Derived.Deep.Slices
set_option linter.unusedVariables false
set_option linter.unusedSimpArgs false
namespace Go.Proofs.Ytoidaakmmnlhgaa.Hand
open Go.RowKit Go.Proofs.YtoidaakmmnlhgaaW.PrintWords Go.Proofs.YtoidaakmmnlhgaaW.PrintLast Go.Proofs.YtoidaakmmnlhgaaW.PrintMore
theorem blk_new' {w : World} {o : Obj} {g : Nat} (h : g = w.heap.size) : (w.alloc o).heap[g]? = some o := by subst h; exact blk_new w o
abbrev Iv := Int × Int
def kI : Kd Iv := Kd.pair (Kd.int .i64) (Kd.int .i64)
def hitB (lo hi : Int) (x : Iv) : Bool := decide (x.1 ≤ x.2) && (decide (x.1 ≤ hi) && decide (lo ≤ x.2))
def meetsL (L : List Iv) (lo hi : Int) : Bool := decide (lo ≤ hi) && L.any (hitB lo hi)
def hasL (L : List Iv) (n : Int) : Bool := meetsL L n n
theorem meets1_c {W : World} {bh bl : Nat} {hi lo : Int} (hh : W.heap[bh]? = some (.cells #[.int .i64 hi] 2 (0, 0))) (hl : W.heap[bl]? = some (.cells #[.int .i64 lo] 2 (0, 0))) (x : Iv) :
    Calls Try.prog 32 #[.agg #[.int .i64 x.1, .int .i64 x.2], .pointer (some ⟨bh, 0, none⟩), .pointer (some ⟨bl, 0, none⟩)] W fun e w' => e = .returned (.bool (hitB lo hi x)) ∧ Below W.heap.size W w' := by
  obtain ⟨a, b⟩ := x
  have HB := Aside0.mk (Below.refl W.heap.size W)
  have q0 := blk_cell hh 0
  have q1 := blk_cell hl 0
  have l0 := blk_lt hh
  have l1 := blk_lt hl
  simp only [List.getElem?_toArray, List.getElem?_cons_zero] at q0 q1
  by_cases h1 : a ≤ b
  · by_cases h2 : a ≤ hi
    · go_enter Try.func32, Try.ntmps32
      go_wp2
      all_goals (try (exfalso; omega))
      all_goals go_ret
      all_goals exact ⟨by simp [hitB, h1, h2] <;> omega, (by repeat (first | (with_reducible first | exact HB.out | apply below_alloc | apply pw_below_drewN | apply below_drew1) | exact HB.out))⟩
    · go_enter Try.func32, Try.ntmps32
      go_wp2
      all_goals (try (exfalso; omega))
      all_goals go_ret
      all_goals exact ⟨by simp [hitB, h1, h2] <;> omega, (by repeat (first | (with_reducible first | exact HB.out | apply below_alloc | apply pw_below_drewN | apply below_drew1) | exact HB.out))⟩
  · go_enter Try.func32, Try.ntmps32
    go_wp2
    all_goals (try (exfalso; omega))
    all_goals go_ret
    all_goals exact ⟨by simp [hitB, h1] <;> omega, (by repeat (first | (with_reducible first | exact HB.out | apply below_alloc | apply pw_below_drewN | apply below_drew1) | exact HB.out))⟩
/-- The first of a row where something holds, or -1. -/
def idxB {α : Type} (p : α → Bool) : List α → Nat → Int
  | [], _ => -1
  | x :: r, k => if p x then (k : Int) else idxB p r (k + 1)
end Go.Proofs.Ytoidaakmmnlhgaa.Hand
