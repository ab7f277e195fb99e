/- Chapter 8: ValueLooks' plain laws (hand). -/
import Derived.Test.YtimmomhgljofnaaDoorVI
set_option linter.unusedVariables false
set_option linter.unusedSimpArgs false
namespace Go.Proofs.YtimmomhgljofnaaDoor.Hand
open Go.Proofs.YtimmomhgljofnaaDoor.PValueBad
open Go.RowKit Go.Proofs.YtimmomhgljofnaaDoorW.PrintWords Go.Proofs.YtimmomhgljofnaaDoorW.PrintLast Go.Proofs.YtimmomhgljofnaaDoorW.PrintMore
theorem bin_none (n f : ByteArray) : binF ⟨n, [], []⟩ f = (0, false) := by
  unfold binF
  rw [if_pos (.inl (by show (-1 : Int) < 0; decide))]
theorem look_more (B : List S55) (n f : ByteArray) : lookF (B ++ [⟨n, [], []⟩]) n f = (0, false) := by
  unfold lookF
  rw [lastB_at (m := B.length) (y := ⟨n, [], []⟩) (by simp) (by unfold isB; simp) (fun j z hj hz => by
    have := (List.getElem?_eq_some_iff.1 hz).1
    rw [List.length_append] at this
    simp at this
    omega)]
  exact bin_none n f
/-- The least one that is so, of those from m on: where, or -1. -/
def LeastR {α : Type} (p : α → Bool) (L : List α) (m : Nat) (v : Int) : Prop := (v = -1 ∧ ∀ (j : Nat) (y : α), m ≤ j → L[j]? = some y → p y = false) ∨ ∃ (k : Nat) (y : α), v = (k : Int) ∧ m ≤ k ∧ L[k]? = some y ∧ p y = true ∧ ∀ (j : Nat) (z : α), m ≤ j → j < k → L[j]? = some z → p z = false
theorem LeastR.start {α : Type} (p : α → Bool) (L : List α) : LeastR p L L.length (-1) := .inl ⟨rfl, fun j y hj hy => by have := (List.getElem?_eq_some_iff.1 hy).1; omega⟩
theorem LeastR.step {α : Type} {p : α → Bool} {L : List α} {m : Nat} {v : Int} (h : LeastR p L (m + 1) v) {y : α} (hy : L[m]? = some y) : (p y = true → LeastR p L m (m : Int)) ∧ (p y = false → LeastR p L m v) := by
  constructor
  · intro hb
    exact .inr ⟨m, y, rfl, Nat.le_refl _, hy, hb, fun j z h1 h2 _ => by omega⟩
  · intro hb
    have key : ∀ (j : Nat) (x : α), m ≤ j → L[j]? = some x → (m + 1 ≤ j → p x = false) → p x = false := by
      intro j x hj hx hh
      by_cases e : j = m
      · subst e
        rw [hy] at hx
        rw [← Option.some.inj hx]
        exact hb
      · exact hh (by omega)
    rcases h with ⟨rfl, h⟩ | ⟨k, z, rfl, hk, hz, h1, h2⟩
    · exact .inl ⟨rfl, fun j x hj hx => key j x hj hx (fun h3 => h j x h3 hx)⟩
    · exact .inr ⟨k, z, rfl, by omega, hz, h1, fun j x hj hj2 hx => key j x hj hx (fun h3 => h2 j x h3 hj2 hx)⟩
theorem LeastR.idx {α : Type} {p : α → Bool} {L : List α} {v : Int} (h : LeastR p L 0 v) : idxB p L 0 = v := by
  rcases h with ⟨rfl, h⟩ | ⟨k, y, rfl, _, hy, hb, h⟩
  · refine idxB_none p L 0 ?_
    rw [List.any_eq_false]
    intro y hy
    obtain ⟨j, hj⟩ := List.getElem?_of_mem hy
    rw [h j y (Nat.zero_le _) hj]
    simp
  · rw [idxB_at p L k 0 y hy hb, Nat.zero_add]
    rw [List.any_eq_false]
    intro z hz
    obtain ⟨j, hj⟩ := List.getElem?_of_mem hz
    have hjk : j < k := by
      have := (List.getElem?_eq_some_iff.1 hj).1
      rw [List.length_take] at this
      omega
    rw [List.getElem?_take_of_lt hjk] at hj
    rw [h j z (Nat.zero_le _) hjk hj]
    simp
end Go.Proofs.YtimmomhgljofnaaDoor.Hand
