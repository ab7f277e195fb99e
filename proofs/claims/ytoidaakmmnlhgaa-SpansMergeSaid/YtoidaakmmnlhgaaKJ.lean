/- Intervals: what Add comes to; the copy and what is put into it as values. -/
import Derived.Test.YtoidaakmmnlhgaaKI
set_option linter.unusedVariables false
set_option linter.unusedSimpArgs false
namespace Go.Proofs.Ytoidaakmmnlhgaa.Hand
open Go.Lib Go.Shelf Go.RowKit Go.Proofs.YtoidaakmmnlhgaaW.PrintWords Go.Proofs.YtoidaakmmnlhgaaW.PrintLast Go.Proofs.YtoidaakmmnlhgaaW.PrintMore
def gapAt (M : List Iv) (k : Nat) : Int := gapU (M.getD (k - 1) (0, 0)) (M.getD k (0, 0))
/-- The least gap of the first k. -/
def leastN (M : List Iv) : Nat → Nat
  | 0 => 1
  | k + 1 => if 1 < k ∧ gapAt M k < gapAt M (leastN M k) then k else leastN M k
def mergeI (M : List Iv) (m : Nat) : List Iv := delI (M.set (m - 1) ((M.getD (m - 1) (0, 0)).1, (M.getD m (0, 0)).2)) m
def atI (L : List Iv) (n : Int) : Nat := if idxB (gtB n) L 0 < 0 then L.length else (idxB (gtB n) L 0).toNat
def addM (L : List Iv) (n : Int) : List Iv := insI L (atI L n) (n, n)
def addL (L : List Iv) (n : Int) : List Iv :=
  if rightL L = false ∨ hasL L n = true then L
  else if (addM L n).length ≤ 4 then addM L n else mergeI (addM L n) (leastN (addM L n) 5)
theorem leastN_pos (M : List Iv) : ∀ k, 1 ≤ leastN M k
  | 0 => Nat.le_refl _
  | k + 1 => by
    unfold leastN
    split
    · omega
    · exact leastN_pos M k
theorem leastN_lt (M : List Iv) : ∀ k, leastN M k < max 2 k
  | 0 => by unfold leastN; omega
  | k + 1 => by
    have := leastN_lt M k
    unfold leastN
    split <;> omega
theorem gap_i {W : World} {ad : Addr} {c : Nat} {L : List Iv} (hr : Kd.C kI W (some ad) L.length L) (hlm : L.length ≤ 140737488351232) (k : Nat) (h1 : 1 ≤ k) (h2 : k < L.length) (i : Int) (hi : i = (k : Int)) :
    Calls Try.prog 29 #[.slice (some ad) L.length c, .int .i64 i] W fun e w' => e = .returned (.int .u64 (gapAt L k)) ∧ Below W.heap.size W w' := by
  subst hi
  obtain ⟨j, rfl⟩ : ∃ j, k = j + 1 := ⟨k - 1, by omega⟩
  have h := gap_c (c := c) hr hlm j L[j] L[j + 1] (List.getElem?_eq_getElem (by omega)) (List.getElem?_eq_getElem h2)
  have e : gapAt L (j + 1) = gapU L[j] L[j + 1] := by
    unfold gapAt
    rw [Nat.add_sub_cancel, List.getD_eq_getElem?_getD, List.getD_eq_getElem?_getD, List.getElem?_eq_getElem (by omega), List.getElem?_eq_getElem h2]
    rfl
  rw [e]
  exact h
/-- A copy, as a value. -/
def Cpd (w : World) (B T : Nat) (v : Value) (L : List Iv) : Prop := (v = .slice none 0 0 ∧ L = []) ∨ ∃ g c, v = .slice (some ⟨g, 0, none⟩) L.length c ∧ RowI w g c L ∧ B ≤ g ∧ g < T
theorem Cpd.below {w w1 : World} {B T : Nat} {v : Value} {L : List Iv} (h : Cpd w B T v L) (hb : Below w.heap.size w w1) : Cpd w1 B T v L := by
  rcases h with h | ⟨g, c, h1, h2, h3⟩
  · exact .inl h
  · exact .inr ⟨g, c, h1, h2.below hb, h3⟩
theorem clone_any {W : World} {A : Option Addr} {n c0 : Nat} {L : List Iv} (hr : Kd.C kI W A n L) (hl : n ≤ 100) :
    Calls Try.prog 28 #[.slice A n c0] W fun e w' => ∃ v, e = .returned v ∧ Cpd w' W.heap.size w'.heap.size v L ∧ Below W.heap.size W w' := by
  have hn := hr.1
  subst hn
  rcases A with _ | ad
  · obtain ⟨_, rfl⟩ := C_nil_eq hr
    refine cloneI_nil.mono ?_
    rintro e w1 ⟨rfl, hb⟩
    exact ⟨_, rfl, .inl ⟨rfl, rfl⟩, hb⟩
  · refine (cloneI_c hr hl).mono ?_
    rintro e w1 ⟨g, c, rfl, hrow, hg, hb⟩
    exact ⟨_, rfl, .inr ⟨g, c, rfl, hrow, hg, hrow.lt⟩, hb⟩
theorem insert_any {W : World} {B B0 T : Nat} {v : Value} {L : List Iv} {i vb : Nat} {x1 x2 : Int} (hv : Cpd W B T v L) (hB0 : B0 ≤ B) (hBW : B0 ≤ W.heap.size) (hT : T ≤ vb ∨ vb < B) (hi : i ≤ L.length) (hl : L.length ≤ 100) (hvb : W.heap[vb]? = some (.cells #[.int .i64 x1, .int .i64 x2] 43 (0, 0))) (q : Int) (hq : q = (i : Int)) (M : List Iv) (hM : insI L i (x1, x2) = M) :
    Calls Try.prog 27 #[v, .int .i64 q, .slice (some ⟨vb, 0, none⟩) 1 1] W fun e w' => ∃ g' c', e = .returned (.slice (some ⟨g', 0, none⟩) M.length c') ∧ RowI w' g' c' M ∧ B0 ≤ g' ∧ Below B0 W w' := by
  subst hq hM
  rw [insI_len _ _ _ hi]
  rcases hv with ⟨rfl, rfl⟩ | ⟨g, c, rfl, hrow, hBg, hgT⟩
  · obtain rfl : i = 0 := by simpa using hi
    refine (insI_nil_c (x := (x1, x2)) hvb).mono ?_
    rintro e w1 ⟨g, c, rfl, hr, hg, hb⟩
    exact ⟨g, c, rfl, hr, by omega, hb.mono hBW⟩
  · refine (insI_c (x := (x1, x2)) hrow hi hl hvb (by omega)).mono ?_
    rintro e w1 ⟨g', c', rfl, hr, hg, hb⟩
    exact ⟨g', c', rfl, hr, by omega, hb.mono (by omega)⟩
theorem below_da {w w1 : World} {o : Obj} (h : Below (w.drew.alloc o).heap.size (w.drew.alloc o) w1) : Below (w.alloc o).heap.size (w.alloc o) w1 := ⟨h.os, h.tape, h.output, h.size, h.block⟩
theorem below_ad {w w1 : World} {o : Obj} (h : Below (w.alloc o).drew.heap.size (w.alloc o).drew w1) : Below (w.alloc o).heap.size (w.alloc o) w1 := ⟨h.os, h.tape, h.output, h.size, h.block⟩
theorem RowI.cap {w : World} {g c : Nat} {L : List Iv} (h : RowI w g c L) : L.length ≤ c := by
  obtain ⟨cur, _, _, h, _⟩ := h
  exact h
theorem RowI.froz {w : World} {g c : Nat} {L : List Iv} (h : RowI w g c L) (j : Nat) : w.frozen? ⟨g, j, none⟩ = false := by
  obtain ⟨cur, hb, _⟩ := h
  exact blk_frozen hb j
theorem below_in {W0 W W1 : World} {B : Nat} (h : Below W0.heap.size W0 W) (hb : Below B W W1) (hB : W0.heap.size ≤ B) : Below W0.heap.size W0 W1 := below_weaken h hB hb
/-- The end of one element is set. -/
theorem RowI.setEnd {W : World} {g c : Nat} {L : List Iv} (h : RowI W g c L) (k : Nat) (hk : k < L.length) (x : Iv) (hx : L[k]? = some x) (b : Int) : RowI (W.setCell ⟨g, k * 2 + 1, none⟩ (.int .i64 b)) g c (L.set k (x.1, b)) := by
  obtain ⟨cur, hb, hs, hc, hm, hcx⟩ := h
  refine ⟨_, blk_set hb _ _, by rw [Array.size_setIfInBounds]; exact hs, by rw [List.length_set]; exact hc, hm, fun j hj => ?_⟩
  rw [List.length_set] at hj
  have hke : k < (L.set k (x.1, b)).length := by rw [List.length_set]; exact hk
  have hset : (flatI (L.set k (x.1, b)))[j]? = if j = k * 2 + 1 then some (.int .i64 b) else (flatI L)[j]? := by
    have e : L.set k (x.1, b) = L.take k ++ (x.1, b) :: L.drop (k + 1) := List.set_eq_take_append_cons_drop.trans (if_pos hk)
    have e0 : L = L.take k ++ x :: L.drop (k + 1) := by
      obtain ⟨hk', e'⟩ := List.getElem?_eq_some_iff.1 hx
      have h := (List.take_append_drop k L).symm
      rw [List.drop_eq_getElem_cons hk', e'] at h
      exact h
    have hl : (flatI (L.take k)).length = k * 2 := by rw [flat_len, List.length_take, Nat.min_eq_left (by omega)]
    rw [e]
    conv => rhs; rw [show (flatI L)[j]? = (flatI (L.take k ++ x :: L.drop (k + 1)))[j]? by rw [← e0]]
    rw [flat_app, flat_app]
    by_cases h1 : j < k * 2
    · rw [if_neg (by omega), List.getElem?_append_left (by omega), List.getElem?_append_left (by omega)]
    · rw [List.getElem?_append_right (by omega), List.getElem?_append_right (by omega), hl]
      obtain ⟨m, rfl⟩ : ∃ m, j = k * 2 + m := ⟨j - k * 2, by omega⟩
      rw [Nat.add_sub_cancel_left]
      rcases m with _ | _ | m
      · rw [if_neg (by omega)]; rfl
      · rw [if_pos rfl]; rfl
      · rw [if_neg (by omega)]; rfl
  rw [hset]
  by_cases e : j = k * 2 + 1
  · rw [if_pos e, e, Array.getElem?_setIfInBounds_self_of_lt (by omega)]
  · rw [if_neg e, Array.getElem?_setIfInBounds_ne (fun h => e h.symm)]
    exact hcx j hj
theorem idxB_cases {α : Type} (p : α → Bool) : ∀ (L : List α) (m : Nat), idxB p L m = -1 ∨ ∃ k, idxB p L m = ((m + k : Nat) : Int) ∧ k < L.length
  | [], _ => .inl rfl
  | x :: r, m => by
    unfold idxB
    split
    · exact .inr ⟨0, rfl, by simp⟩
    · rcases idxB_cases p r (m + 1) with h | ⟨k, h, hk⟩
      · exact .inl h
      · exact .inr ⟨k + 1, by rw [h]; congr 1; omega, by simpa using hk⟩
theorem atI_cases (L : List Iv) (n : Int) : (idxB (gtB n) L 0 = -1 ∧ atI L n = L.length) ∨ ∃ k : Nat, idxB (gtB n) L 0 = (k : Int) ∧ atI L n = k ∧ k < L.length := by
  unfold atI
  rcases idxB_cases (gtB n) L 0 with h | ⟨k, h, hk⟩
  · exact .inl ⟨h, by rw [h]; rfl⟩
  · rw [Nat.zero_add] at h
    exact .inr ⟨k, h, by rw [h, if_neg (by omega)]; omega, hk⟩
theorem atI_le (L : List Iv) (n : Int) : atI L n ≤ L.length := by
  rcases atI_cases L n with ⟨_, h⟩ | ⟨k, _, h, hk⟩ <;> omega
theorem rightL_len {L : List Iv} (h : rightL L = true) : L.length ≤ 4 := by
  unfold rightL at h
  rw [Bool.and_eq_true] at h
  exact of_decide_eq_true h.2
theorem Cpd.weak {w : World} {B B' T : Nat} {v : Value} {L : List Iv} (h : Cpd w B T v L) (hb : B' ≤ B) : Cpd w B' T v L := by
  rcases h with h | ⟨g, c, h1, h2, h3, h4⟩
  · exact .inl h
  · exact .inr ⟨g, c, h1, h2, Nat.le_trans hb h3, h4⟩
theorem blk_in {w w1 : World} {B g : Nat} {o : Obj} (h : w.heap[g]? = some o) (hb : Below B w w1) (hg : g < B) : w1.heap[g]? = some o := (hb.block g hg).trans h
theorem RowI.far {W : World} {g c b j : Nat} {L : List Iv} (h : RowI W g c L) (hne : g ≠ b) (v : Value) : RowI (W.setCell ⟨b, j, none⟩ v) g c L := by
  obtain ⟨cur, hb, hx⟩ := h
  exact ⟨cur, (Below.heap_setCell W ⟨b, j, none⟩ v g hne).trans hb, hx⟩
end Go.Proofs.Ytoidaakmmnlhgaa.Hand
