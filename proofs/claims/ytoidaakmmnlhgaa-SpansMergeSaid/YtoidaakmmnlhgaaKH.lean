/- Intervals: where a number goes. -/
import Derived.Test.YtoidaakmmnlhgaaKG
set_option linter.unusedVariables false
set_option linter.unusedSimpArgs false
namespace Go.Proofs.Ytoidaakmmnlhgaa.Hand
open Go.RowKit Go.Proofs.YtoidaakmmnlhgaaW.PrintWords Go.Proofs.YtoidaakmmnlhgaaW.PrintLast Go.Proofs.YtoidaakmmnlhgaaW.PrintMore
def gtB (n : Int) (x : Iv) : Bool := decide (n < x.1)
theorem idxB_skip {α : Type} (p : α → Bool) : ∀ (L : List α) (k m : Nat), (L.take k).any p = false → k ≤ L.length → idxB p L m = idxB p (L.drop k) (m + k)
  | L, 0, m, _, _ => by rw [List.drop_zero, Nat.add_zero]
  | [], k + 1, m, _, h => by simp at h
  | x :: r, k + 1, m, h, hk => by
    rw [List.take_succ_cons, List.any_cons, Bool.or_eq_false_iff] at h
    rw [List.drop_succ_cons, show m + (k + 1) = (m + 1) + k by omega, ← idxB_skip p r k (m + 1) h.2 (by simpa using hk)]
    simp [idxB, h.1]
theorem idxB_at {α : Type} (p : α → Bool) (L : List α) (k : Nat) (x : α) (hx : L[k]? = some x) (h : (L.take k).any p = false) (hp : p x = true) : idxB p L 0 = (k : Int) := by
  obtain ⟨hk, e⟩ := List.getElem?_eq_some_iff.1 hx
  rw [idxB_skip p L k 0 h (by omega), List.drop_eq_getElem_cons hk, e]
  simp [idxB, hp]
theorem idxB_none {α : Type} (p : α → Bool) (L : List α) (h : L.any p = false) : idxB p L 0 = -1 := by
  rw [idxB_skip p L L.length 0 (by rw [List.take_length]; exact h) (Nat.le_refl _), List.drop_length]
  rfl
set_option maxHeartbeats 1000000 in
set_option maxRecDepth 100000 in
theorem add1_c {W : World} {g : Nat} {n : Int} (hs : W.heap[g]? = some (.cells #[.int .i64 n] 2 (0, 0))) (x : Iv) (b : Bool) (hb : gtB n x = b) :
    Calls Try.prog 26 #[.agg #[.int .i64 x.1, .int .i64 x.2], .pointer (some ⟨g, 0, none⟩)] W fun e w' => e = .returned (.bool b) ∧ Below W.heap.size W w' := by
  subst hb
  obtain ⟨a, b⟩ := x
  have HB := Aside0.mk (Below.refl W.heap.size W)
  have s0 := blk_cell hs 0
  have sl := blk_lt hs
  simp only [List.getElem?_toArray, List.getElem?_cons_zero] at s0
  by_cases h1 : n < a
  · go_enter Try.func26, Try.ntmps26
    go_wp2
    all_goals (try (exfalso; omega))
    all_goals go_ret
    all_goals exact ⟨by simp [gtB, h1], (by repeat (first | (with_reducible first | exact HB.out | apply below_alloc | apply pw_below_drewN | apply below_drew1) | exact HB.out))⟩
  · go_enter Try.func26, Try.ntmps26
    go_wp2
    all_goals (try (exfalso; omega))
    all_goals go_ret
    all_goals exact ⟨by simp [gtB, h1], (by repeat (first | (with_reducible first | exact HB.out | apply below_alloc | apply pw_below_drewN | apply below_drew1) | exact HB.out))⟩
set_option maxHeartbeats 1000000 in
set_option maxRecDepth 100000 in
theorem index_some {W : World} {ad : Addr} {c : Nat} {g : Nat} {n : Int} {L : List Iv} (hr : Kd.C kI W (some ad) L.length L) (hlm : L.length ≤ 140737488351232) (hg : W.heap[g]? = some (.cells #[.int .i64 n] 2 (0, 0))) :
    Calls Try.prog 25 #[.slice (some ad) L.length c, (.func (.func 26) #[] #[.pointer (some ⟨g, 0, none⟩)])] W fun e w' => e = .returned (.int .i64 (idxB (gtB n) L 0)) ∧ Below W.heap.size W w' := by
  have HB := Aside0.mk (Below.refl W.heap.size W)
  have HR := Aside0.mk hr
  have HG := Aside0.mk hg
  clear hr hg
  go_enter Try.func25, Try.ntmps25
  go_wp2
  go_loopw [8] (fun v wr => ∃ k : Nat, v = .int .i64 (k : Int) ∧ k ≤ L.length ∧ (L.take k).any (gtB n) = false ∧ Aside0 (Below W.heap.size W wr)) (fun v _ => L.length - (intOf v).toNat)
  case atStart => exact ⟨0, rfl, by omega, rfl, ⟨(by repeat (first | (with_reducible first | exact HB.out | apply below_alloc | apply pw_below_drewN | apply below_drew1) | exact HB.out))⟩⟩
  case round =>
    clear HB
    obtain ⟨k, rfl, hk, hno, HB⟩ := hrel
    by_cases hlt : k < L.length
    · obtain ⟨x, hx⟩ : ∃ x, L[k]? = some x := ⟨L[k], List.getElem?_eq_getElem hlt⟩
      obtain ⟨a, b⟩ := x
      obtain ⟨d0, d1⟩ := iv_at (Kd.C_below HR.out HB.out) k _ hx
      simp only at d0 d1
      cases hhit : gtB n (a, b) with
      | true =>
        have HIT := Aside0.mk hhit
        have HN := Aside0.mk (idxB_at (gtB n) L k _ hx hno hhit)
        clear hhit hno
        go_wp2_with (first | (go_at_call 26; (with_reducible refine (add1_c (blk_below HG.out HB.out) (a, b) _ HIT.out).mono ?_); rintro e w1 ⟨rfl, hb⟩; have n0_ := Aside0.mk (below_step (by repeat (first | (with_reducible first | exact HB.out | apply below_alloc | apply pw_below_drewN | apply below_drew1) | exact HB.out)) hb); clear HB; have HB := n0_; clear n0_))
        all_goals (try (exfalso; omega))
        all_goals go_ret
        all_goals exact ⟨by rw [HN.out]; rfl, (by repeat (first | (with_reducible first | exact HB.out | apply below_alloc | apply pw_below_drewN | apply below_drew1) | exact HB.out))⟩
      | false =>
        have HIT := Aside0.mk hhit
        have HN := Aside0.mk (any_take_succ (gtB n) L k _ hx hno hhit)
        clear hhit hno
        go_wp2_with (first | (go_at_call 26; (with_reducible refine (add1_c (blk_below HG.out HB.out) (a, b) _ HIT.out).mono ?_); rintro e w1 ⟨rfl, hb⟩; have n0_ := Aside0.mk (below_step (by repeat (first | (with_reducible first | exact HB.out | apply below_alloc | apply pw_below_drewN | apply below_drew1) | exact HB.out)) hb); clear HB; have HB := n0_; clear n0_))
        all_goals (try (exfalso; omega))
        all_goals go_roundw
        all_goals (try (case rel => exact ⟨k + 1, by go_num, by omega, HN.out, ⟨(by repeat (first | (with_reducible first | exact HB.out | apply below_alloc | apply pw_below_drewN | apply below_drew1) | exact HB.out))⟩⟩))
        all_goals (try (case measure => (simp [intOf] <;> omega)))
    · obtain rfl : k = L.length := by omega
      rw [List.take_length] at hno
      have HN := Aside0.mk (idxB_none (gtB n) L hno)
      clear hno
      go_wp2
      all_goals (try (exfalso; omega))
      all_goals go_ret
      all_goals exact ⟨by rw [HN.out]; rfl, (by repeat (first | (with_reducible first | exact HB.out | apply below_alloc | apply pw_below_drewN | apply below_drew1) | exact HB.out))⟩
set_option maxHeartbeats 1000000 in
set_option maxRecDepth 100000 in
theorem index_nil {W : World} {A : Option Addr} {c : Nat} {g : Nat} :
    Calls Try.prog 25 #[.slice A 0 c, (.func (.func 26) #[] #[.pointer (some ⟨g, 0, none⟩)])] W fun e w' => e = .returned (.int .i64 (-1)) ∧ Below W.heap.size W w' := by
  have HB := Aside0.mk (Below.refl W.heap.size W)
  go_enter Try.func25, Try.ntmps25
  go_wp2
  go_loopw [8] (fun v wr => v = .int .i64 0 ∧ Aside0 (Below W.heap.size W wr)) (fun _ _ => 0)
  case atStart => exact ⟨rfl, ⟨(by repeat (first | (with_reducible first | exact HB.out | apply below_alloc | apply pw_below_drewN | apply below_drew1) | exact HB.out))⟩⟩
  case round =>
    clear HB
    obtain ⟨rfl, HB⟩ := hrel
    go_wp2
    all_goals (try (exfalso; omega))
    all_goals go_ret
    all_goals exact ⟨rfl, (by repeat (first | (with_reducible first | exact HB.out | apply below_alloc | apply pw_below_drewN | apply below_drew1) | exact HB.out))⟩
theorem index_c {W : World} {A : Option Addr} {m c g : Nat} {n : Int} {L : List Iv} (hr : Kd.C kI W A m L) (hlm : m ≤ 140737488351232) (hg : W.heap[g]? = some (.cells #[.int .i64 n] 2 (0, 0))) (q : Int) (hq : idxB (gtB n) L 0 = q) :
    Calls Try.prog 25 #[.slice A m c, (.func (.func 26) #[] #[.pointer (some ⟨g, 0, none⟩)])] W fun e w' => e = .returned (.int .i64 q) ∧ Below W.heap.size W w' := by
  subst hq
  have hn := hr.1
  subst hn
  rcases A with _ | ad
  · obtain ⟨_, rfl⟩ := C_nil_eq hr
    exact index_nil
  · exact index_some hr hlm hg
end Go.Proofs.Ytoidaakmmnlhgaa.Hand
