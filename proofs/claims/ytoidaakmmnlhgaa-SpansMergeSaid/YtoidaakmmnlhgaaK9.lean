/- Intervals: covered; a number among some. -/
import Derived.Test.YtoidaakmmnlhgaaK8
set_option linter.unusedVariables false
set_option linter.unusedSimpArgs false
namespace Go.Proofs.Ytoidaakmmnlhgaa.Hand
open Go.RowKit Go.Proofs.YtoidaakmmnlhgaaW.PrintWords Go.Proofs.YtoidaakmmnlhgaaW.PrintLast Go.Proofs.YtoidaakmmnlhgaaW.PrintMore
def hasN (l : List Int) (n : Int) : Bool := l.any (fun x => decide (x = n))
def coverL (L : List Iv) (l : List Int) : Bool := l.all (hasL L)
theorem all_take_succ {α : Type} (p : α → Bool) (L : List α) (k : Nat) (x : α) (hx : L[k]? = some x) (h : (L.take k).all p = true) (hp : p x = true) : (L.take (k + 1)).all p = true := by
  rw [List.take_add_one, hx, List.all_append, h]
  simp [hp]
theorem all_not_at {α : Type} (p : α → Bool) (L : List α) (k : Nat) (x : α) (hx : L[k]? = some x) (hp : p x = false) : L.all p = false := by
  rw [List.all_eq_false]
  exact ⟨x, List.mem_of_getElem? hx, by rw [hp]; simp⟩
set_option maxHeartbeats 1000000 in
set_option maxRecDepth 100000 in
theorem lhas_some {W : World} {ad : Addr} {c : Nat} {L : List Int} (hr : Kd.C (Kd.int .i64) W (some ad) L.length L) (hlm : L.length ≤ 140737488351232) (n : Int) :
    Calls Try.prog 23 #[.slice (some ad) L.length c, .int .i64 n] W fun e w' => e = .returned (.bool (hasN L n)) ∧ Below W.heap.size W w' := by
  have HB := Aside0.mk (Below.refl W.heap.size W)
  have HR := Aside0.mk hr
  clear hr
  go_enter Try.func23, Try.ntmps23
  go_wp2
  go_loopw [5] (fun v wr => ∃ k : Nat, v = .int .i64 (k : Int) ∧ k ≤ L.length ∧ (L.take k).any (fun x => decide (x = n)) = false ∧ Aside0 (Below W.heap.size W wr)) (fun v _ => L.length - (intOf v).toNat)
  case atStart => exact ⟨0, rfl, by omega, rfl, ⟨(by repeat (first | (with_reducible first | exact HB.out | apply below_alloc | apply pw_below_drewN | apply below_drew1) | exact HB.out))⟩⟩
  case round =>
    clear HB
    obtain ⟨k, rfl, hk, hno, HB⟩ := hrel
    by_cases hlt : k < L.length
    · obtain ⟨x, hx⟩ : ∃ x, L[k]? = some x := ⟨L[k], List.getElem?_eq_getElem hlt⟩
      have d0 := int_at (Kd.C_below HR.out HB.out) k _ hx
      by_cases z1 : x = n
      · have HN := Aside0.mk (any_of_at (fun x => decide (x = n)) L k _ hx (decide_eq_true z1))
        go_wp2
        all_goals (try (exfalso; omega))
        all_goals go_ret
        all_goals exact ⟨by unfold hasN; rw [HN.out]; rfl, (by repeat (first | (with_reducible first | exact HB.out | apply below_alloc | apply pw_below_drewN | apply below_drew1) | exact HB.out))⟩
      · have HN := Aside0.mk (any_take_succ (fun x => decide (x = n)) L k _ hx hno (decide_eq_false z1))
        clear hno
        go_wp2
        all_goals (try (exfalso; omega))
        all_goals go_roundw
        all_goals (try (case rel => exact ⟨k + 1, by go_num, by omega, HN.out, ⟨(by repeat (first | (with_reducible first | exact HB.out | apply below_alloc | apply pw_below_drewN | apply below_drew1) | exact HB.out))⟩⟩))
        all_goals (try (case measure => (simp [intOf] <;> omega)))
    · obtain rfl : k = L.length := by omega
      rw [List.take_length] at hno
      have HN := Aside0.mk hno
      clear hno
      go_wp2
      all_goals (try (exfalso; omega))
      all_goals go_ret
      all_goals exact ⟨by unfold hasN; rw [HN.out]; rfl, (by repeat (first | (with_reducible first | exact HB.out | apply below_alloc | apply pw_below_drewN | apply below_drew1) | exact HB.out))⟩
set_option maxHeartbeats 1000000 in
set_option maxRecDepth 100000 in
theorem lhas_nil {W : World} {A : Option Addr} {c : Nat} (n : Int) :
    Calls Try.prog 23 #[.slice A 0 c, .int .i64 n] W fun e w' => e = .returned (.bool false) ∧ Below W.heap.size W w' := by
  have HB := Aside0.mk (Below.refl W.heap.size W)
  go_enter Try.func23, Try.ntmps23
  go_wp2
  go_loopw [5] (fun v wr => v = .int .i64 0 ∧ Aside0 (Below W.heap.size W wr)) (fun _ _ => 0)
  case atStart => exact ⟨rfl, ⟨(by repeat (first | (with_reducible first | exact HB.out | apply below_alloc | apply pw_below_drewN | apply below_drew1) | exact HB.out))⟩⟩
  case round =>
    clear HB
    obtain ⟨rfl, HB⟩ := hrel
    go_wp2
    all_goals (try (exfalso; omega))
    all_goals go_ret
    all_goals exact ⟨rfl, (by repeat (first | (with_reducible first | exact HB.out | apply below_alloc | apply pw_below_drewN | apply below_drew1) | exact HB.out))⟩
theorem lhas_c {W : World} {A : Option Addr} {n c : Nat} {L : List Int} (hr : Kd.C (Kd.int .i64) W A n L) (hlm : n ≤ 140737488351232) (x : Int) (b : Bool) (hb : hasN L x = b) :
    Calls Try.prog 23 #[.slice A n c, .int .i64 x] W fun e w' => e = .returned (.bool b) ∧ Below W.heap.size W w' := by
  subst hb
  have hn := hr.1
  subst hn
  rcases A with _ | ad
  · obtain ⟨_, rfl⟩ := C_nil_eq hr
    exact lhas_nil x
  · exact lhas_some hr hlm x
end Go.Proofs.Ytoidaakmmnlhgaa.Hand
