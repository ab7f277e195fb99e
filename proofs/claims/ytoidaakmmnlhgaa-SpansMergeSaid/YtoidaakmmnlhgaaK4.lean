/- Intervals: Right of any row. -/
import Derived.Test.YtoidaakmmnlhgaaK3
set_option linter.unusedVariables false
set_option linter.unusedSimpArgs false
namespace Go.Proofs.Ytoidaakmmnlhgaa.Hand
open Go.RowKit Go.Proofs.YtoidaakmmnlhgaaW.PrintWords Go.Proofs.YtoidaakmmnlhgaaW.PrintLast Go.Proofs.YtoidaakmmnlhgaaW.PrintMore
set_option maxHeartbeats 1000000 in
set_option maxRecDepth 100000 in
theorem right_nil {W : World} {c : Nat} : Calls Try.prog 20 #[.agg #[.slice none 0 c]] W fun e w' => e = .returned (.bool true) ∧ Below W.heap.size W w' := by
  have HB := Aside0.mk (Below.refl W.heap.size W)
  go_enter Try.func20, Try.ntmps20
  go_wp2
  go_loopw [8] (fun v wr => v = .int .i64 0 ∧ Aside0 (Below W.heap.size W wr) ∧ Aside0 (wr.heap[W.heap.size]? = some (.cells #[.slice none 0 c] 24 (0, 0)))) (fun _ _ => 0)
  case atStart => exact ⟨rfl, ⟨(by repeat (first | (with_reducible first | exact HB.out | apply below_alloc | apply pw_below_drewN | apply below_drew1) | exact HB.out))⟩, ⟨(by repeat (first | (with_reducible refine blk_drewN ?_ _) | (with_reducible refine blk_drew ?_) | exact blk_new' (by first | rfl | simp) | (with_reducible refine blk_alloc ?_ _)))⟩⟩
  case round =>
    clear HB
    obtain ⟨rfl, HB, HS⟩ := hrel
    have s0 := blk_cell HS.out 0
    have sl := blk_lt HS.out
    simp only [List.getElem?_toArray, List.getElem?_cons_zero] at s0
    go_wp2
    all_goals go_ret
    all_goals exact ⟨rfl, HB.out⟩
theorem right_c {W : World} {A : Option Addr} {n c : Nat} {L : List Iv} (hr : Kd.C kI W A n L) (hc : n ≤ c) (hlm : n ≤ 140737488351232) (b : Bool) (hb : rightL L = b) :
    Calls Try.prog 20 #[.agg #[.slice A n c]] W fun e w' => e = .returned (.bool b) ∧ Below W.heap.size W w' := by
  subst hb
  have hn := hr.1
  subst hn
  rcases A with _ | ad
  · have h0 : L = [] := by
      rcases Nat.eq_zero_or_pos L.length with h | h
      · exact List.eq_nil_of_length_eq_zero h
      · obtain ⟨ad, e, _⟩ := hr.2.2 h
        exact absurd e (by simp)
    subst h0
    exact right_nil
  · exact right_some hr hc hlm
set_option maxHeartbeats 1000000 in
set_option maxRecDepth 100000 in
theorem rright_nil {W : World} {c : Nat} : Calls Try.prog 21 #[.agg #[.slice none 0 c]] W fun e w' => e = .returned (.bool true) ∧ Below W.heap.size W w' := by
  have HB := Aside0.mk (Below.refl W.heap.size W)
  go_enter Try.func21, Try.ntmps21
  go_wp2
  go_loopw [3] (fun v wr => v = .int .i64 0 ∧ Aside0 (Below W.heap.size W wr) ∧ Aside0 (wr.heap[W.heap.size]? = some (.cells #[.slice none 0 c] 28 (0, 0)))) (fun _ _ => 0)
  case atStart => exact ⟨rfl, ⟨(by repeat (first | (with_reducible first | exact HB.out | apply below_alloc | apply pw_below_drewN | apply below_drew1) | exact HB.out))⟩, ⟨(by repeat (first | (with_reducible refine blk_drewN ?_ _) | (with_reducible refine blk_drew ?_) | exact blk_new' (by first | rfl | simp) | (with_reducible refine blk_alloc ?_ _)))⟩⟩
  case round =>
    clear HB
    obtain ⟨rfl, HB, HS⟩ := hrel
    have s0 := blk_cell HS.out 0
    have sl := blk_lt HS.out
    simp only [List.getElem?_toArray, List.getElem?_cons_zero] at s0
    go_wp2
    all_goals go_ret
    all_goals exact ⟨rfl, HB.out⟩
theorem rright_c {W : World} {A : Option Addr} {n c : Nat} {L : List Iv} (hr : Kd.C kI W A n L) (hc : n ≤ c) (hlm : n ≤ 140737488351232) (b : Bool) (hb : rightL L = b) :
    Calls Try.prog 21 #[.agg #[.slice A n c]] W fun e w' => e = .returned (.bool b) ∧ Below W.heap.size W w' := by
  subst hb
  have hn := hr.1
  subst hn
  rcases A with _ | ad
  · have h0 : L = [] := by
      rcases Nat.eq_zero_or_pos L.length with h | h
      · exact List.eq_nil_of_length_eq_zero h
      · obtain ⟨ad, e, _⟩ := hr.2.2 h
        exact absurd e (by simp)
    subst h0
    exact rright_nil
  · exact rright_some hr hc hlm
end Go.Proofs.Ytoidaakmmnlhgaa.Hand
