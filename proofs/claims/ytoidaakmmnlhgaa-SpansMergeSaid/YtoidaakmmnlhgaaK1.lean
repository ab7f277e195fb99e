/- Intervals: Meets, Has. -/
import Derived.Test.YtoidaakmmnlhgaaK0
set_option linter.unusedVariables false
set_option linter.unusedSimpArgs false
namespace Go.Proofs.Ytoidaakmmnlhgaa.Hand
open Go.RowKit Go.Proofs.YtoidaakmmnlhgaaW.PrintWords Go.Proofs.YtoidaakmmnlhgaaW.PrintLast Go.Proofs.YtoidaakmmnlhgaaW.PrintMore
/-- An element's two cells. -/
theorem iv_at {W : World} {ad : Addr} {n : Nat} {L : List Iv} (h : Kd.C kI W (some ad) n L) (k : Nat) (x : Iv) (hx : L[k]? = some x) : W.cell? (ad.add (k * 2)) = some (.int .i64 x.1) ∧ W.cell? ⟨(ad.add (k * 2)).block, (ad.add (k * 2)).off + 1, none⟩ = some (.int .i64 x.2) := by
  obtain ⟨hk, _⟩ := List.getElem?_eq_some_iff.1 hx
  obtain ⟨ad', e, hr⟩ := h.2.2 (by have := h.1; omega)
  have e' := Option.some.inj e
  subst e'
  obtain ⟨cs, hl, hK, hc⟩ := hr k x hx
  obtain ⟨c1, c2, rfl, k1, k2⟩ := hK
  obtain rfl : c1 = [.int .i64 x.1] := k1
  obtain rfl : c2 = [.int .i64 x.2] := k2
  have a0 := hc 0 _ rfl
  have a1 := hc 1 _ rfl
  rw [Nat.add_zero] at a0
  refine ⟨a0, ?_⟩
  have e1 : ad.add (k * kI.sz + 1) = (ad.add (k * 2)).add 1 := (Go.Deep.add_add ad (k * 2) 1).symm
  rw [e1] at a1
  unfold Addr.add at a1 ⊢
  rw [if_neg (by decide)] at a1
  exact a1
theorem any_take_succ {α : Type} (p : α → Bool) (L : List α) (k : Nat) (x : α) (hx : L[k]? = some x) (h : (L.take k).any p = false) (hp : p x = false) : (L.take (k + 1)).any p = false := by
  rw [List.take_add_one, hx, List.any_append, h]
  simp [hp]
theorem any_of_at {α : Type} (p : α → Bool) (L : List α) (k : Nat) (x : α) (hx : L[k]? = some x) (hp : p x = true) : L.any p = true := List.any_eq_true.2 ⟨x, List.mem_of_getElem? hx, hp⟩
set_option maxHeartbeats 1000000 in
set_option maxRecDepth 100000 in
theorem meets_some {W : World} {ad : Addr} {c : Nat} {L : List Iv} (hr : Kd.C kI W (some ad) L.length L) (hc : L.length ≤ c) (hlm : L.length ≤ 140737488351232) (lo hi : Int) (h : lo ≤ hi) :
    Calls Try.prog 16 #[.agg #[.slice (some ad) L.length c], .int .i64 lo, .int .i64 hi] W fun e w' => e = .returned (.bool (meetsL L lo hi)) ∧ Below W.heap.size W w' := by
  have HB := Aside0.mk (Below.refl W.heap.size W)
  have HR := Aside0.mk hr
  clear hr
  go_enter Try.func16, Try.ntmps16
  go_wp2
  go_loopw [8] (fun v8 wr => ∃ k : Nat, v8 = .int .i64 (k : Int) ∧ k ≤ L.length ∧ (L.take k).any (hitB lo hi) = false ∧ Aside0 (Below W.heap.size W wr) ∧ Aside0 (wr.heap[W.heap.size + 1]? = some (.cells #[.int .i64 lo] 2 (0, 0))) ∧ Aside0 (wr.heap[W.heap.size + 2]? = some (.cells #[.int .i64 hi] 2 (0, 0)))) (fun v _ => L.length - (intOf v).toNat)
  case atStart => exact ⟨0, rfl, by omega, rfl, ⟨(by repeat (first | (with_reducible first | exact HB.out | apply below_alloc | apply pw_below_drewN | apply below_drew1) | exact HB.out))⟩, ⟨(by repeat (first | (with_reducible refine blk_drewN ?_ _) | (with_reducible refine blk_drew ?_) | exact blk_new' (by first | rfl | simp) | (with_reducible refine blk_alloc ?_ _)))⟩, ⟨(by repeat (first | (with_reducible refine blk_drewN ?_ _) | (with_reducible refine blk_drew ?_) | exact blk_new' (by first | rfl | simp) | (with_reducible refine blk_alloc ?_ _)))⟩⟩
  case round =>
    clear HB
    obtain ⟨k, rfl, hk, hno, HB, HLO, HHI⟩ := hrel
    by_cases hlt : k < L.length
    · obtain ⟨x, hx⟩ : ∃ x, L[k]? = some x := ⟨L[k], List.getElem?_eq_getElem hlt⟩
      obtain ⟨a, b⟩ := x
      obtain ⟨d0, d1⟩ := iv_at (Kd.C_below HR.out HB.out) k _ hx
      simp only at d0 d1
      cases hhit : hitB lo hi (a, b) with
      | true =>
        have HIT := Aside0.mk hhit
        have HAN := Aside0.mk (any_of_at (hitB lo hi) L k (a, b) hx hhit)
        clear hhit
        go_wp2_with (first | (go_at_call 32; (with_reducible refine (meets1_c HHI.out HLO.out (a, b)).mono ?_); rintro e w1 ⟨rfl, hb⟩; have n0_ := Aside0.mk (below_step HB.out hb); clear HB; have HB := n0_; clear n0_; have n0_ := Aside0.mk (blk_below HLO.out hb); clear HLO; have HLO := n0_; clear n0_; have n0_ := Aside0.mk (blk_below HHI.out hb); clear HHI; have HHI := n0_; clear n0_; rw [HIT.out]))
        all_goals go_ret
        all_goals exact ⟨by unfold meetsL; rw [HAN.out]; simp [h], HB.out⟩
      | false =>
        have HIT := Aside0.mk hhit
        have HNO := Aside0.mk (any_take_succ (hitB lo hi) L k (a, b) hx hno hhit)
        clear hhit
        go_wp2_with (first | (go_at_call 32; (with_reducible refine (meets1_c HHI.out HLO.out (a, b)).mono ?_); rintro e w1 ⟨rfl, hb⟩; have n0_ := Aside0.mk (below_step HB.out hb); clear HB; have HB := n0_; clear n0_; have n0_ := Aside0.mk (blk_below HLO.out hb); clear HLO; have HLO := n0_; clear n0_; have n0_ := Aside0.mk (blk_below HHI.out hb); clear HHI; have HHI := n0_; clear n0_; rw [HIT.out]))
        all_goals go_roundw
        all_goals (try (case rel => exact ⟨k + 1, by go_num, by omega, HNO.out, HB, HLO, HHI⟩))
        all_goals (try (case measure => (simp [intOf] <;> omega)))
    · obtain rfl : k = L.length := by omega
      rw [List.take_length] at hno
      have HNO := Aside0.mk hno
      clear hno
      go_wp2
      all_goals go_ret
      all_goals exact ⟨by unfold meetsL; rw [HNO.out]; simp, HB.out⟩
set_option maxHeartbeats 1000000 in
set_option maxRecDepth 100000 in
theorem meets_nil {W : World} {c : Nat} (lo hi : Int) (h : lo ≤ hi) :
    Calls Try.prog 16 #[.agg #[.slice none 0 c], .int .i64 lo, .int .i64 hi] W fun e w' => e = .returned (.bool false) ∧ Below W.heap.size W w' := by
  have HB := Aside0.mk (Below.refl W.heap.size W)
  go_enter Try.func16, Try.ntmps16
  go_wp2
  go_loopw [8] (fun v8 wr => v8 = .int .i64 0 ∧ Aside0 (Below W.heap.size W wr)) (fun _ _ => 0)
  case atStart => exact ⟨rfl, ⟨(by repeat (first | (with_reducible first | exact HB.out | apply below_alloc | apply pw_below_drewN | apply below_drew1) | exact HB.out))⟩⟩
  case round =>
    clear HB
    obtain ⟨rfl, HB⟩ := hrel
    go_wp2
    all_goals go_ret
    all_goals exact ⟨rfl, HB.out⟩
set_option maxHeartbeats 1000000 in
set_option maxRecDepth 100000 in
theorem meets_not {W : World} {A : Option Addr} {n c : Nat} (lo hi : Int) (h : ¬ lo ≤ hi) :
    Calls Try.prog 16 #[.agg #[.slice A n c], .int .i64 lo, .int .i64 hi] W fun e w' => e = .returned (.bool false) ∧ Below W.heap.size W w' := by
  have HB := Aside0.mk (Below.refl W.heap.size W)
  go_enter Try.func16, Try.ntmps16
  go_wp2
  all_goals go_ret
  all_goals exact ⟨rfl, (by repeat (first | (with_reducible first | exact HB.out | apply below_alloc | apply pw_below_drewN | apply below_drew1) | exact HB.out))⟩
theorem meets_c {W : World} {A : Option Addr} {n c : Nat} {L : List Iv} (hr : Kd.C kI W A n L) (hc : n ≤ c) (hlm : n ≤ 140737488351232) (lo hi : Int) (b : Bool) (hb : meetsL L lo hi = b) :
    Calls Try.prog 16 #[.agg #[.slice A n c], .int .i64 lo, .int .i64 hi] W fun e w' => e = .returned (.bool b) ∧ Below W.heap.size W w' := by
  subst hb
  have hn := hr.1
  subst hn
  by_cases h : lo ≤ hi
  · rcases A with _ | ad
    · have h0 : L = [] := by
        rcases Nat.eq_zero_or_pos L.length with h | h
        · exact List.eq_nil_of_length_eq_zero h
        · obtain ⟨ad, e, _⟩ := hr.2.2 h
          exact absurd e (by simp)
      subst h0
      have : meetsL [] lo hi = false := by unfold meetsL; simp
      rw [this]
      exact meets_nil lo hi h
    · exact meets_some hr hc hlm lo hi h
  · have : meetsL L lo hi = false := by unfold meetsL; simp [h]
    rw [this]
    exact meets_not lo hi h
set_option maxHeartbeats 1000000 in
set_option maxRecDepth 100000 in
theorem has_c {W : World} {A : Option Addr} {n c : Nat} {L : List Iv} (hr : Kd.C kI W A n L) (hc : n ≤ c) (hlm : n ≤ 140737488351232) (x : Int) (b : Bool) (hb : hasL L x = b) :
    Calls Try.prog 14 #[.agg #[.slice A n c], .int .i64 x] W fun e w' => e = .returned (.bool b) ∧ Below W.heap.size W w' := by
  have HB := Aside0.mk (Below.refl W.heap.size W)
  have HR := Aside0.mk hr
  have HH := Aside0.mk (show meetsL L x x = b from hb)
  clear hr hb
  go_enter Try.func14, Try.ntmps14
  go_wp2_with (first | (go_at_call 16; (with_reducible refine (meets_c (Kd.C_below HR.out (by repeat (first | (with_reducible first | exact HB.out | apply below_alloc | apply pw_below_drewN | apply below_drew1) | exact HB.out))) hc hlm x x b HH.out).mono ?_); rintro e w1 ⟨rfl, hb⟩; have n0_ := Aside0.mk (below_step (by repeat (first | (with_reducible first | exact HB.out | apply below_alloc | apply pw_below_drewN | apply below_drew1) | exact HB.out)) hb); clear HB; have HB := n0_; clear n0_))
  all_goals go_ret
  all_goals exact ⟨rfl, HB.out⟩
end Go.Proofs.Ytoidaakmmnlhgaa.Hand
