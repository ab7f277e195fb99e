/- Intervals: the reference's Cover. -/
import Derived.Test.YtoidaakmmnlhgaaK9
import Derived.Deep.RegionLaw
set_option linter.unusedVariables false
set_option linter.unusedSimpArgs false
namespace Go.Proofs.Ytoidaakmmnlhgaa.Hand
open Go.RowKit Go.Proofs.YtoidaakmmnlhgaaW.PrintWords Go.Proofs.YtoidaakmmnlhgaaW.PrintLast Go.Proofs.YtoidaakmmnlhgaaW.PrintMore
set_option maxHeartbeats 1000000 in
set_option maxRecDepth 100000 in
theorem rcover_some {W : World} {ad : Addr} {B : Option Addr} {c cM : Nat} {L : List Int} {M : List Iv} (hr : Kd.C (Kd.int .i64) W (some ad) L.length L) (hm : Kd.C kI W B M.length M) (hlm : L.length ≤ 140737488351232) (hMm : M.length ≤ 140737488351232) :
    Calls Try.prog 19 #[.agg #[.slice B M.length cM], .slice (some ad) L.length c] W fun e w' => e = .returned (.bool (coverL M L)) ∧ Below W.heap.size W w' := by
  have HB := Aside0.mk (Below.refl W.heap.size W)
  have HR := Aside0.mk hr
  have HM := Aside0.mk hm
  clear hr hm
  go_enter Try.func19, Try.ntmps19
  go_wp2
  go_loopw [5] (fun v wr => ∃ k : Nat, v = .int .i64 (k : Int) ∧ k ≤ L.length ∧ (L.take k).all (hasL M) = true ∧ Aside0 (Below W.heap.size W wr) ∧ Aside0 (wr.heap[W.heap.size]? = some (.cells #[.slice B M.length cM] 28 (0, 0)))) (fun v _ => L.length - (intOf v).toNat)
  case atStart => exact ⟨0, rfl, by omega, rfl, ⟨(by repeat (first | (with_reducible first | exact HB.out | apply below_alloc | apply pw_below_drewN | apply below_drew1) | exact HB.out))⟩, ⟨(by repeat (first | (with_reducible refine blk_drewN ?_ _) | (with_reducible refine blk_drew ?_) | exact blk_new' (by first | rfl | simp) | (with_reducible refine blk_alloc ?_ _)))⟩⟩
  case round =>
    clear HB
    obtain ⟨k, rfl, hk, hno, HB, HS0⟩ := hrel
    have s0 := blk_cell HS0.out 0
    have sl0 := blk_lt HS0.out
    simp only [List.getElem?_toArray, List.getElem?_cons_zero] at s0
    by_cases hlt : k < L.length
    · obtain ⟨x, hx⟩ : ∃ x, L[k]? = some x := ⟨L[k], List.getElem?_eq_getElem hlt⟩
      have d0 := int_at (Kd.C_below HR.out HB.out) k _ hx
      cases hhit : hasL M x with
      | true =>
        have HIT := Aside0.mk hhit
        have HN := Aside0.mk (all_take_succ (hasL M) L k _ hx hno hhit)
        clear hno
        clear hhit
        go_upto_region 4 with fail
        go_region_law (first | (refine goes_ Try.func15 (by kernel_rfl) rfl #[.agg #[.slice B M.length cM], .int .i64 x] (by rfl) rfl rfl (by simp only [List.map_toArray, List.map_cons, List.map_nil]; rfl) ?_; refine (rhas_c (Kd.C_below HM.out (by repeat (first | (with_reducible first | exact HB.out | apply below_alloc | apply pw_below_drewN | apply below_drew1) | exact HB.out))) hMm x _ HIT.out).mono ?_; rintro e w1 ⟨rfl, hb⟩; refine ⟨_, rfl, ?_⟩; have n0_ := Aside0.mk (below_step (by repeat (first | (with_reducible first | exact HB.out | apply below_alloc | apply pw_below_drewN | apply below_drew1) | exact HB.out)) hb); clear HB; have HB := n0_; clear n0_; have n0_ := Aside0.mk (blk_below (by repeat (first | exact HS0.out | (with_reducible refine blk_drewN ?_ _) | (with_reducible refine blk_drew ?_))) hb); clear HS0 s0 sl0; have HS0 := n0_; clear n0_; have s0 := blk_cell HS0.out 0; have sl0 := blk_lt HS0.out; simp only [List.getElem?_toArray, List.getElem?_cons_zero] at s0))
        go_wp2
        all_goals (try (exfalso; omega))
        all_goals go_roundw
        all_goals (try (case rel => exact ⟨k + 1, by go_num, by omega, HN.out, ⟨(by repeat (first | (with_reducible first | exact HB.out | apply below_alloc | apply pw_below_drewN | apply below_drew1) | exact HB.out))⟩, ⟨(by repeat (first | exact HS0.out | (with_reducible refine blk_drewN ?_ _) | (with_reducible refine blk_drew ?_)))⟩⟩))
        all_goals (try (case measure => (simp [intOf] <;> omega)))
      | false =>
        have HIT := Aside0.mk hhit
        have HN := Aside0.mk (all_not_at (hasL M) L k _ hx hhit)
        clear hhit
        go_upto_region 4 with fail
        go_region_law (first | (refine goes_ Try.func15 (by kernel_rfl) rfl #[.agg #[.slice B M.length cM], .int .i64 x] (by rfl) rfl rfl (by simp only [List.map_toArray, List.map_cons, List.map_nil]; rfl) ?_; refine (rhas_c (Kd.C_below HM.out (by repeat (first | (with_reducible first | exact HB.out | apply below_alloc | apply pw_below_drewN | apply below_drew1) | exact HB.out))) hMm x _ HIT.out).mono ?_; rintro e w1 ⟨rfl, hb⟩; refine ⟨_, rfl, ?_⟩; have n0_ := Aside0.mk (below_step (by repeat (first | (with_reducible first | exact HB.out | apply below_alloc | apply pw_below_drewN | apply below_drew1) | exact HB.out)) hb); clear HB; have HB := n0_; clear n0_; have n0_ := Aside0.mk (blk_below (by repeat (first | exact HS0.out | (with_reducible refine blk_drewN ?_ _) | (with_reducible refine blk_drew ?_))) hb); clear HS0 s0 sl0; have HS0 := n0_; clear n0_; have s0 := blk_cell HS0.out 0; have sl0 := blk_lt HS0.out; simp only [List.getElem?_toArray, List.getElem?_cons_zero] at s0))
        go_wp2
        all_goals (try (exfalso; omega))
        all_goals go_ret
        all_goals exact ⟨by unfold coverL; rw [HN.out]; rfl, (by repeat (first | (with_reducible first | exact HB.out | apply below_alloc | apply pw_below_drewN | apply below_drew1) | exact HB.out))⟩
    · obtain rfl : k = L.length := by omega
      rw [List.take_length] at hno
      have HN := Aside0.mk hno
      clear hno
      go_wp2
      all_goals (try (exfalso; omega))
      all_goals go_ret
      all_goals exact ⟨by unfold coverL; rw [HN.out]; rfl, (by repeat (first | (with_reducible first | exact HB.out | apply below_alloc | apply pw_below_drewN | apply below_drew1) | exact HB.out))⟩
set_option maxHeartbeats 1000000 in
set_option maxRecDepth 100000 in
theorem rcover_nil {W : World} {A B : Option Addr} {c n cM : Nat} :
    Calls Try.prog 19 #[.agg #[.slice B n cM], .slice A 0 c] W fun e w' => e = .returned (.bool true) ∧ Below W.heap.size W w' := by
  have HB := Aside0.mk (Below.refl W.heap.size W)
  go_enter Try.func19, Try.ntmps19
  go_wp2
  go_loopw [5] (fun v wr => v = .int .i64 0 ∧ Aside0 (Below W.heap.size W wr) ∧ Aside0 (wr.heap[W.heap.size]? = some (.cells #[.slice B n cM] 28 (0, 0)))) (fun _ _ => 0)
  case atStart => exact ⟨rfl, ⟨(by repeat (first | (with_reducible first | exact HB.out | apply below_alloc | apply pw_below_drewN | apply below_drew1) | exact HB.out))⟩, ⟨(by repeat (first | (with_reducible refine blk_drewN ?_ _) | (with_reducible refine blk_drew ?_) | exact blk_new' (by first | rfl | simp) | (with_reducible refine blk_alloc ?_ _)))⟩⟩
  case round =>
    clear HB
    obtain ⟨rfl, HB, HS0⟩ := hrel
    have s0 := blk_cell HS0.out 0
    have sl0 := blk_lt HS0.out
    simp only [List.getElem?_toArray, List.getElem?_cons_zero] at s0
    go_wp2
    all_goals (try (exfalso; omega))
    all_goals go_ret
    all_goals exact ⟨rfl, (by repeat (first | (with_reducible first | exact HB.out | apply below_alloc | apply pw_below_drewN | apply below_drew1) | exact HB.out))⟩
theorem rcover_c {W : World} {A B : Option Addr} {n c m cM : Nat} {L : List Int} {M : List Iv} (hm : Kd.C kI W B m M) (hr : Kd.C (Kd.int .i64) W A n L) (hlm : n ≤ 140737488351232) (hMm : m ≤ 140737488351232) (b : Bool) (hb : coverL M L = b) :
    Calls Try.prog 19 #[.agg #[.slice B m cM], .slice A n c] W fun e w' => e = .returned (.bool b) ∧ Below W.heap.size W w' := by
  subst hb
  have hn := hr.1
  have hn2 := hm.1
  subst hn hn2
  rcases A with _ | ad
  · obtain ⟨_, rfl⟩ := C_nil_eq hr
    exact rcover_nil
  · exact rcover_some hr hm hlm hMm
end Go.Proofs.Ytoidaakmmnlhgaa.Hand
