/- Intervals: Add, where two become one. -/
import Derived.Test.YtoidaakmmnlhgaaKK
import Derived.Deep.RegionLaw
import Derived.Deep.DeepCutAuto
set_option linter.unusedVariables false
set_option linter.unusedSimpArgs false
namespace Go.Proofs.Ytoidaakmmnlhgaa.Hand
open Go.RowKit Go.Proofs.YtoidaakmmnlhgaaW.PrintWords Go.Proofs.YtoidaakmmnlhgaaW.PrintLast Go.Proofs.YtoidaakmmnlhgaaW.PrintMore
theorem delI_i {W : World} {g c : Nat} {L M2 : List Iv} {i : Nat} (h : RowI W g c L) (hi : i < L.length) (hl : L.length ≤ 100) (n : Nat) (hn : L.length = n) (q q2 : Int) (hq : q = (i : Int)) (hq2 : q2 = (i : Int) + 1) (hM : delI L i = M2) :
    Calls Try.prog 30 #[.slice (some ⟨g, 0, none⟩) n c, .int .i64 q, .int .i64 q2] W fun e w' => e = .returned (.slice (some ⟨g, 0, none⟩) M2.length c) ∧ RowI w' g c M2 ∧ Below g W w' := by
  subst hn hq hq2 hM
  rw [delI_len L i hi]
  exact delI_c h hi hl
theorem leastN_step (M : List Iv) (k : Nat) (h : gapAt M (k + 2) < gapAt M (leastN M (k + 2))) : leastN M (k + 2 + 1) = k + 2 := by
  rw [leastN, if_pos ⟨by omega, h⟩]
theorem leastN_keep (M : List Iv) (k : Nat) (h : ¬ gapAt M (k + 2) < gapAt M (leastN M (k + 2))) : leastN M (k + 2 + 1) = leastN M (k + 2) := by
  rw [leastN, if_neg (fun x => h x.2)]
set_option maxHeartbeats 4000000 in
set_option maxRecDepth 100000 in
theorem add_merge {W : World} {A : Option Addr} {n c : Nat} {L : List Iv} (hr : Kd.C kI W A n L) (hc : n ≤ c) (hlm : n ≤ 140737488351232) (x : Int) (hb : rightL L = true) (hh : hasL L x = false) (M M2 : List Iv) (hM : addM L x = M) (hm : M.length = 5) (hM2 : mergeI M (leastN M 5) = M2) :
    Calls Try.prog 11 #[.agg #[.slice A n c], .int .i64 x] W fun e w' => ∃ A' c', e = .returned (.agg #[.slice A' (addL L x).length c']) ∧ Kd.C kI w' A' (addL L x).length (addL L x) ∧ (addL L x).length ≤ c' ∧ ((A' = A ∧ c' = c ∧ addL L x = L) ∨ ∃ g, A' = some ⟨g, 0, none⟩ ∧ RowI w' g c' (addL L x)) ∧ Below W.heap.size W w' := by
  have HN := Aside0.mk hr.1
  have hE : addL L x = M2 := by unfold addL; rw [if_neg (by rw [hb, hh]; simp), if_neg (by rw [hM, hm]; omega), hM, hM2]
  have HE := Aside0.mk hE
  have HRT := Aside0.mk hb
  have HH := Aside0.mk hh
  have hl4 := rightL_len hb
  have hn4 : n ≤ 4 := by rw [← hr.1]; exact hl4
  have hn100 : n ≤ 100 := by omega
  have HAI := Aside0.mk (atI_le L x)
  have HL1 := Aside0.mk (show L.length ≤ 100 by omega)
  have HM := Aside0.mk (show insI L (atI L x) (x, x) = M from hM)
  have HM5 := Aside0.mk hm
  have HM2 := Aside0.mk hM2
  have hmi : (4 : Int) < (M.length : Int) := by omega
  have hmn : 4 < M.length := by omega
  have hmn5 : M.length ≤ 5 := by omega
  clear hM2
  have HB := Aside0.mk (Below.refl W.heap.size W)
  have HL := Aside0.mk (Below.refl W.heap.size W)
  have HR := Aside0.mk hr
  rcases atI_cases L x with ⟨hq, ha⟩ | ⟨k, hq, ha, hk⟩
  · have HQ := Aside0.mk hq
    have HQ2 := Aside0.mk (show (n : Int) = ((atI L x : Nat) : Int) by rw [ha, hr.1])
    clear hr hb hh hE hM hm hl4 ha hq
    go_enter Try.func11, Try.ntmps11
    go_wp2_with (first | (go_at_call 20; (with_reducible refine (right_c (Kd.C_below HR.out (by repeat (first | (with_reducible first | exact HB.out | apply below_alloc | apply pw_below_drewN | apply below_drew1) | exact HB.out))) hc hlm _ HRT.out).mono ?_); rintro e w1 ⟨rfl, hb⟩; have n0_ := Aside0.mk (below_step (by repeat (first | (with_reducible first | exact HB.out | apply below_alloc | apply pw_below_drewN | apply below_drew1) | exact HB.out)) hb); clear HB; have HB := n0_; clear n0_; have hs_ := below_step (by repeat (first | (with_reducible first | exact HL.out | apply below_alloc | apply pw_below_drewN | apply below_drew1) | exact HL.out)) hb; have HS0 := Aside0.mk (blk_below (o := .cells #[.slice A n c] 24 (0, 0)) (g := W.heap.size) (by repeat (first | (with_reducible refine blk_drewN ?_ _) | (with_reducible refine blk_drew ?_) | exact blk_new' (by first | rfl | simp) | (with_reducible refine blk_alloc ?_ _))) hb); have qHS0_0 := blk_cell HS0.out 0; have lHS0 := blk_lt HS0.out; simp only [List.getElem?_toArray, List.getElem?_cons_zero, List.getElem?_cons_succ] at qHS0_0; have HS1 := Aside0.mk (blk_below (o := .cells #[.int .i64 x] 2 (0, 0)) (g := (W.heap.size + 1)) (by repeat (first | (with_reducible refine blk_drewN ?_ _) | (with_reducible refine blk_drew ?_) | exact blk_new' (by first | rfl | simp) | (with_reducible refine blk_alloc ?_ _))) hb); have qHS1_0 := blk_cell HS1.out 0; have lHS1 := blk_lt HS1.out; simp only [List.getElem?_toArray, List.getElem?_cons_zero, List.getElem?_cons_succ] at qHS1_0; have HS2 := Aside0.mk (blk_below (o := .cells #[.slice none 0 0] 24 (0, 0)) (g := (W.heap.size + 1 + 1)) (by repeat (first | (with_reducible refine blk_drewN ?_ _) | (with_reducible refine blk_drew ?_) | exact blk_new' (by first | rfl | simp) | (with_reducible refine blk_alloc ?_ _))) hb); have qHS2_0 := blk_cell HS2.out 0; have lHS2 := blk_lt HS2.out; simp only [List.getElem?_toArray, List.getElem?_cons_zero, List.getElem?_cons_succ] at qHS2_0; have fHS2 := blk_frozen HS2.out 0; clear HL hs_ hb; have HL := Aside0.mk (Below.refl w1.heap.size w1)) | (go_at_call 14; (with_reducible refine (has_c (Kd.C_below HR.out (by repeat (first | (with_reducible first | exact HB.out | apply below_alloc | apply pw_below_drewN | apply below_drew1) | exact HB.out))) hc hlm x _ HH.out).mono ?_); rintro e w2 ⟨rfl, hb⟩; have n0_ := Aside0.mk (below_step (by repeat (first | (with_reducible first | exact HB.out | apply below_alloc | apply pw_below_drewN | apply below_drew1) | exact HB.out)) hb); clear HB; have HB := n0_; clear n0_; have hs_ := below_step (by repeat (first | (with_reducible first | exact HL.out | apply below_alloc | apply pw_below_drewN | apply below_drew1) | exact HL.out)) hb; have n_ := Aside0.mk (blk_below HS0.out hs_); clear qHS0_0 lHS0; clear HS0; have HS0 := n_; clear n_; have qHS0_0 := blk_cell HS0.out 0; have lHS0 := blk_lt HS0.out; simp only [List.getElem?_toArray, List.getElem?_cons_zero, List.getElem?_cons_succ] at qHS0_0; have n_ := Aside0.mk (blk_below HS1.out hs_); clear qHS1_0 lHS1; clear HS1; have HS1 := n_; clear n_; have qHS1_0 := blk_cell HS1.out 0; have lHS1 := blk_lt HS1.out; simp only [List.getElem?_toArray, List.getElem?_cons_zero, List.getElem?_cons_succ] at qHS1_0; have n_ := Aside0.mk (blk_below HS2.out hs_); clear qHS2_0 lHS2 fHS2; clear HS2; have HS2 := n_; clear n_; have qHS2_0 := blk_cell HS2.out 0; have lHS2 := blk_lt HS2.out; simp only [List.getElem?_toArray, List.getElem?_cons_zero, List.getElem?_cons_succ] at qHS2_0; have fHS2 := blk_frozen HS2.out 0; clear HL hs_ hb; have HL := Aside0.mk (Below.refl w2.heap.size w2)) | (go_at_call 25; (with_reducible refine (index_c (Kd.C_below HR.out (by repeat (first | (with_reducible first | exact HB.out | apply below_alloc | apply pw_below_drewN | apply below_drew1) | exact HB.out))) hlm HS1.out _ HQ.out).mono ?_); rintro e w3 ⟨rfl, hb⟩; have n0_ := Aside0.mk (below_step (by repeat (first | (with_reducible first | exact HB.out | apply below_alloc | apply pw_below_drewN | apply below_drew1) | exact HB.out)) hb); clear HB; have HB := n0_; clear n0_; have hs_ := below_step (by repeat (first | (with_reducible first | exact HL.out | apply below_alloc | apply pw_below_drewN | apply below_drew1) | exact HL.out)) hb; have n_ := Aside0.mk (blk_below HS0.out hs_); clear qHS0_0 lHS0; clear HS0; have HS0 := n_; clear n_; have qHS0_0 := blk_cell HS0.out 0; have lHS0 := blk_lt HS0.out; simp only [List.getElem?_toArray, List.getElem?_cons_zero, List.getElem?_cons_succ] at qHS0_0; have n_ := Aside0.mk (blk_below HS1.out hs_); clear qHS1_0 lHS1; clear HS1; have HS1 := n_; clear n_; have qHS1_0 := blk_cell HS1.out 0; have lHS1 := blk_lt HS1.out; simp only [List.getElem?_toArray, List.getElem?_cons_zero, List.getElem?_cons_succ] at qHS1_0; have n_ := Aside0.mk (blk_below HS2.out hs_); clear qHS2_0 lHS2 fHS2; clear HS2; have HS2 := n_; clear n_; have qHS2_0 := blk_cell HS2.out 0; have lHS2 := blk_lt HS2.out; simp only [List.getElem?_toArray, List.getElem?_cons_zero, List.getElem?_cons_succ] at qHS2_0; have fHS2 := blk_frozen HS2.out 0; clear HL hs_ hb; have HL := Aside0.mk (Below.refl w3.heap.size w3)))
    go_cut [6] (fun v6 wx => ∃ (g1 c1 : Nat), v6 = .slice (some ⟨g1, 0, none⟩) M.length c1 ∧ Aside0 (RowI wx g1 c1 M) ∧ W.heap.size + 1 + 1 + 1 ≤ g1 ∧ Aside0 (Below W.heap.size W wx) ∧ Aside0 (wx.heap[W.heap.size]? = some (.cells #[.slice A n c] 24 (0, 0))) ∧ Aside0 (wx.heap[(W.heap.size + 1)]? = some (.cells #[.int .i64 x] 2 (0, 0))) ∧ Aside0 (wx.heap[(W.heap.size + 1 + 1)]? = some (.cells #[.slice none 0 0] 24 (0, 0))))
    case first => as_aux_lemma =>
      go_region_law (first | (refine goes_ Try.func28 (by kernel_rfl) rfl #[.slice A n c] (by rfl) rfl rfl (by simp only [List.map_toArray, List.map_cons, List.map_nil]; rfl) ?_; refine (clone_any (Kd.C_below HR.out (by repeat (first | (with_reducible first | exact HB.out | apply below_alloc | apply pw_below_drewN | apply below_drew1) | exact HB.out))) hn100).mono ?_; rintro e w4 ⟨cv, rfl, hcp, hb⟩; refine ⟨_, rfl, ?_⟩; have hbl : Below (w3.alloc (.cells #[.int .i64 x, .int .i64 x] 43 (0, 0))).heap.size (w3.alloc (.cells #[.int .i64 x, .int .i64 x] 43 (0, 0))) w4 := (by first | with_reducible exact hb | with_reducible exact below_da hb | with_reducible exact below_ad hb); have HLIT := Aside0.mk (blk_below (blk_new w3 (.cells #[.int .i64 x, .int .i64 x] 43 (0, 0))) hbl); clear hbl; have hcp2 : Cpd w4 (w3.alloc (.cells #[.int .i64 x, .int .i64 x] 43 (0, 0))).heap.size w4.heap.size cv L := (by exact hcp); have HCP := Aside0.mk (Cpd.weak (B' := w3.heap.size + 1) hcp2 (blk_lt (blk_new w3 (.cells #[.int .i64 x, .int .i64 x] 43 (0, 0))))); have HB0 := Aside0.mk (Nat.le_succ_of_le lHS2); clear hcp hcp2; have n0_ := Aside0.mk (below_step (by repeat (first | (with_reducible first | exact HB.out | apply below_alloc | apply pw_below_drewN | apply below_drew1) | exact HB.out)) hb); clear HB; have HB := n0_; clear n0_; have hs_ := below_step (by repeat (first | (with_reducible first | exact HL.out | apply below_alloc | apply pw_below_drewN | apply below_drew1) | exact HL.out)) hb; have n_ := Aside0.mk (blk_below HS0.out hs_); clear qHS0_0 lHS0; clear HS0; have HS0 := n_; clear n_; have qHS0_0 := blk_cell HS0.out 0; have lHS0 := blk_lt HS0.out; simp only [List.getElem?_toArray, List.getElem?_cons_zero, List.getElem?_cons_succ] at qHS0_0; have n_ := Aside0.mk (blk_below HS1.out hs_); clear qHS1_0 lHS1; clear HS1; have HS1 := n_; clear n_; have qHS1_0 := blk_cell HS1.out 0; have lHS1 := blk_lt HS1.out; simp only [List.getElem?_toArray, List.getElem?_cons_zero, List.getElem?_cons_succ] at qHS1_0; have n_ := Aside0.mk (blk_below HS2.out hs_); clear qHS2_0 lHS2 fHS2; clear HS2; have HS2 := n_; clear n_; have qHS2_0 := blk_cell HS2.out 0; have lHS2 := blk_lt HS2.out; simp only [List.getElem?_toArray, List.getElem?_cons_zero, List.getElem?_cons_succ] at qHS2_0; have fHS2 := blk_frozen HS2.out 0; clear HL hs_ hb; have HL := Aside0.mk (Below.refl w4.heap.size w4)) | (refine goes_ Try.func28 (by kernel_rfl) rfl #[.slice A n c] (by rfl) rfl rfl (by simp only [List.map_toArray, List.map_cons, List.map_nil]; rfl) ?_; refine (clone_any (Kd.C_below HR.out (by repeat (first | (with_reducible first | exact HB.out | apply below_alloc | apply pw_below_drewN | apply below_drew1) | exact HB.out))) hn100).mono ?_; rintro e w4 ⟨cv, rfl, hcp, hb⟩; refine ⟨_, rfl, ?_⟩; have HCP := Aside0.mk (Cpd.weak (B' := W.heap.size + 1 + 1 + 1) hcp (Nat.le_trans lHS2 (Below.size (by repeat (first | (with_reducible first | exact HL.out | apply below_alloc | apply pw_below_drewN | apply below_drew1) | exact HL.out))))); have HB0 := Aside0.mk (Nat.le_refl (W.heap.size + 1 + 1 + 1)); clear hcp; have n0_ := Aside0.mk (below_step (by repeat (first | (with_reducible first | exact HB.out | apply below_alloc | apply pw_below_drewN | apply below_drew1) | exact HB.out)) hb); clear HB; have HB := n0_; clear n0_; have hs_ := below_step (by repeat (first | (with_reducible first | exact HL.out | apply below_alloc | apply pw_below_drewN | apply below_drew1) | exact HL.out)) hb; have n_ := Aside0.mk (blk_below HS0.out hs_); clear qHS0_0 lHS0; clear HS0; have HS0 := n_; clear n_; have qHS0_0 := blk_cell HS0.out 0; have lHS0 := blk_lt HS0.out; simp only [List.getElem?_toArray, List.getElem?_cons_zero, List.getElem?_cons_succ] at qHS0_0; have n_ := Aside0.mk (blk_below HS1.out hs_); clear qHS1_0 lHS1; clear HS1; have HS1 := n_; clear n_; have qHS1_0 := blk_cell HS1.out 0; have lHS1 := blk_lt HS1.out; simp only [List.getElem?_toArray, List.getElem?_cons_zero, List.getElem?_cons_succ] at qHS1_0; have n_ := Aside0.mk (blk_below HS2.out hs_); clear qHS2_0 lHS2 fHS2; clear HS2; have HS2 := n_; clear n_; have qHS2_0 := blk_cell HS2.out 0; have lHS2 := blk_lt HS2.out; simp only [List.getElem?_toArray, List.getElem?_cons_zero, List.getElem?_cons_succ] at qHS2_0; have fHS2 := blk_frozen HS2.out 0; clear HL hs_ hb; have HL := Aside0.mk (Below.refl w4.heap.size w4)) | (refine goes_ Try.func27 (by kernel_rfl) rfl #[cv, .int .i64 (n : Int), .slice (some ⟨w4.heap.size, 0, none⟩) 1 1] (by rfl) rfl rfl (by simp only [List.map_toArray, List.map_cons, List.map_nil]; rfl) ?_; refine (insert_any (x1 := x) (x2 := x) (Cpd.below HCP.out (by repeat (first | (with_reducible first | exact HL.out | apply below_alloc | apply pw_below_drewN | apply below_drew1) | exact HL.out))) HB0.out (Nat.le_trans lHS2 (Below.size (by repeat (first | (with_reducible first | exact HL.out | apply below_alloc | apply pw_below_drewN | apply below_drew1) | exact HL.out)))) (.inl (Nat.le_refl _)) HAI.out HL1.out (blk_new _ _) _ HQ2.out M HM.out).mono ?_; rintro e w5 ⟨g1, c1, rfl, hrow, hge, hbx⟩; refine ⟨_, rfl, ?_⟩; have n0_ := Aside0.mk (below_weaken (by repeat (first | (with_reducible first | exact HB.out | apply below_alloc | apply pw_below_drewN | apply below_drew1) | exact HB.out)) (by omega) hbx); clear HB; have HB := n0_; clear n0_; have n_ := Aside0.mk (blk_in (o := .cells #[.slice A n c] 24 (0, 0)) (g := W.heap.size) (by repeat (first | exact HS0.out | (with_reducible refine blk_drewN ?_ _) | (with_reducible refine blk_drew ?_) | (with_reducible refine blk_alloc ?_ _))) hbx (by omega)); clear qHS0_0 lHS0; clear HS0; have HS0 := n_; clear n_; have qHS0_0 := blk_cell HS0.out 0; have lHS0 := blk_lt HS0.out; simp only [List.getElem?_toArray, List.getElem?_cons_zero, List.getElem?_cons_succ] at qHS0_0; have n_ := Aside0.mk (blk_in (o := .cells #[.int .i64 x] 2 (0, 0)) (g := (W.heap.size + 1)) (by repeat (first | exact HS1.out | (with_reducible refine blk_drewN ?_ _) | (with_reducible refine blk_drew ?_) | (with_reducible refine blk_alloc ?_ _))) hbx (by omega)); clear qHS1_0 lHS1; clear HS1; have HS1 := n_; clear n_; have qHS1_0 := blk_cell HS1.out 0; have lHS1 := blk_lt HS1.out; simp only [List.getElem?_toArray, List.getElem?_cons_zero, List.getElem?_cons_succ] at qHS1_0; have n_ := Aside0.mk (blk_in (o := .cells #[.slice none 0 0] 24 (0, 0)) (g := (W.heap.size + 1 + 1)) (by repeat (first | exact HS2.out | (with_reducible refine blk_drewN ?_ _) | (with_reducible refine blk_drew ?_) | (with_reducible refine blk_alloc ?_ _))) hbx (by omega)); clear qHS2_0 lHS2 fHS2; clear HS2; have HS2 := n_; clear n_; have qHS2_0 := blk_cell HS2.out 0; have lHS2 := blk_lt HS2.out; simp only [List.getElem?_toArray, List.getElem?_cons_zero, List.getElem?_cons_succ] at qHS2_0; have fHS2 := blk_frozen HS2.out 0; have HROW := Aside0.mk hrow; clear hrow hbx HL HCP; have HL := Aside0.mk (Below.refl w5.heap.size w5)) | (refine goes_ Try.func27 (by kernel_rfl) rfl #[cv, .int .i64 (n : Int), .slice (some ⟨w3.heap.size, 0, none⟩) 1 1] (by rfl) rfl rfl (by simp only [List.map_toArray, List.map_cons, List.map_nil]; rfl) ?_; refine (insert_any (x1 := x) (x2 := x) (Cpd.below HCP.out (by repeat (first | (with_reducible first | exact HL.out | apply below_alloc | apply pw_below_drewN | apply below_drew1) | exact HL.out))) HB0.out (Nat.le_trans lHS2 (Below.size (by repeat (first | (with_reducible first | exact HL.out | apply below_alloc | apply pw_below_drewN | apply below_drew1) | exact HL.out)))) (.inr (Nat.lt_succ_self _)) HAI.out HL1.out HLIT.out _ HQ2.out M HM.out).mono ?_; rintro e w5 ⟨g1, c1, rfl, hrow, hge, hbx⟩; refine ⟨_, rfl, ?_⟩; have n0_ := Aside0.mk (below_weaken (by repeat (first | (with_reducible first | exact HB.out | apply below_alloc | apply pw_below_drewN | apply below_drew1) | exact HB.out)) (by omega) hbx); clear HB; have HB := n0_; clear n0_; have n_ := Aside0.mk (blk_in (o := .cells #[.slice A n c] 24 (0, 0)) (g := W.heap.size) (by repeat (first | exact HS0.out | (with_reducible refine blk_drewN ?_ _) | (with_reducible refine blk_drew ?_) | (with_reducible refine blk_alloc ?_ _))) hbx (by omega)); clear qHS0_0 lHS0; clear HS0; have HS0 := n_; clear n_; have qHS0_0 := blk_cell HS0.out 0; have lHS0 := blk_lt HS0.out; simp only [List.getElem?_toArray, List.getElem?_cons_zero, List.getElem?_cons_succ] at qHS0_0; have n_ := Aside0.mk (blk_in (o := .cells #[.int .i64 x] 2 (0, 0)) (g := (W.heap.size + 1)) (by repeat (first | exact HS1.out | (with_reducible refine blk_drewN ?_ _) | (with_reducible refine blk_drew ?_) | (with_reducible refine blk_alloc ?_ _))) hbx (by omega)); clear qHS1_0 lHS1; clear HS1; have HS1 := n_; clear n_; have qHS1_0 := blk_cell HS1.out 0; have lHS1 := blk_lt HS1.out; simp only [List.getElem?_toArray, List.getElem?_cons_zero, List.getElem?_cons_succ] at qHS1_0; have n_ := Aside0.mk (blk_in (o := .cells #[.slice none 0 0] 24 (0, 0)) (g := (W.heap.size + 1 + 1)) (by repeat (first | exact HS2.out | (with_reducible refine blk_drewN ?_ _) | (with_reducible refine blk_drew ?_) | (with_reducible refine blk_alloc ?_ _))) hbx (by omega)); clear qHS2_0 lHS2 fHS2; clear HS2; have HS2 := n_; clear n_; have qHS2_0 := blk_cell HS2.out 0; have lHS2 := blk_lt HS2.out; simp only [List.getElem?_toArray, List.getElem?_cons_zero, List.getElem?_cons_succ] at qHS2_0; have fHS2 := blk_frozen HS2.out 0; have HROW := Aside0.mk hrow; clear hrow hbx HL HCP; have HL := Aside0.mk (Below.refl w5.heap.size w5)))
      all_goals go_wp2
      all_goals go_meet
      all_goals exact ⟨g1, c1, rfl, HROW, hge, HB, HS0, HS1, HS2⟩
    case rest => as_aux_lemma =>
      obtain ⟨g1, c1, rfl, HROW, hge, HB, HS0, HS1, HS2⟩ := hcut
      clear HL qHS0_0 lHS0 qHS1_0 lHS1 qHS2_0 lHS2 fHS2
      have qHS0_0 := blk_cell HS0.out 0
      have lHS0 := blk_lt HS0.out
      simp only [List.getElem?_toArray, List.getElem?_cons_zero, List.getElem?_cons_succ] at qHS0_0
      have qHS1_0 := blk_cell HS1.out 0
      have lHS1 := blk_lt HS1.out
      simp only [List.getElem?_toArray, List.getElem?_cons_zero, List.getElem?_cons_succ] at qHS1_0
      have qHS2_0 := blk_cell HS2.out 0
      have lHS2 := blk_lt HS2.out
      simp only [List.getElem?_toArray, List.getElem?_cons_zero, List.getElem?_cons_succ] at qHS2_0
      have fHS2 := blk_frozen HS2.out 0
      go_wp2
      go_loopw [7, 43] (fun v7 v43 wr => ∃ k : Nat, v43 = .int .i64 (k : Int) ∧ k ≤ M.length ∧ v7 = .int .i64 ((leastN M k : Nat) : Int) ∧ Aside0 (RowI wr g1 c1 M) ∧ Aside0 (Below W.heap.size W wr) ∧ Aside0 (wr.heap[W.heap.size + 1 + 1]? = some (.cells #[.slice none 0 0] 24 (0, 0)))) (fun _ v _ => M.length - (intOf v).toNat)
      case atStart => exact ⟨0, rfl, by omega, rfl, HROW, HB, HS2⟩
      case round =>
        clear HROW HB HS0 qHS0_0 lHS0 HS1 qHS1_0 lHS1 HS2 qHS2_0 lHS2 fHS2
        obtain ⟨k, rfl, hk, rfl, HROW, HB, HS2⟩ := hrel
        have HL := Aside0.mk (Below.refl wr.heap.size wr)
        by_cases hlt : k < M.length
        · rcases k with _ | _ | k
          · go_wp2
            all_goals (try (exfalso; omega))
            all_goals go_roundw
            all_goals (try (case rel => exact ⟨1, by go_num, by omega, rfl, HROW, HB, HS2⟩))
            all_goals (try (case measure => (simp [intOf] <;> omega)))
          · go_wp2
            all_goals (try (exfalso; omega))
            all_goals go_roundw
            all_goals (try (case rel => exact ⟨2, by go_num, by omega, rfl, HROW, HB, HS2⟩))
            all_goals (try (case measure => (simp [intOf] <;> omega)))
          · have hm1 := leastN_pos M (k + 2)
            have hm2 := leastN_lt M (k + 2)
            obtain ⟨m, HMM⟩ : ∃ m, Aside0 (leastN M (k + 2) = m) := ⟨_, ⟨rfl⟩⟩
            rw [HMM.out] at hm1 hm2 ⊢
            have hm3 : m < M.length := by omega
            have hmx : M.length ≤ 140737488351232 := by omega
            have hk2 : (1 : Int) < (k : Int) + 1 + 1 := by omega
            have h12 : 1 ≤ k + 2 := by omega
            obtain ⟨ga, HGA⟩ : ∃ ga, Aside0 (gapAt M (k + 2) = ga) := ⟨_, ⟨rfl⟩⟩
            obtain ⟨gb, HGB⟩ : ∃ gb, Aside0 (gapAt M m = gb) := ⟨_, ⟨rfl⟩⟩
            by_cases hgap : ga < gb
            · have HN1 := Aside0.mk (leastN_step M k (by rw [HMM.out, HGA.out, HGB.out]; exact hgap))
              go_wp2_with (first | (go_at_call 29; (with_reducible refine (gap_i (HROW.out.below (by repeat (first | (with_reducible first | exact HL.out | apply below_alloc | apply pw_below_drewN | apply below_drew1) | exact HL.out))).C hmx (k + 2) h12 (by omega) _ (by go_num)).mono ?_); rintro e w6 ⟨rfl, hb⟩; rw [HGA.out]; have n0_ := Aside0.mk (below_step (by repeat (first | (with_reducible first | exact HB.out | apply below_alloc | apply pw_below_drewN | apply below_drew1) | exact HB.out)) hb); clear HB; have HB := n0_; clear n0_; have n_ := Aside0.mk (HROW.out.below (below_step (by repeat (first | (with_reducible first | exact HL.out | apply below_alloc | apply pw_below_drewN | apply below_drew1) | exact HL.out)) hb)); clear HROW; have HROW := n_; clear n_; have n_ := Aside0.mk (blk_below HS2.out (below_step (by repeat (first | (with_reducible first | exact HL.out | apply below_alloc | apply pw_below_drewN | apply below_drew1) | exact HL.out)) hb)); clear HS2; have HS2 := n_; clear n_ hb HL; have HL := Aside0.mk (Below.refl w6.heap.size w6); clear HGA) | (go_at_call 29; (with_reducible refine (gap_i (HROW.out.below (by repeat (first | (with_reducible first | exact HL.out | apply below_alloc | apply pw_below_drewN | apply below_drew1) | exact HL.out))).C hmx m hm1 (by omega) _ (by go_num)).mono ?_); rintro e w7 ⟨rfl, hb⟩; rw [HGB.out]; have n0_ := Aside0.mk (below_step (by repeat (first | (with_reducible first | exact HB.out | apply below_alloc | apply pw_below_drewN | apply below_drew1) | exact HB.out)) hb); clear HB; have HB := n0_; clear n0_; have n_ := Aside0.mk (HROW.out.below (below_step (by repeat (first | (with_reducible first | exact HL.out | apply below_alloc | apply pw_below_drewN | apply below_drew1) | exact HL.out)) hb)); clear HROW; have HROW := n_; clear n_; have n_ := Aside0.mk (blk_below HS2.out (below_step (by repeat (first | (with_reducible first | exact HL.out | apply below_alloc | apply pw_below_drewN | apply below_drew1) | exact HL.out)) hb)); clear HS2; have HS2 := n_; clear n_ hb HL; have HL := Aside0.mk (Below.refl w7.heap.size w7); clear HGB))
              all_goals (try (exfalso; omega))
              all_goals go_roundw
              all_goals (try (case rel => exact ⟨k + 2 + 1, by go_num, by omega, by rw [HN1.out]; go_num, HROW, HB, HS2⟩))
              all_goals (try (case measure => (simp [intOf] <;> omega)))
            · have HN1 := Aside0.mk (show leastN M (k + 2 + 1) = m by rw [leastN_keep M k (by rw [HMM.out, HGA.out, HGB.out]; exact hgap), HMM.out])
              go_wp2_with (first | (go_at_call 29; (with_reducible refine (gap_i (HROW.out.below (by repeat (first | (with_reducible first | exact HL.out | apply below_alloc | apply pw_below_drewN | apply below_drew1) | exact HL.out))).C hmx (k + 2) h12 (by omega) _ (by go_num)).mono ?_); rintro e w6 ⟨rfl, hb⟩; rw [HGA.out]; have n0_ := Aside0.mk (below_step (by repeat (first | (with_reducible first | exact HB.out | apply below_alloc | apply pw_below_drewN | apply below_drew1) | exact HB.out)) hb); clear HB; have HB := n0_; clear n0_; have n_ := Aside0.mk (HROW.out.below (below_step (by repeat (first | (with_reducible first | exact HL.out | apply below_alloc | apply pw_below_drewN | apply below_drew1) | exact HL.out)) hb)); clear HROW; have HROW := n_; clear n_; have n_ := Aside0.mk (blk_below HS2.out (below_step (by repeat (first | (with_reducible first | exact HL.out | apply below_alloc | apply pw_below_drewN | apply below_drew1) | exact HL.out)) hb)); clear HS2; have HS2 := n_; clear n_ hb HL; have HL := Aside0.mk (Below.refl w6.heap.size w6); clear HGA) | (go_at_call 29; (with_reducible refine (gap_i (HROW.out.below (by repeat (first | (with_reducible first | exact HL.out | apply below_alloc | apply pw_below_drewN | apply below_drew1) | exact HL.out))).C hmx m hm1 (by omega) _ (by go_num)).mono ?_); rintro e w7 ⟨rfl, hb⟩; rw [HGB.out]; have n0_ := Aside0.mk (below_step (by repeat (first | (with_reducible first | exact HB.out | apply below_alloc | apply pw_below_drewN | apply below_drew1) | exact HB.out)) hb); clear HB; have HB := n0_; clear n0_; have n_ := Aside0.mk (HROW.out.below (below_step (by repeat (first | (with_reducible first | exact HL.out | apply below_alloc | apply pw_below_drewN | apply below_drew1) | exact HL.out)) hb)); clear HROW; have HROW := n_; clear n_; have n_ := Aside0.mk (blk_below HS2.out (below_step (by repeat (first | (with_reducible first | exact HL.out | apply below_alloc | apply pw_below_drewN | apply below_drew1) | exact HL.out)) hb)); clear HS2; have HS2 := n_; clear n_ hb HL; have HL := Aside0.mk (Below.refl w7.heap.size w7); clear HGB))
              all_goals (try (exfalso; omega))
              all_goals go_roundw
              all_goals (try (case rel => exact ⟨k + 2 + 1, by go_num, by omega, by rw [HN1.out], HROW, HB, HS2⟩))
              all_goals (try (case measure => (simp [intOf] <;> omega)))
        · obtain rfl : k = M.length := by omega
          have hp1 := leastN_pos M M.length
          have hp2 := leastN_lt M M.length
          obtain ⟨m, hme⟩ : ∃ m, leastN M M.length = m + 1 := ⟨leastN M M.length - 1, by omega⟩
          have HME := Aside0.mk (show leastN M 5 = m + 1 by rw [← hme, HM5.out])
          rw [hme] at hp1 hp2 ⊢
          clear hme
          have hm1 : m + 1 < M.length := by omega
          have hm0 : m < M.length := by omega
          have hmI : (m : Int) + 1 < (M.length : Int) := by omega
          have hmJ : (m : Int) < (M.length : Int) := by omega
          have hmK : (0 : Int) ≤ (m : Int) + 1 := by omega
          obtain ⟨x0, hx0⟩ : ∃ y, M[m]? = some y := ⟨M[m], List.getElem?_eq_getElem hm0⟩
          obtain ⟨x1, hx1⟩ : ∃ y, M[m + 1]? = some y := ⟨M[m + 1], List.getElem?_eq_getElem hm1⟩
          obtain ⟨a0, b0⟩ := x0
          obtain ⟨a1, b1⟩ := x1
          have HRS := Aside0.mk (HROW.out.setEnd m hm0 (a0, b0) hx0 b1)
          have c0 := rowI_cells HROW.out (m * 2 + 1) _ (flat_at M m _ hx0).2
          have c1_ := rowI_cells HROW.out ((m + 1) * 2 + 1) _ (flat_at M (m + 1) _ hx1).2
          simp only at c0 c1_
          have f0 := HROW.out.froz (m * 2 + 1)
          have s2 := blk_cell HS2.out 0
          have f2 := blk_frozen HS2.out 0
          have l2 := blk_lt HS2.out
          simp only [List.getElem?_toArray, List.getElem?_cons_zero] at s2
          have HX := Aside0.mk (show mergeI M (m + 1) = delI (M.set m (a0, b1)) (m + 1) by
            unfold mergeI
            rw [Nat.add_sub_cancel, List.getD_eq_getElem?_getD, List.getD_eq_getElem?_getD, hx0, hx1]
            rfl)
          have HM3 := Aside0.mk (show delI (M.set m (a0, b1)) (m + 1) = M2 by rw [← HX.out, ← HME.out]; exact HM2.out)
          clear hx0 hx1 HX HME hp1 hp2
          have hw2 : IntKind.i64.wrap (m : Int) = (m : Int) := by rw [i64_w]; exact wrap_small _ (by omega) (by omega)
          go_upto_region 16 with fail
          refine start_ (n := 11) (S := fun w' => w'.cell? ⟨g1, (m + 1) * 2 + 1, none⟩ = some (.int .i64 b1)) (ds := [10]) #[false, false, false, false, false, false, false, false, false, false, false] (by kernel_rfl) rfl rfl (c1_) (fun hHeld => ?_)
          refine pure_ (i := 0) (N := some 59) (v := ?_) (a' := ?_) #[true, false, false, false, false, false, false, false, false, false, false] rfl rfl (by kernel_rfl) (fun _ _ _ h => h) (Or.inl ⟨by rfl, ?_⟩) ?_ ?_
          rotate_left
          · intro w'
            go_simp
            with_reducible rfl
          rotate_left
          · simp only [Act.put, List.setIfInBounds_toArray, List.set_cons_zero, List.set_cons_succ, i64_w, i32_w]
            rfl
          refine pure_ (i := 1) (N := some 60) (v := ?_) (a' := ?_) #[true, true, false, false, false, false, false, false, false, false, false] rfl rfl (by kernel_rfl) (fun _ _ _ h => h) (Or.inl ⟨by rfl, ?_⟩) ?_ ?_
          rotate_left
          · intro w'
            go_simp
            with_reducible rfl
          rotate_left
          · simp only [Act.put, List.setIfInBounds_toArray, List.set_cons_zero, List.set_cons_succ, i64_w, i32_w]
            rfl
          refine pure_ (i := 2) (N := some 61) (v := ?_) (a' := ?_) #[true, true, true, false, false, false, false, false, false, false, false] rfl rfl (by kernel_rfl) (fun _ _ _ h => h) (Or.inl ⟨by rfl, ?_⟩) ?_ ?_
          rotate_left
          · intro w'
            go_simp
            with_reducible rfl
          rotate_left
          · simp only [Act.put, List.setIfInBounds_toArray, List.set_cons_zero, List.set_cons_succ, i64_w, i32_w]
            rfl
          refine pure_ (i := 3) (N := some 62) (v := ?_) (a' := ?_) #[true, true, true, true, false, false, false, false, false, false, false] rfl rfl (by kernel_rfl) (fun _ _ _ h => h) (Or.inl ⟨by rfl, ?_⟩) ?_ ?_
          rotate_left
          · intro w'
            go_simp
            with_reducible rfl
          rotate_left
          · simp only [Act.put, List.setIfInBounds_toArray, List.set_cons_zero, List.set_cons_succ, i64_w, i32_w]
            rfl
          refine pure_ (i := 4) (N := some 63) (v := ?_) (a' := ?_) #[true, true, true, true, true, false, false, false, false, false, false] rfl rfl (by kernel_rfl) (fun _ _ _ h => h) (Or.inl ⟨by rfl, ?_⟩) ?_ ?_
          rotate_left
          · intro w'
            go_simp
            with_reducible rfl
          rotate_left
          · simp only [Act.put, List.setIfInBounds_toArray, List.set_cons_zero, List.set_cons_succ, i64_w, i32_w]
            rfl
          refine pure_ (i := 5) (N := some 64) (v := ?_) (a' := ?_) #[true, true, true, true, true, true, false, false, false, false, false] rfl rfl (by kernel_rfl) (fun _ _ _ h => h) (Or.inl ⟨by rfl, ?_⟩) ?_ ?_
          rotate_left
          · intro w'
            go_simp
            with_reducible rfl
          rotate_left
          · simp only [Act.put, List.setIfInBounds_toArray, List.set_cons_zero, List.set_cons_succ, i64_w, i32_w]
            rfl
          refine pure_ (i := 6) (N := some 65) (v := ?_) (a' := ?_) #[true, true, true, true, true, true, true, false, false, false, false] rfl rfl (by kernel_rfl) (fun _ _ _ h => h) (Or.inl ⟨by rfl, ?_⟩) ?_ ?_
          rotate_left
          · intro w'
            go_simp
            with_reducible rfl
          rotate_left
          · simp only [Act.put, List.setIfInBounds_toArray, List.set_cons_zero, List.set_cons_succ, i64_w, i32_w]
            rfl
          refine pure_ (i := 8) (N := some 67) (v := ?_) (a' := ?_) #[true, true, true, true, true, true, true, false, true, false, false] rfl rfl (by kernel_rfl) (fun _ _ _ h => h) (Or.inl ⟨by rfl, ?_⟩) ?_ ?_
          rotate_left
          · intro w'
            go_simp
            with_reducible rfl
          rotate_left
          · simp only [Act.put, List.setIfInBounds_toArray, List.set_cons_zero, List.set_cons_succ, i64_w, i32_w]
            rfl
          refine take_ (i := 7) (N := some 66) (v := ?_) (a' := ?_) #[true, true, true, true, true, true, true, true, true, false, false] rfl rfl (by kernel_rfl) (fun _ _ _ h => h) (Or.inl ⟨by rfl, ?_⟩) hHeld ?_ ?_
          rotate_left
          · intro w' s0
            go_simp
            with_reducible rfl
          rotate_left
          · simp only [Act.put, List.setIfInBounds_toArray, List.set_cons_zero, List.set_cons_succ, i64_w, i32_w]
            rfl
          refine pure_ (i := 9) (N := some 68) (v := ?_) (a' := ?_) #[true, true, true, true, true, true, true, true, true, true, false] rfl rfl (by kernel_rfl) (fun _ _ _ h => h) (Or.inl ⟨by rfl, ?_⟩) ?_ ?_
          rotate_left
          · intro w'
            go_simp
            with_reducible rfl
          rotate_left
          · simp only [Act.put, List.setIfInBounds_toArray, List.set_cons_zero, List.set_cons_succ, i64_w, i32_w]
            rfl
          refine last_ (i := 10) (N := none) #[true, true, true, true, true, true, true, true, true, true, true] rfl rfl (by kernel_rfl) (by decide) (fun Kc hKc => ?_)
          refine skip_ (w1 := ?_) (by rfl) rfl ?_ ?_
          rotate_left
          · go_simp
            rfl
          refine hKc.out _ _ ?_
          clear hKc Kc
          refine done_ (by kernel_rfl) ?_
          have HRD := Aside0.mk (show RowI ((wr.setCell ⟨g1, m * 2 + 1, none⟩ (.int .i64 b1)).drew) g1 c1 (M.set m (a0, b1)) from HRS.out)
          have HBD := Aside0.mk (show Below W.heap.size W ((wr.setCell ⟨g1, m * 2 + 1, none⟩ (.int .i64 b1)).drew) from below_drew1 (below_set HB.out (by omega)))
          have HSD := Aside0.mk (show ((wr.setCell ⟨g1, m * 2 + 1, none⟩ (.int .i64 b1)).drew).heap[W.heap.size + 1 + 1]? = some (.cells #[.slice none 0 0] 24 (0, 0)) from (Below.heap_setCell wr ⟨g1, m * 2 + 1, none⟩ _ _ (by show W.heap.size + 1 + 1 ≠ g1; omega)).trans HS2.out)
          clear HRS HB HS2 HROW s2 f2 l2 c0 c1_ f0 HL
          generalize (wr.setCell ⟨g1, m * 2 + 1, none⟩ (.int .i64 b1)).drew = wx at *
          have s2 := blk_cell HSD.out 0
          have f2 := blk_frozen HSD.out 0
          have l2 := blk_lt HSD.out
          simp only [List.getElem?_toArray, List.getElem?_cons_zero] at s2
          have HL := Aside0.mk (Below.refl wx.heap.size wx)
          have hsl : (M.set m (a0, b1)).length = M.length := List.length_set
          have HSL := Aside0.mk hsl
          clear hsl
          go_wp2_with (first | (go_at_call 30; (with_reducible refine (delI_i (HRD.out.below (by repeat (first | (with_reducible first | exact HL.out | apply below_alloc | apply pw_below_drewN | apply below_drew1) | exact HL.out))) (by rw [HSL.out]; exact hm1) (by rw [HSL.out]; omega) M.length HSL.out _ _ (by omega) (by omega) HM3.out).mono ?_); rintro e w8 ⟨rfl, hrow, hbx⟩; have n_ := Aside0.mk (below_weaken (by repeat (first | (with_reducible first | exact HBD.out | apply below_alloc | apply pw_below_drewN | apply below_drew1) | exact HBD.out)) (by omega) hbx); clear HBD; have HB := n_; clear n_; have n_ := Aside0.mk (blk_in (o := .cells #[.slice none 0 0] 24 (0, 0)) (g := W.heap.size + 1 + 1) (by repeat (first | exact HSD.out | (with_reducible refine blk_drewN ?_ _) | (with_reducible refine blk_drew ?_) | (with_reducible refine blk_alloc ?_ _))) hbx (by omega)); clear HSD s2 f2 l2; have HS2 := n_; clear n_; have s2 := blk_cell HS2.out 0; have f2 := blk_frozen HS2.out 0; have l2 := blk_lt HS2.out; simp only [List.getElem?_toArray, List.getElem?_cons_zero] at s2; have HROW := Aside0.mk hrow; clear hrow hbx))
          all_goals (try (exfalso; omega))
          refine bodyPost_ret (v := .agg #[.slice (some ⟨g1, 0, none⟩) M2.length c1]) (by simp [results, Try.results11, go_sem, World.cell?_setCell_same _ _ _ s2]) rfl ?_
          refine ⟨some ⟨g1, 0, none⟩, c1, ?_, ?_, ?_, .inr ⟨g1, rfl, by rw [HE.out]; exact HROW.out.far (by omega) _⟩, below_set HB.out (by omega)⟩
          all_goals rw [HE.out]
          all_goals first | rfl | exact (HROW.out.far (by omega) _).C | exact HROW.out.cap
  · have HQ := Aside0.mk hq
    have HQ2 := Aside0.mk (show (k : Int) = ((atI L x : Nat) : Int) by rw [ha])
    have hk0 : (0 : Int) ≤ (k : Int) := by omega
    clear hr hb hh hE hM hm hl4 ha hq hk
    go_enter Try.func11, Try.ntmps11
    go_wp2_with (first | (go_at_call 20; (with_reducible refine (right_c (Kd.C_below HR.out (by repeat (first | (with_reducible first | exact HB.out | apply below_alloc | apply pw_below_drewN | apply below_drew1) | exact HB.out))) hc hlm _ HRT.out).mono ?_); rintro e w1 ⟨rfl, hb⟩; have n0_ := Aside0.mk (below_step (by repeat (first | (with_reducible first | exact HB.out | apply below_alloc | apply pw_below_drewN | apply below_drew1) | exact HB.out)) hb); clear HB; have HB := n0_; clear n0_; have hs_ := below_step (by repeat (first | (with_reducible first | exact HL.out | apply below_alloc | apply pw_below_drewN | apply below_drew1) | exact HL.out)) hb; have HS0 := Aside0.mk (blk_below (o := .cells #[.slice A n c] 24 (0, 0)) (g := W.heap.size) (by repeat (first | (with_reducible refine blk_drewN ?_ _) | (with_reducible refine blk_drew ?_) | exact blk_new' (by first | rfl | simp) | (with_reducible refine blk_alloc ?_ _))) hb); have qHS0_0 := blk_cell HS0.out 0; have lHS0 := blk_lt HS0.out; simp only [List.getElem?_toArray, List.getElem?_cons_zero, List.getElem?_cons_succ] at qHS0_0; have HS1 := Aside0.mk (blk_below (o := .cells #[.int .i64 x] 2 (0, 0)) (g := (W.heap.size + 1)) (by repeat (first | (with_reducible refine blk_drewN ?_ _) | (with_reducible refine blk_drew ?_) | exact blk_new' (by first | rfl | simp) | (with_reducible refine blk_alloc ?_ _))) hb); have qHS1_0 := blk_cell HS1.out 0; have lHS1 := blk_lt HS1.out; simp only [List.getElem?_toArray, List.getElem?_cons_zero, List.getElem?_cons_succ] at qHS1_0; have HS2 := Aside0.mk (blk_below (o := .cells #[.slice none 0 0] 24 (0, 0)) (g := (W.heap.size + 1 + 1)) (by repeat (first | (with_reducible refine blk_drewN ?_ _) | (with_reducible refine blk_drew ?_) | exact blk_new' (by first | rfl | simp) | (with_reducible refine blk_alloc ?_ _))) hb); have qHS2_0 := blk_cell HS2.out 0; have lHS2 := blk_lt HS2.out; simp only [List.getElem?_toArray, List.getElem?_cons_zero, List.getElem?_cons_succ] at qHS2_0; have fHS2 := blk_frozen HS2.out 0; clear HL hs_ hb; have HL := Aside0.mk (Below.refl w1.heap.size w1)) | (go_at_call 14; (with_reducible refine (has_c (Kd.C_below HR.out (by repeat (first | (with_reducible first | exact HB.out | apply below_alloc | apply pw_below_drewN | apply below_drew1) | exact HB.out))) hc hlm x _ HH.out).mono ?_); rintro e w2 ⟨rfl, hb⟩; have n0_ := Aside0.mk (below_step (by repeat (first | (with_reducible first | exact HB.out | apply below_alloc | apply pw_below_drewN | apply below_drew1) | exact HB.out)) hb); clear HB; have HB := n0_; clear n0_; have hs_ := below_step (by repeat (first | (with_reducible first | exact HL.out | apply below_alloc | apply pw_below_drewN | apply below_drew1) | exact HL.out)) hb; have n_ := Aside0.mk (blk_below HS0.out hs_); clear qHS0_0 lHS0; clear HS0; have HS0 := n_; clear n_; have qHS0_0 := blk_cell HS0.out 0; have lHS0 := blk_lt HS0.out; simp only [List.getElem?_toArray, List.getElem?_cons_zero, List.getElem?_cons_succ] at qHS0_0; have n_ := Aside0.mk (blk_below HS1.out hs_); clear qHS1_0 lHS1; clear HS1; have HS1 := n_; clear n_; have qHS1_0 := blk_cell HS1.out 0; have lHS1 := blk_lt HS1.out; simp only [List.getElem?_toArray, List.getElem?_cons_zero, List.getElem?_cons_succ] at qHS1_0; have n_ := Aside0.mk (blk_below HS2.out hs_); clear qHS2_0 lHS2 fHS2; clear HS2; have HS2 := n_; clear n_; have qHS2_0 := blk_cell HS2.out 0; have lHS2 := blk_lt HS2.out; simp only [List.getElem?_toArray, List.getElem?_cons_zero, List.getElem?_cons_succ] at qHS2_0; have fHS2 := blk_frozen HS2.out 0; clear HL hs_ hb; have HL := Aside0.mk (Below.refl w2.heap.size w2)) | (go_at_call 25; (with_reducible refine (index_c (Kd.C_below HR.out (by repeat (first | (with_reducible first | exact HB.out | apply below_alloc | apply pw_below_drewN | apply below_drew1) | exact HB.out))) hlm HS1.out _ HQ.out).mono ?_); rintro e w3 ⟨rfl, hb⟩; have n0_ := Aside0.mk (below_step (by repeat (first | (with_reducible first | exact HB.out | apply below_alloc | apply pw_below_drewN | apply below_drew1) | exact HB.out)) hb); clear HB; have HB := n0_; clear n0_; have hs_ := below_step (by repeat (first | (with_reducible first | exact HL.out | apply below_alloc | apply pw_below_drewN | apply below_drew1) | exact HL.out)) hb; have n_ := Aside0.mk (blk_below HS0.out hs_); clear qHS0_0 lHS0; clear HS0; have HS0 := n_; clear n_; have qHS0_0 := blk_cell HS0.out 0; have lHS0 := blk_lt HS0.out; simp only [List.getElem?_toArray, List.getElem?_cons_zero, List.getElem?_cons_succ] at qHS0_0; have n_ := Aside0.mk (blk_below HS1.out hs_); clear qHS1_0 lHS1; clear HS1; have HS1 := n_; clear n_; have qHS1_0 := blk_cell HS1.out 0; have lHS1 := blk_lt HS1.out; simp only [List.getElem?_toArray, List.getElem?_cons_zero, List.getElem?_cons_succ] at qHS1_0; have n_ := Aside0.mk (blk_below HS2.out hs_); clear qHS2_0 lHS2 fHS2; clear HS2; have HS2 := n_; clear n_; have qHS2_0 := blk_cell HS2.out 0; have lHS2 := blk_lt HS2.out; simp only [List.getElem?_toArray, List.getElem?_cons_zero, List.getElem?_cons_succ] at qHS2_0; have fHS2 := blk_frozen HS2.out 0; clear HL hs_ hb; have HL := Aside0.mk (Below.refl w3.heap.size w3)))
    go_cut [6] (fun v6 wx => ∃ (g1 c1 : Nat), v6 = .slice (some ⟨g1, 0, none⟩) M.length c1 ∧ Aside0 (RowI wx g1 c1 M) ∧ W.heap.size + 1 + 1 + 1 ≤ g1 ∧ Aside0 (Below W.heap.size W wx) ∧ Aside0 (wx.heap[W.heap.size]? = some (.cells #[.slice A n c] 24 (0, 0))) ∧ Aside0 (wx.heap[(W.heap.size + 1)]? = some (.cells #[.int .i64 x] 2 (0, 0))) ∧ Aside0 (wx.heap[(W.heap.size + 1 + 1)]? = some (.cells #[.slice none 0 0] 24 (0, 0))))
    case first => as_aux_lemma =>
      go_region_law (first | (refine goes_ Try.func28 (by kernel_rfl) rfl #[.slice A n c] (by rfl) rfl rfl (by simp only [List.map_toArray, List.map_cons, List.map_nil]; rfl) ?_; refine (clone_any (Kd.C_below HR.out (by repeat (first | (with_reducible first | exact HB.out | apply below_alloc | apply pw_below_drewN | apply below_drew1) | exact HB.out))) hn100).mono ?_; rintro e w4 ⟨cv, rfl, hcp, hb⟩; refine ⟨_, rfl, ?_⟩; have hbl : Below (w3.alloc (.cells #[.int .i64 x, .int .i64 x] 43 (0, 0))).heap.size (w3.alloc (.cells #[.int .i64 x, .int .i64 x] 43 (0, 0))) w4 := (by first | with_reducible exact hb | with_reducible exact below_da hb | with_reducible exact below_ad hb); have HLIT := Aside0.mk (blk_below (blk_new w3 (.cells #[.int .i64 x, .int .i64 x] 43 (0, 0))) hbl); clear hbl; have hcp2 : Cpd w4 (w3.alloc (.cells #[.int .i64 x, .int .i64 x] 43 (0, 0))).heap.size w4.heap.size cv L := (by exact hcp); have HCP := Aside0.mk (Cpd.weak (B' := w3.heap.size + 1) hcp2 (blk_lt (blk_new w3 (.cells #[.int .i64 x, .int .i64 x] 43 (0, 0))))); have HB0 := Aside0.mk (Nat.le_succ_of_le lHS2); clear hcp hcp2; have n0_ := Aside0.mk (below_step (by repeat (first | (with_reducible first | exact HB.out | apply below_alloc | apply pw_below_drewN | apply below_drew1) | exact HB.out)) hb); clear HB; have HB := n0_; clear n0_; have hs_ := below_step (by repeat (first | (with_reducible first | exact HL.out | apply below_alloc | apply pw_below_drewN | apply below_drew1) | exact HL.out)) hb; have n_ := Aside0.mk (blk_below HS0.out hs_); clear qHS0_0 lHS0; clear HS0; have HS0 := n_; clear n_; have qHS0_0 := blk_cell HS0.out 0; have lHS0 := blk_lt HS0.out; simp only [List.getElem?_toArray, List.getElem?_cons_zero, List.getElem?_cons_succ] at qHS0_0; have n_ := Aside0.mk (blk_below HS1.out hs_); clear qHS1_0 lHS1; clear HS1; have HS1 := n_; clear n_; have qHS1_0 := blk_cell HS1.out 0; have lHS1 := blk_lt HS1.out; simp only [List.getElem?_toArray, List.getElem?_cons_zero, List.getElem?_cons_succ] at qHS1_0; have n_ := Aside0.mk (blk_below HS2.out hs_); clear qHS2_0 lHS2 fHS2; clear HS2; have HS2 := n_; clear n_; have qHS2_0 := blk_cell HS2.out 0; have lHS2 := blk_lt HS2.out; simp only [List.getElem?_toArray, List.getElem?_cons_zero, List.getElem?_cons_succ] at qHS2_0; have fHS2 := blk_frozen HS2.out 0; clear HL hs_ hb; have HL := Aside0.mk (Below.refl w4.heap.size w4)) | (refine goes_ Try.func28 (by kernel_rfl) rfl #[.slice A n c] (by rfl) rfl rfl (by simp only [List.map_toArray, List.map_cons, List.map_nil]; rfl) ?_; refine (clone_any (Kd.C_below HR.out (by repeat (first | (with_reducible first | exact HB.out | apply below_alloc | apply pw_below_drewN | apply below_drew1) | exact HB.out))) hn100).mono ?_; rintro e w4 ⟨cv, rfl, hcp, hb⟩; refine ⟨_, rfl, ?_⟩; have HCP := Aside0.mk (Cpd.weak (B' := W.heap.size + 1 + 1 + 1) hcp (Nat.le_trans lHS2 (Below.size (by repeat (first | (with_reducible first | exact HL.out | apply below_alloc | apply pw_below_drewN | apply below_drew1) | exact HL.out))))); have HB0 := Aside0.mk (Nat.le_refl (W.heap.size + 1 + 1 + 1)); clear hcp; have n0_ := Aside0.mk (below_step (by repeat (first | (with_reducible first | exact HB.out | apply below_alloc | apply pw_below_drewN | apply below_drew1) | exact HB.out)) hb); clear HB; have HB := n0_; clear n0_; have hs_ := below_step (by repeat (first | (with_reducible first | exact HL.out | apply below_alloc | apply pw_below_drewN | apply below_drew1) | exact HL.out)) hb; have n_ := Aside0.mk (blk_below HS0.out hs_); clear qHS0_0 lHS0; clear HS0; have HS0 := n_; clear n_; have qHS0_0 := blk_cell HS0.out 0; have lHS0 := blk_lt HS0.out; simp only [List.getElem?_toArray, List.getElem?_cons_zero, List.getElem?_cons_succ] at qHS0_0; have n_ := Aside0.mk (blk_below HS1.out hs_); clear qHS1_0 lHS1; clear HS1; have HS1 := n_; clear n_; have qHS1_0 := blk_cell HS1.out 0; have lHS1 := blk_lt HS1.out; simp only [List.getElem?_toArray, List.getElem?_cons_zero, List.getElem?_cons_succ] at qHS1_0; have n_ := Aside0.mk (blk_below HS2.out hs_); clear qHS2_0 lHS2 fHS2; clear HS2; have HS2 := n_; clear n_; have qHS2_0 := blk_cell HS2.out 0; have lHS2 := blk_lt HS2.out; simp only [List.getElem?_toArray, List.getElem?_cons_zero, List.getElem?_cons_succ] at qHS2_0; have fHS2 := blk_frozen HS2.out 0; clear HL hs_ hb; have HL := Aside0.mk (Below.refl w4.heap.size w4)) | (refine goes_ Try.func27 (by kernel_rfl) rfl #[cv, .int .i64 (k : Int), .slice (some ⟨w4.heap.size, 0, none⟩) 1 1] (by rfl) rfl rfl (by simp only [List.map_toArray, List.map_cons, List.map_nil]; rfl) ?_; refine (insert_any (x1 := x) (x2 := x) (Cpd.below HCP.out (by repeat (first | (with_reducible first | exact HL.out | apply below_alloc | apply pw_below_drewN | apply below_drew1) | exact HL.out))) HB0.out (Nat.le_trans lHS2 (Below.size (by repeat (first | (with_reducible first | exact HL.out | apply below_alloc | apply pw_below_drewN | apply below_drew1) | exact HL.out)))) (.inl (Nat.le_refl _)) HAI.out HL1.out (blk_new _ _) _ HQ2.out M HM.out).mono ?_; rintro e w5 ⟨g1, c1, rfl, hrow, hge, hbx⟩; refine ⟨_, rfl, ?_⟩; have n0_ := Aside0.mk (below_weaken (by repeat (first | (with_reducible first | exact HB.out | apply below_alloc | apply pw_below_drewN | apply below_drew1) | exact HB.out)) (by omega) hbx); clear HB; have HB := n0_; clear n0_; have n_ := Aside0.mk (blk_in (o := .cells #[.slice A n c] 24 (0, 0)) (g := W.heap.size) (by repeat (first | exact HS0.out | (with_reducible refine blk_drewN ?_ _) | (with_reducible refine blk_drew ?_) | (with_reducible refine blk_alloc ?_ _))) hbx (by omega)); clear qHS0_0 lHS0; clear HS0; have HS0 := n_; clear n_; have qHS0_0 := blk_cell HS0.out 0; have lHS0 := blk_lt HS0.out; simp only [List.getElem?_toArray, List.getElem?_cons_zero, List.getElem?_cons_succ] at qHS0_0; have n_ := Aside0.mk (blk_in (o := .cells #[.int .i64 x] 2 (0, 0)) (g := (W.heap.size + 1)) (by repeat (first | exact HS1.out | (with_reducible refine blk_drewN ?_ _) | (with_reducible refine blk_drew ?_) | (with_reducible refine blk_alloc ?_ _))) hbx (by omega)); clear qHS1_0 lHS1; clear HS1; have HS1 := n_; clear n_; have qHS1_0 := blk_cell HS1.out 0; have lHS1 := blk_lt HS1.out; simp only [List.getElem?_toArray, List.getElem?_cons_zero, List.getElem?_cons_succ] at qHS1_0; have n_ := Aside0.mk (blk_in (o := .cells #[.slice none 0 0] 24 (0, 0)) (g := (W.heap.size + 1 + 1)) (by repeat (first | exact HS2.out | (with_reducible refine blk_drewN ?_ _) | (with_reducible refine blk_drew ?_) | (with_reducible refine blk_alloc ?_ _))) hbx (by omega)); clear qHS2_0 lHS2 fHS2; clear HS2; have HS2 := n_; clear n_; have qHS2_0 := blk_cell HS2.out 0; have lHS2 := blk_lt HS2.out; simp only [List.getElem?_toArray, List.getElem?_cons_zero, List.getElem?_cons_succ] at qHS2_0; have fHS2 := blk_frozen HS2.out 0; have HROW := Aside0.mk hrow; clear hrow hbx HL HCP; have HL := Aside0.mk (Below.refl w5.heap.size w5)) | (refine goes_ Try.func27 (by kernel_rfl) rfl #[cv, .int .i64 (k : Int), .slice (some ⟨w3.heap.size, 0, none⟩) 1 1] (by rfl) rfl rfl (by simp only [List.map_toArray, List.map_cons, List.map_nil]; rfl) ?_; refine (insert_any (x1 := x) (x2 := x) (Cpd.below HCP.out (by repeat (first | (with_reducible first | exact HL.out | apply below_alloc | apply pw_below_drewN | apply below_drew1) | exact HL.out))) HB0.out (Nat.le_trans lHS2 (Below.size (by repeat (first | (with_reducible first | exact HL.out | apply below_alloc | apply pw_below_drewN | apply below_drew1) | exact HL.out)))) (.inr (Nat.lt_succ_self _)) HAI.out HL1.out HLIT.out _ HQ2.out M HM.out).mono ?_; rintro e w5 ⟨g1, c1, rfl, hrow, hge, hbx⟩; refine ⟨_, rfl, ?_⟩; have n0_ := Aside0.mk (below_weaken (by repeat (first | (with_reducible first | exact HB.out | apply below_alloc | apply pw_below_drewN | apply below_drew1) | exact HB.out)) (by omega) hbx); clear HB; have HB := n0_; clear n0_; have n_ := Aside0.mk (blk_in (o := .cells #[.slice A n c] 24 (0, 0)) (g := W.heap.size) (by repeat (first | exact HS0.out | (with_reducible refine blk_drewN ?_ _) | (with_reducible refine blk_drew ?_) | (with_reducible refine blk_alloc ?_ _))) hbx (by omega)); clear qHS0_0 lHS0; clear HS0; have HS0 := n_; clear n_; have qHS0_0 := blk_cell HS0.out 0; have lHS0 := blk_lt HS0.out; simp only [List.getElem?_toArray, List.getElem?_cons_zero, List.getElem?_cons_succ] at qHS0_0; have n_ := Aside0.mk (blk_in (o := .cells #[.int .i64 x] 2 (0, 0)) (g := (W.heap.size + 1)) (by repeat (first | exact HS1.out | (with_reducible refine blk_drewN ?_ _) | (with_reducible refine blk_drew ?_) | (with_reducible refine blk_alloc ?_ _))) hbx (by omega)); clear qHS1_0 lHS1; clear HS1; have HS1 := n_; clear n_; have qHS1_0 := blk_cell HS1.out 0; have lHS1 := blk_lt HS1.out; simp only [List.getElem?_toArray, List.getElem?_cons_zero, List.getElem?_cons_succ] at qHS1_0; have n_ := Aside0.mk (blk_in (o := .cells #[.slice none 0 0] 24 (0, 0)) (g := (W.heap.size + 1 + 1)) (by repeat (first | exact HS2.out | (with_reducible refine blk_drewN ?_ _) | (with_reducible refine blk_drew ?_) | (with_reducible refine blk_alloc ?_ _))) hbx (by omega)); clear qHS2_0 lHS2 fHS2; clear HS2; have HS2 := n_; clear n_; have qHS2_0 := blk_cell HS2.out 0; have lHS2 := blk_lt HS2.out; simp only [List.getElem?_toArray, List.getElem?_cons_zero, List.getElem?_cons_succ] at qHS2_0; have fHS2 := blk_frozen HS2.out 0; have HROW := Aside0.mk hrow; clear hrow hbx HL HCP; have HL := Aside0.mk (Below.refl w5.heap.size w5)))
      all_goals go_wp2
      all_goals go_meet
      all_goals exact ⟨g1, c1, rfl, HROW, hge, HB, HS0, HS1, HS2⟩
    case rest => as_aux_lemma =>
      obtain ⟨g1, c1, rfl, HROW, hge, HB, HS0, HS1, HS2⟩ := hcut
      clear HL qHS0_0 lHS0 qHS1_0 lHS1 qHS2_0 lHS2 fHS2
      have qHS0_0 := blk_cell HS0.out 0
      have lHS0 := blk_lt HS0.out
      simp only [List.getElem?_toArray, List.getElem?_cons_zero, List.getElem?_cons_succ] at qHS0_0
      have qHS1_0 := blk_cell HS1.out 0
      have lHS1 := blk_lt HS1.out
      simp only [List.getElem?_toArray, List.getElem?_cons_zero, List.getElem?_cons_succ] at qHS1_0
      have qHS2_0 := blk_cell HS2.out 0
      have lHS2 := blk_lt HS2.out
      simp only [List.getElem?_toArray, List.getElem?_cons_zero, List.getElem?_cons_succ] at qHS2_0
      have fHS2 := blk_frozen HS2.out 0
      go_wp2
      go_loopw [7, 43] (fun v7 v43 wr => ∃ k : Nat, v43 = .int .i64 (k : Int) ∧ k ≤ M.length ∧ v7 = .int .i64 ((leastN M k : Nat) : Int) ∧ Aside0 (RowI wr g1 c1 M) ∧ Aside0 (Below W.heap.size W wr) ∧ Aside0 (wr.heap[W.heap.size + 1 + 1]? = some (.cells #[.slice none 0 0] 24 (0, 0)))) (fun _ v _ => M.length - (intOf v).toNat)
      case atStart => exact ⟨0, rfl, by omega, rfl, HROW, HB, HS2⟩
      case round =>
        clear HROW HB HS0 qHS0_0 lHS0 HS1 qHS1_0 lHS1 HS2 qHS2_0 lHS2 fHS2
        obtain ⟨k, rfl, hk, rfl, HROW, HB, HS2⟩ := hrel
        have HL := Aside0.mk (Below.refl wr.heap.size wr)
        by_cases hlt : k < M.length
        · rcases k with _ | _ | k
          · go_wp2
            all_goals (try (exfalso; omega))
            all_goals go_roundw
            all_goals (try (case rel => exact ⟨1, by go_num, by omega, rfl, HROW, HB, HS2⟩))
            all_goals (try (case measure => (simp [intOf] <;> omega)))
          · go_wp2
            all_goals (try (exfalso; omega))
            all_goals go_roundw
            all_goals (try (case rel => exact ⟨2, by go_num, by omega, rfl, HROW, HB, HS2⟩))
            all_goals (try (case measure => (simp [intOf] <;> omega)))
          · have hm1 := leastN_pos M (k + 2)
            have hm2 := leastN_lt M (k + 2)
            obtain ⟨m, HMM⟩ : ∃ m, Aside0 (leastN M (k + 2) = m) := ⟨_, ⟨rfl⟩⟩
            rw [HMM.out] at hm1 hm2 ⊢
            have hm3 : m < M.length := by omega
            have hmx : M.length ≤ 140737488351232 := by omega
            have hk2 : (1 : Int) < (k : Int) + 1 + 1 := by omega
            have h12 : 1 ≤ k + 2 := by omega
            obtain ⟨ga, HGA⟩ : ∃ ga, Aside0 (gapAt M (k + 2) = ga) := ⟨_, ⟨rfl⟩⟩
            obtain ⟨gb, HGB⟩ : ∃ gb, Aside0 (gapAt M m = gb) := ⟨_, ⟨rfl⟩⟩
            by_cases hgap : ga < gb
            · have HN1 := Aside0.mk (leastN_step M k (by rw [HMM.out, HGA.out, HGB.out]; exact hgap))
              go_wp2_with (first | (go_at_call 29; (with_reducible refine (gap_i (HROW.out.below (by repeat (first | (with_reducible first | exact HL.out | apply below_alloc | apply pw_below_drewN | apply below_drew1) | exact HL.out))).C hmx (k + 2) h12 (by omega) _ (by go_num)).mono ?_); rintro e w6 ⟨rfl, hb⟩; rw [HGA.out]; have n0_ := Aside0.mk (below_step (by repeat (first | (with_reducible first | exact HB.out | apply below_alloc | apply pw_below_drewN | apply below_drew1) | exact HB.out)) hb); clear HB; have HB := n0_; clear n0_; have n_ := Aside0.mk (HROW.out.below (below_step (by repeat (first | (with_reducible first | exact HL.out | apply below_alloc | apply pw_below_drewN | apply below_drew1) | exact HL.out)) hb)); clear HROW; have HROW := n_; clear n_; have n_ := Aside0.mk (blk_below HS2.out (below_step (by repeat (first | (with_reducible first | exact HL.out | apply below_alloc | apply pw_below_drewN | apply below_drew1) | exact HL.out)) hb)); clear HS2; have HS2 := n_; clear n_ hb HL; have HL := Aside0.mk (Below.refl w6.heap.size w6); clear HGA) | (go_at_call 29; (with_reducible refine (gap_i (HROW.out.below (by repeat (first | (with_reducible first | exact HL.out | apply below_alloc | apply pw_below_drewN | apply below_drew1) | exact HL.out))).C hmx m hm1 (by omega) _ (by go_num)).mono ?_); rintro e w7 ⟨rfl, hb⟩; rw [HGB.out]; have n0_ := Aside0.mk (below_step (by repeat (first | (with_reducible first | exact HB.out | apply below_alloc | apply pw_below_drewN | apply below_drew1) | exact HB.out)) hb); clear HB; have HB := n0_; clear n0_; have n_ := Aside0.mk (HROW.out.below (below_step (by repeat (first | (with_reducible first | exact HL.out | apply below_alloc | apply pw_below_drewN | apply below_drew1) | exact HL.out)) hb)); clear HROW; have HROW := n_; clear n_; have n_ := Aside0.mk (blk_below HS2.out (below_step (by repeat (first | (with_reducible first | exact HL.out | apply below_alloc | apply pw_below_drewN | apply below_drew1) | exact HL.out)) hb)); clear HS2; have HS2 := n_; clear n_ hb HL; have HL := Aside0.mk (Below.refl w7.heap.size w7); clear HGB))
              all_goals (try (exfalso; omega))
              all_goals go_roundw
              all_goals (try (case rel => exact ⟨k + 2 + 1, by go_num, by omega, by rw [HN1.out]; go_num, HROW, HB, HS2⟩))
              all_goals (try (case measure => (simp [intOf] <;> omega)))
            · have HN1 := Aside0.mk (show leastN M (k + 2 + 1) = m by rw [leastN_keep M k (by rw [HMM.out, HGA.out, HGB.out]; exact hgap), HMM.out])
              go_wp2_with (first | (go_at_call 29; (with_reducible refine (gap_i (HROW.out.below (by repeat (first | (with_reducible first | exact HL.out | apply below_alloc | apply pw_below_drewN | apply below_drew1) | exact HL.out))).C hmx (k + 2) h12 (by omega) _ (by go_num)).mono ?_); rintro e w6 ⟨rfl, hb⟩; rw [HGA.out]; have n0_ := Aside0.mk (below_step (by repeat (first | (with_reducible first | exact HB.out | apply below_alloc | apply pw_below_drewN | apply below_drew1) | exact HB.out)) hb); clear HB; have HB := n0_; clear n0_; have n_ := Aside0.mk (HROW.out.below (below_step (by repeat (first | (with_reducible first | exact HL.out | apply below_alloc | apply pw_below_drewN | apply below_drew1) | exact HL.out)) hb)); clear HROW; have HROW := n_; clear n_; have n_ := Aside0.mk (blk_below HS2.out (below_step (by repeat (first | (with_reducible first | exact HL.out | apply below_alloc | apply pw_below_drewN | apply below_drew1) | exact HL.out)) hb)); clear HS2; have HS2 := n_; clear n_ hb HL; have HL := Aside0.mk (Below.refl w6.heap.size w6); clear HGA) | (go_at_call 29; (with_reducible refine (gap_i (HROW.out.below (by repeat (first | (with_reducible first | exact HL.out | apply below_alloc | apply pw_below_drewN | apply below_drew1) | exact HL.out))).C hmx m hm1 (by omega) _ (by go_num)).mono ?_); rintro e w7 ⟨rfl, hb⟩; rw [HGB.out]; have n0_ := Aside0.mk (below_step (by repeat (first | (with_reducible first | exact HB.out | apply below_alloc | apply pw_below_drewN | apply below_drew1) | exact HB.out)) hb); clear HB; have HB := n0_; clear n0_; have n_ := Aside0.mk (HROW.out.below (below_step (by repeat (first | (with_reducible first | exact HL.out | apply below_alloc | apply pw_below_drewN | apply below_drew1) | exact HL.out)) hb)); clear HROW; have HROW := n_; clear n_; have n_ := Aside0.mk (blk_below HS2.out (below_step (by repeat (first | (with_reducible first | exact HL.out | apply below_alloc | apply pw_below_drewN | apply below_drew1) | exact HL.out)) hb)); clear HS2; have HS2 := n_; clear n_ hb HL; have HL := Aside0.mk (Below.refl w7.heap.size w7); clear HGB))
              all_goals (try (exfalso; omega))
              all_goals go_roundw
              all_goals (try (case rel => exact ⟨k + 2 + 1, by go_num, by omega, by rw [HN1.out], HROW, HB, HS2⟩))
              all_goals (try (case measure => (simp [intOf] <;> omega)))
        · obtain rfl : k = M.length := by omega
          have hp1 := leastN_pos M M.length
          have hp2 := leastN_lt M M.length
          obtain ⟨m, hme⟩ : ∃ m, leastN M M.length = m + 1 := ⟨leastN M M.length - 1, by omega⟩
          have HME := Aside0.mk (show leastN M 5 = m + 1 by rw [← hme, HM5.out])
          rw [hme] at hp1 hp2 ⊢
          clear hme
          have hm1 : m + 1 < M.length := by omega
          have hm0 : m < M.length := by omega
          have hmI : (m : Int) + 1 < (M.length : Int) := by omega
          have hmJ : (m : Int) < (M.length : Int) := by omega
          have hmK : (0 : Int) ≤ (m : Int) + 1 := by omega
          obtain ⟨x0, hx0⟩ : ∃ y, M[m]? = some y := ⟨M[m], List.getElem?_eq_getElem hm0⟩
          obtain ⟨x1, hx1⟩ : ∃ y, M[m + 1]? = some y := ⟨M[m + 1], List.getElem?_eq_getElem hm1⟩
          obtain ⟨a0, b0⟩ := x0
          obtain ⟨a1, b1⟩ := x1
          have HRS := Aside0.mk (HROW.out.setEnd m hm0 (a0, b0) hx0 b1)
          have c0 := rowI_cells HROW.out (m * 2 + 1) _ (flat_at M m _ hx0).2
          have c1_ := rowI_cells HROW.out ((m + 1) * 2 + 1) _ (flat_at M (m + 1) _ hx1).2
          simp only at c0 c1_
          have f0 := HROW.out.froz (m * 2 + 1)
          have s2 := blk_cell HS2.out 0
          have f2 := blk_frozen HS2.out 0
          have l2 := blk_lt HS2.out
          simp only [List.getElem?_toArray, List.getElem?_cons_zero] at s2
          have HX := Aside0.mk (show mergeI M (m + 1) = delI (M.set m (a0, b1)) (m + 1) by
            unfold mergeI
            rw [Nat.add_sub_cancel, List.getD_eq_getElem?_getD, List.getD_eq_getElem?_getD, hx0, hx1]
            rfl)
          have HM3 := Aside0.mk (show delI (M.set m (a0, b1)) (m + 1) = M2 by rw [← HX.out, ← HME.out]; exact HM2.out)
          clear hx0 hx1 HX HME hp1 hp2
          have hw2 : IntKind.i64.wrap (m : Int) = (m : Int) := by rw [i64_w]; exact wrap_small _ (by omega) (by omega)
          go_upto_region 16 with fail
          refine start_ (n := 11) (S := fun w' => w'.cell? ⟨g1, (m + 1) * 2 + 1, none⟩ = some (.int .i64 b1)) (ds := [10]) #[false, false, false, false, false, false, false, false, false, false, false] (by kernel_rfl) rfl rfl (c1_) (fun hHeld => ?_)
          refine pure_ (i := 0) (N := some 59) (v := ?_) (a' := ?_) #[true, false, false, false, false, false, false, false, false, false, false] rfl rfl (by kernel_rfl) (fun _ _ _ h => h) (Or.inl ⟨by rfl, ?_⟩) ?_ ?_
          rotate_left
          · intro w'
            go_simp
            with_reducible rfl
          rotate_left
          · simp only [Act.put, List.setIfInBounds_toArray, List.set_cons_zero, List.set_cons_succ, i64_w, i32_w]
            rfl
          refine pure_ (i := 1) (N := some 60) (v := ?_) (a' := ?_) #[true, true, false, false, false, false, false, false, false, false, false] rfl rfl (by kernel_rfl) (fun _ _ _ h => h) (Or.inl ⟨by rfl, ?_⟩) ?_ ?_
          rotate_left
          · intro w'
            go_simp
            with_reducible rfl
          rotate_left
          · simp only [Act.put, List.setIfInBounds_toArray, List.set_cons_zero, List.set_cons_succ, i64_w, i32_w]
            rfl
          refine pure_ (i := 2) (N := some 61) (v := ?_) (a' := ?_) #[true, true, true, false, false, false, false, false, false, false, false] rfl rfl (by kernel_rfl) (fun _ _ _ h => h) (Or.inl ⟨by rfl, ?_⟩) ?_ ?_
          rotate_left
          · intro w'
            go_simp
            with_reducible rfl
          rotate_left
          · simp only [Act.put, List.setIfInBounds_toArray, List.set_cons_zero, List.set_cons_succ, i64_w, i32_w]
            rfl
          refine pure_ (i := 3) (N := some 62) (v := ?_) (a' := ?_) #[true, true, true, true, false, false, false, false, false, false, false] rfl rfl (by kernel_rfl) (fun _ _ _ h => h) (Or.inl ⟨by rfl, ?_⟩) ?_ ?_
          rotate_left
          · intro w'
            go_simp
            with_reducible rfl
          rotate_left
          · simp only [Act.put, List.setIfInBounds_toArray, List.set_cons_zero, List.set_cons_succ, i64_w, i32_w]
            rfl
          refine pure_ (i := 4) (N := some 63) (v := ?_) (a' := ?_) #[true, true, true, true, true, false, false, false, false, false, false] rfl rfl (by kernel_rfl) (fun _ _ _ h => h) (Or.inl ⟨by rfl, ?_⟩) ?_ ?_
          rotate_left
          · intro w'
            go_simp
            with_reducible rfl
          rotate_left
          · simp only [Act.put, List.setIfInBounds_toArray, List.set_cons_zero, List.set_cons_succ, i64_w, i32_w]
            rfl
          refine pure_ (i := 5) (N := some 64) (v := ?_) (a' := ?_) #[true, true, true, true, true, true, false, false, false, false, false] rfl rfl (by kernel_rfl) (fun _ _ _ h => h) (Or.inl ⟨by rfl, ?_⟩) ?_ ?_
          rotate_left
          · intro w'
            go_simp
            with_reducible rfl
          rotate_left
          · simp only [Act.put, List.setIfInBounds_toArray, List.set_cons_zero, List.set_cons_succ, i64_w, i32_w]
            rfl
          refine pure_ (i := 6) (N := some 65) (v := ?_) (a' := ?_) #[true, true, true, true, true, true, true, false, false, false, false] rfl rfl (by kernel_rfl) (fun _ _ _ h => h) (Or.inl ⟨by rfl, ?_⟩) ?_ ?_
          rotate_left
          · intro w'
            go_simp
            with_reducible rfl
          rotate_left
          · simp only [Act.put, List.setIfInBounds_toArray, List.set_cons_zero, List.set_cons_succ, i64_w, i32_w]
            rfl
          refine pure_ (i := 8) (N := some 67) (v := ?_) (a' := ?_) #[true, true, true, true, true, true, true, false, true, false, false] rfl rfl (by kernel_rfl) (fun _ _ _ h => h) (Or.inl ⟨by rfl, ?_⟩) ?_ ?_
          rotate_left
          · intro w'
            go_simp
            with_reducible rfl
          rotate_left
          · simp only [Act.put, List.setIfInBounds_toArray, List.set_cons_zero, List.set_cons_succ, i64_w, i32_w]
            rfl
          refine take_ (i := 7) (N := some 66) (v := ?_) (a' := ?_) #[true, true, true, true, true, true, true, true, true, false, false] rfl rfl (by kernel_rfl) (fun _ _ _ h => h) (Or.inl ⟨by rfl, ?_⟩) hHeld ?_ ?_
          rotate_left
          · intro w' s0
            go_simp
            with_reducible rfl
          rotate_left
          · simp only [Act.put, List.setIfInBounds_toArray, List.set_cons_zero, List.set_cons_succ, i64_w, i32_w]
            rfl
          refine pure_ (i := 9) (N := some 68) (v := ?_) (a' := ?_) #[true, true, true, true, true, true, true, true, true, true, false] rfl rfl (by kernel_rfl) (fun _ _ _ h => h) (Or.inl ⟨by rfl, ?_⟩) ?_ ?_
          rotate_left
          · intro w'
            go_simp
            with_reducible rfl
          rotate_left
          · simp only [Act.put, List.setIfInBounds_toArray, List.set_cons_zero, List.set_cons_succ, i64_w, i32_w]
            rfl
          refine last_ (i := 10) (N := none) #[true, true, true, true, true, true, true, true, true, true, true] rfl rfl (by kernel_rfl) (by decide) (fun Kc hKc => ?_)
          refine skip_ (w1 := ?_) (by rfl) rfl ?_ ?_
          rotate_left
          · go_simp
            rfl
          refine hKc.out _ _ ?_
          clear hKc Kc
          refine done_ (by kernel_rfl) ?_
          have HRD := Aside0.mk (show RowI ((wr.setCell ⟨g1, m * 2 + 1, none⟩ (.int .i64 b1)).drew) g1 c1 (M.set m (a0, b1)) from HRS.out)
          have HBD := Aside0.mk (show Below W.heap.size W ((wr.setCell ⟨g1, m * 2 + 1, none⟩ (.int .i64 b1)).drew) from below_drew1 (below_set HB.out (by omega)))
          have HSD := Aside0.mk (show ((wr.setCell ⟨g1, m * 2 + 1, none⟩ (.int .i64 b1)).drew).heap[W.heap.size + 1 + 1]? = some (.cells #[.slice none 0 0] 24 (0, 0)) from (Below.heap_setCell wr ⟨g1, m * 2 + 1, none⟩ _ _ (by show W.heap.size + 1 + 1 ≠ g1; omega)).trans HS2.out)
          clear HRS HB HS2 HROW s2 f2 l2 c0 c1_ f0 HL
          generalize (wr.setCell ⟨g1, m * 2 + 1, none⟩ (.int .i64 b1)).drew = wx at *
          have s2 := blk_cell HSD.out 0
          have f2 := blk_frozen HSD.out 0
          have l2 := blk_lt HSD.out
          simp only [List.getElem?_toArray, List.getElem?_cons_zero] at s2
          have HL := Aside0.mk (Below.refl wx.heap.size wx)
          have hsl : (M.set m (a0, b1)).length = M.length := List.length_set
          have HSL := Aside0.mk hsl
          clear hsl
          go_wp2_with (first | (go_at_call 30; (with_reducible refine (delI_i (HRD.out.below (by repeat (first | (with_reducible first | exact HL.out | apply below_alloc | apply pw_below_drewN | apply below_drew1) | exact HL.out))) (by rw [HSL.out]; exact hm1) (by rw [HSL.out]; omega) M.length HSL.out _ _ (by omega) (by omega) HM3.out).mono ?_); rintro e w8 ⟨rfl, hrow, hbx⟩; have n_ := Aside0.mk (below_weaken (by repeat (first | (with_reducible first | exact HBD.out | apply below_alloc | apply pw_below_drewN | apply below_drew1) | exact HBD.out)) (by omega) hbx); clear HBD; have HB := n_; clear n_; have n_ := Aside0.mk (blk_in (o := .cells #[.slice none 0 0] 24 (0, 0)) (g := W.heap.size + 1 + 1) (by repeat (first | exact HSD.out | (with_reducible refine blk_drewN ?_ _) | (with_reducible refine blk_drew ?_) | (with_reducible refine blk_alloc ?_ _))) hbx (by omega)); clear HSD s2 f2 l2; have HS2 := n_; clear n_; have s2 := blk_cell HS2.out 0; have f2 := blk_frozen HS2.out 0; have l2 := blk_lt HS2.out; simp only [List.getElem?_toArray, List.getElem?_cons_zero] at s2; have HROW := Aside0.mk hrow; clear hrow hbx))
          all_goals (try (exfalso; omega))
          refine bodyPost_ret (v := .agg #[.slice (some ⟨g1, 0, none⟩) M2.length c1]) (by simp [results, Try.results11, go_sem, World.cell?_setCell_same _ _ _ s2]) rfl ?_
          refine ⟨some ⟨g1, 0, none⟩, c1, ?_, ?_, ?_, .inr ⟨g1, rfl, by rw [HE.out]; exact HROW.out.far (by omega) _⟩, below_set HB.out (by omega)⟩
          all_goals rw [HE.out]
          all_goals first | rfl | exact (HROW.out.far (by omega) _).C | exact HROW.out.cap
end Go.Proofs.Ytoidaakmmnlhgaa.Hand
