/- Intervals: the reference's Add, where nothing turns. -/
import Derived.Test.YtoidaakmmnlhgaaKN
set_option linter.unusedVariables false
set_option linter.unusedSimpArgs false
namespace Go.Proofs.Ytoidaakmmnlhgaa.Hand
open Go.RowKit Go.Proofs.YtoidaakmmnlhgaaW.PrintWords Go.Proofs.YtoidaakmmnlhgaaW.PrintLast Go.Proofs.YtoidaakmmnlhgaaW.PrintMore
set_option maxHeartbeats 1000000 in
set_option maxRecDepth 100000 in
theorem radd_bad {W : World} {A : Option Addr} {n c : Nat} {L : List Iv} (hr : Kd.C kI W A n L) (hc : n ≤ c) (hlm : n ≤ 140737488351232) (x : Int) (hb : rightL L = false) :
    Calls Try.prog 12 #[.agg #[.slice A n c], .int .i64 x] W fun e w' => ∃ A' c', e = .returned (.agg #[.slice A' (addL L x).length c']) ∧ Kd.C kI w' A' (addL L x).length (addL L x) ∧ (addL L x).length ≤ c' ∧ Below W.heap.size W w' := by
  have HN := Aside0.mk hr.1
  have HE := Aside0.mk (show addL L x = L by unfold addL; rw [if_pos (.inl hb)])
  have HRT := Aside0.mk hb
  have HB := Aside0.mk (Below.refl W.heap.size W)
  have HL := Aside0.mk (Below.refl W.heap.size W)
  have HR := Aside0.mk hr
  clear hr hb
  go_enter Try.func12, Try.ntmps12
  go_wp2_with (first | (go_at_call 21; (with_reducible refine (rright_c (Kd.C_below HR.out (by repeat (first | (with_reducible first | exact HB.out | apply below_alloc | apply pw_below_drewN | apply below_drew1) | exact HB.out))) hc hlm _ HRT.out).mono ?_); rintro e w1 ⟨rfl, hb⟩; have n0_ := Aside0.mk (below_step (by repeat (first | (with_reducible first | exact HB.out | apply below_alloc | apply pw_below_drewN | apply below_drew1) | exact HB.out)) hb); clear HB; have HB := n0_; clear n0_; have hs_ := below_step (by repeat (first | (with_reducible first | exact HL.out | apply below_alloc | apply pw_below_drewN | apply below_drew1) | exact HL.out)) hb; have HS0 := Aside0.mk (blk_below (o := .cells #[.slice A n c] 28 (0, 0)) (g := W.heap.size) (by repeat (first | (with_reducible refine blk_drewN ?_ _) | (with_reducible refine blk_drew ?_) | exact blk_new' (by first | rfl | simp) | (with_reducible refine blk_alloc ?_ _))) hb); have qHS0_0 := blk_cell HS0.out 0; have lHS0 := blk_lt HS0.out; simp only [List.getElem?_toArray, List.getElem?_cons_zero, List.getElem?_cons_succ] at qHS0_0; have HS2 := Aside0.mk (blk_below (o := .cells #[.slice none 0 0] 28 (0, 0)) (g := (W.heap.size + 1)) (by repeat (first | (with_reducible refine blk_drewN ?_ _) | (with_reducible refine blk_drew ?_) | exact blk_new' (by first | rfl | simp) | (with_reducible refine blk_alloc ?_ _))) hb); have qHS2_0 := blk_cell HS2.out 0; have lHS2 := blk_lt HS2.out; simp only [List.getElem?_toArray, List.getElem?_cons_zero, List.getElem?_cons_succ] at qHS2_0; have fHS2 := blk_frozen HS2.out 0; clear HL hs_ hb; have HL := Aside0.mk (Below.refl w1.heap.size w1)))
  refine bodyPost_ret (v := .agg #[.slice A n c]) (by simp [results, Try.results12, go_sem, World.cell?_setCell_same _ _ _ qHS2_0]) rfl ?_
  refine ⟨A, c, ?_, ?_, ?_, below_set HB.out (by omega)⟩
  all_goals rw [HE.out]
  all_goals rw [HN.out]
  all_goals first | rfl | exact hc | exact Kd.C_below HR.out (below_set HB.out (by omega))
set_option maxHeartbeats 1000000 in
set_option maxRecDepth 100000 in
theorem radd_had {W : World} {A : Option Addr} {n c : Nat} {L : List Iv} (hr : Kd.C kI W A n L) (hc : n ≤ c) (hlm : n ≤ 140737488351232) (x : Int) (hb : rightL L = true) (hh : hasL L x = true) :
    Calls Try.prog 12 #[.agg #[.slice A n c], .int .i64 x] W fun e w' => ∃ A' c', e = .returned (.agg #[.slice A' (addL L x).length c']) ∧ Kd.C kI w' A' (addL L x).length (addL L x) ∧ (addL L x).length ≤ c' ∧ Below W.heap.size W w' := by
  have HN := Aside0.mk hr.1
  have HE := Aside0.mk (show addL L x = L by unfold addL; rw [if_pos (.inr hh)])
  have HRT := Aside0.mk hb
  have HH := Aside0.mk hh
  have HB := Aside0.mk (Below.refl W.heap.size W)
  have HL := Aside0.mk (Below.refl W.heap.size W)
  have HR := Aside0.mk hr
  clear hr hb hh
  go_enter Try.func12, Try.ntmps12
  go_wp2_with (first | (go_at_call 21; (with_reducible refine (rright_c (Kd.C_below HR.out (by repeat (first | (with_reducible first | exact HB.out | apply below_alloc | apply pw_below_drewN | apply below_drew1) | exact HB.out))) hc hlm _ HRT.out).mono ?_); rintro e w1 ⟨rfl, hb⟩; have n0_ := Aside0.mk (below_step (by repeat (first | (with_reducible first | exact HB.out | apply below_alloc | apply pw_below_drewN | apply below_drew1) | exact HB.out)) hb); clear HB; have HB := n0_; clear n0_; have hs_ := below_step (by repeat (first | (with_reducible first | exact HL.out | apply below_alloc | apply pw_below_drewN | apply below_drew1) | exact HL.out)) hb; have HS0 := Aside0.mk (blk_below (o := .cells #[.slice A n c] 28 (0, 0)) (g := W.heap.size) (by repeat (first | (with_reducible refine blk_drewN ?_ _) | (with_reducible refine blk_drew ?_) | exact blk_new' (by first | rfl | simp) | (with_reducible refine blk_alloc ?_ _))) hb); have qHS0_0 := blk_cell HS0.out 0; have lHS0 := blk_lt HS0.out; simp only [List.getElem?_toArray, List.getElem?_cons_zero, List.getElem?_cons_succ] at qHS0_0; have HS2 := Aside0.mk (blk_below (o := .cells #[.slice none 0 0] 28 (0, 0)) (g := (W.heap.size + 1)) (by repeat (first | (with_reducible refine blk_drewN ?_ _) | (with_reducible refine blk_drew ?_) | exact blk_new' (by first | rfl | simp) | (with_reducible refine blk_alloc ?_ _))) hb); have qHS2_0 := blk_cell HS2.out 0; have lHS2 := blk_lt HS2.out; simp only [List.getElem?_toArray, List.getElem?_cons_zero, List.getElem?_cons_succ] at qHS2_0; have fHS2 := blk_frozen HS2.out 0; clear HL hs_ hb; have HL := Aside0.mk (Below.refl w1.heap.size w1)) | (go_at_call 15; (with_reducible refine (rhas_c (Kd.C_below HR.out (by repeat (first | (with_reducible first | exact HB.out | apply below_alloc | apply pw_below_drewN | apply below_drew1) | exact HB.out))) hlm x _ HH.out).mono ?_); rintro e w2 ⟨rfl, hb⟩; have n0_ := Aside0.mk (below_step (by repeat (first | (with_reducible first | exact HB.out | apply below_alloc | apply pw_below_drewN | apply below_drew1) | exact HB.out)) hb); clear HB; have HB := n0_; clear n0_; have hs_ := below_step (by repeat (first | (with_reducible first | exact HL.out | apply below_alloc | apply pw_below_drewN | apply below_drew1) | exact HL.out)) hb; have n_ := Aside0.mk (blk_below HS0.out hs_); clear qHS0_0 lHS0; clear HS0; have HS0 := n_; clear n_; have qHS0_0 := blk_cell HS0.out 0; have lHS0 := blk_lt HS0.out; simp only [List.getElem?_toArray, List.getElem?_cons_zero, List.getElem?_cons_succ] at qHS0_0; have n_ := Aside0.mk (blk_below HS2.out hs_); clear qHS2_0 lHS2 fHS2; clear HS2; have HS2 := n_; clear n_; have qHS2_0 := blk_cell HS2.out 0; have lHS2 := blk_lt HS2.out; simp only [List.getElem?_toArray, List.getElem?_cons_zero, List.getElem?_cons_succ] at qHS2_0; have fHS2 := blk_frozen HS2.out 0; clear HL hs_ hb; have HL := Aside0.mk (Below.refl w2.heap.size w2)))
  refine bodyPost_ret (v := .agg #[.slice A n c]) (by simp [results, Try.results12, go_sem, World.cell?_setCell_same _ _ _ qHS2_0]) rfl ?_
  refine ⟨A, c, ?_, ?_, ?_, below_set HB.out (by omega)⟩
  all_goals rw [HE.out]
  all_goals rw [HN.out]
  all_goals first | rfl | exact hc | exact Kd.C_below HR.out (below_set HB.out (by omega))
end Go.Proofs.Ytoidaakmmnlhgaa.Hand
