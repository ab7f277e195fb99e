/- Intervals: Add, the program's and the reference's, each in one contract. -/
import Derived.Test.YtoidaakmmnlhgaaKP
import Derived.Test.YtoidaakmmnlhgaaKL
import Derived.Test.YtoidaakmmnlhgaaKM
set_option linter.unusedVariables false
set_option linter.unusedSimpArgs false
namespace Go.Proofs.Ytoidaakmmnlhgaa.Hand
open Go.RowKit Go.Proofs.YtoidaakmmnlhgaaW.PrintWords Go.Proofs.YtoidaakmmnlhgaaW.PrintLast Go.Proofs.YtoidaakmmnlhgaaW.PrintMore
set_option maxHeartbeats 4000000 in
set_option maxRecDepth 100000 in
theorem radd_nil {W : World} {c : Nat} (x : Int) :
    Calls Try.prog 12 #[.agg #[.slice none 0 c], .int .i64 x] W fun e w' => ∃ A' c', e = .returned (.agg #[.slice A' ([(x, x)]).length c']) ∧ Kd.C kI w' A' ([(x, x)]).length ([(x, x)]) ∧ ([(x, x)]).length ≤ c' ∧ Below W.heap.size W w' := by
  have hr : Kd.C kI W none 0 [] := ⟨rfl, by omega, fun h => absurd h (by omega)⟩
  have hc : 0 ≤ c := by omega
  have hlm : 0 ≤ 140737488351232 := by omega
  have HRT := Aside0.mk (show rightL [] = true from rfl)
  have HH := Aside0.mk (show hasL [] x = false from hasL_no [] x rfl)
  have HB := Aside0.mk (Below.refl W.heap.size W)
  have HL := Aside0.mk (Below.refl W.heap.size W)
  have HR := Aside0.mk hr
  clear hr
  go_enter Try.func12, Try.ntmps12
  go_upto_block 0 with (first | (go_at_call 21; (with_reducible refine (rright_c (Kd.C_below HR.out (by repeat (first | (with_reducible first | exact HB.out | apply below_alloc | apply pw_below_drewN | apply below_drew1) | exact HB.out))) hc hlm _ HRT.out).mono ?_); rintro e w1 ⟨rfl, hb⟩; have n0_ := Aside0.mk (below_step (by repeat (first | (with_reducible first | exact HB.out | apply below_alloc | apply pw_below_drewN | apply below_drew1) | exact HB.out)) hb); clear HB; have HB := n0_; clear n0_; have hs_ := below_step (by repeat (first | (with_reducible first | exact HL.out | apply below_alloc | apply pw_below_drewN | apply below_drew1) | exact HL.out)) hb; have HS0 := Aside0.mk (blk_below (o := .cells #[.slice none 0 c] 28 (0, 0)) (g := W.heap.size) (by repeat (first | (with_reducible refine blk_drewN ?_ _) | (with_reducible refine blk_drew ?_) | exact blk_new' (by first | rfl | simp) | (with_reducible refine blk_alloc ?_ _))) hb); have qHS0_0 := blk_cell HS0.out 0; have lHS0 := blk_lt HS0.out; simp only [List.getElem?_toArray, List.getElem?_cons_zero, List.getElem?_cons_succ] at qHS0_0; have HS2 := Aside0.mk (blk_below (o := .cells #[.slice none 0 0] 28 (0, 0)) (g := (W.heap.size + 1)) (by repeat (first | (with_reducible refine blk_drewN ?_ _) | (with_reducible refine blk_drew ?_) | exact blk_new' (by first | rfl | simp) | (with_reducible refine blk_alloc ?_ _))) hb); have qHS2_0 := blk_cell HS2.out 0; have lHS2 := blk_lt HS2.out; simp only [List.getElem?_toArray, List.getElem?_cons_zero, List.getElem?_cons_succ] at qHS2_0; have fHS2 := blk_frozen HS2.out 0; clear HL hs_ hb; have HL := Aside0.mk (Below.refl w1.heap.size w1)) | (go_at_call 15; (with_reducible refine (rhas_c (Kd.C_below HR.out (by repeat (first | (with_reducible first | exact HB.out | apply below_alloc | apply pw_below_drewN | apply below_drew1) | exact HB.out))) hlm x _ HH.out).mono ?_); rintro e w2 ⟨rfl, hb⟩; have n0_ := Aside0.mk (below_step (by repeat (first | (with_reducible first | exact HB.out | apply below_alloc | apply pw_below_drewN | apply below_drew1) | exact HB.out)) hb); clear HB; have HB := n0_; clear n0_; have hs_ := below_step (by repeat (first | (with_reducible first | exact HL.out | apply below_alloc | apply pw_below_drewN | apply below_drew1) | exact HL.out)) hb; have n_ := Aside0.mk (blk_below HS0.out hs_); clear qHS0_0 lHS0; clear HS0; have HS0 := n_; clear n_; have qHS0_0 := blk_cell HS0.out 0; have lHS0 := blk_lt HS0.out; simp only [List.getElem?_toArray, List.getElem?_cons_zero, List.getElem?_cons_succ] at qHS0_0; have n_ := Aside0.mk (blk_below HS2.out hs_); clear qHS2_0 lHS2 fHS2; clear HS2; have HS2 := n_; clear n_; have qHS2_0 := blk_cell HS2.out 0; have lHS2 := blk_lt HS2.out; simp only [List.getElem?_toArray, List.getElem?_cons_zero, List.getElem?_cons_succ] at qHS2_0; have fHS2 := blk_frozen HS2.out 0; clear HL hs_ hb; have HL := Aside0.mk (Below.refl w2.heap.size w2)))
  go_wp2
  go_loopw [6] (fun v6 wr => v6 = .int .i64 0 ∧ Aside0 (Below W.heap.size W wr) ∧ Aside0 (wr.heap[W.heap.size]? = some (.cells #[.slice none 0 c] 28 (0, 0))) ∧ Aside0 (wr.heap[(W.heap.size + 1)]? = some (.cells #[.slice none 0 0] 28 (0, 0)))) (fun _ _ => 0)
  case atStart => exact ⟨rfl, HB, HS0, HS2⟩
  case round =>
    clear HB HL HS0 HS2 qHS0_0 lHS0 qHS2_0 lHS2 fHS2
    obtain ⟨rfl, HB, HS0, HS2⟩ := hrel
    have qHS0_0 := blk_cell HS0.out 0
    have lHS0 := blk_lt HS0.out
    simp only [List.getElem?_toArray, List.getElem?_cons_zero, List.getElem?_cons_succ] at qHS0_0
    have qHS2_0 := blk_cell HS2.out 0
    have lHS2 := blk_lt HS2.out
    simp only [List.getElem?_toArray, List.getElem?_cons_zero, List.getElem?_cons_succ] at qHS2_0
    have fHS2 := blk_frozen HS2.out 0
    have HS0c := HS0
    have HS2c := HS2
    have HBc := HB
    have HR0 := Aside0.mk (show Kd.C kI wr none 0 [] from ⟨rfl, by omega, fun h => absurd h (by omega)⟩)
    go_wp2_with (first | ((with_reducible refine gate_builtin (b := .append) (xs := #[.tmp 36, .tmp 40]) rfl ?_); at_builtin; refine i_rows (w0 := wr) wr.heap.size rfl (.tmp 36) (.tmp 40) rfl (.slice none 0 0) [] [] none 0 c rfl (by simp [Act.eval]) (IRow.nil_ _ _) HR0.out (Below.refl _ _) (Nat.le_refl _) (by simp only [List.length_nil]; omega) [] rfl ?_; intro v1 w3 r1 b1; have R1 := Aside0.mk r1; clear r1; have HBW := Aside0.mk b1; clear HB HS0 HS2 qHS0_0 lHS0 qHS2_0 lHS2 fHS2; have HB := Aside0.mk (below_step HBc.out HBW.out); have HS0 := Aside0.mk (blk_below HS0c.out HBW.out); have HS2 := Aside0.mk (blk_below HS2c.out HBW.out); have qHS0_0 := blk_cell HS0.out 0; have lHS0 := blk_lt HS0.out; simp only [List.getElem?_toArray, List.getElem?_cons_zero, List.getElem?_cons_succ] at qHS0_0; have qHS2_0 := blk_cell HS2.out 0; have lHS2 := blk_lt HS2.out; simp only [List.getElem?_toArray, List.getElem?_cons_zero, List.getElem?_cons_succ] at qHS2_0; have fHS2 := blk_frozen HS2.out 0; clear b1) | ((with_reducible refine gate_builtin (b := .append) (xs := #[.tmp 42, .tmp 46]) rfl ?_); at_builtin; refine i_one (w0 := wr) (z := w3.heap.size) wr.heap.size rfl (.tmp 42) (.tmp 46) rfl v1 [] x x rfl rfl rfl R1.out HBW.out HBW.out.size (by simp only [List.length_nil]; omega) ?_; intro v2 w4 r2 b2; have R2 := Aside0.mk r2; clear r2 R1 HBW; have HBW := Aside0.mk b2; clear HB HS0 HS2 qHS0_0 lHS0 qHS2_0 lHS2 fHS2; have HB := Aside0.mk (below_step HBc.out HBW.out); have HS0 := Aside0.mk (blk_below HS0c.out HBW.out); have HS2 := Aside0.mk (blk_below HS2c.out HBW.out); have qHS0_0 := blk_cell HS0.out 0; have lHS0 := blk_lt HS0.out; simp only [List.getElem?_toArray, List.getElem?_cons_zero, List.getElem?_cons_succ] at qHS0_0; have qHS2_0 := blk_cell HS2.out 0; have lHS2 := blk_lt HS2.out; simp only [List.getElem?_toArray, List.getElem?_cons_zero, List.getElem?_cons_succ] at qHS2_0; have fHS2 := blk_frozen HS2.out 0; clear b2) | ((with_reducible refine gate_builtin (b := .append) (xs := #[.tmp 48, .tmp 52]) rfl ?_); at_builtin; refine i_rows (w0 := wr) wr.heap.size rfl (.tmp 48) (.tmp 52) rfl v2 ([] ++ [(x, x)]) [] none 0 c rfl (by simp [Act.eval]) R2.out (Kd.C_below HR0.out HBW.out) HBW.out HBW.out.size (by simp only [List.length_append, List.length_cons, List.length_nil]; omega) [(x, x)] rfl ?_; intro v3 w5 r3 b3; obtain ⟨A3, c3, rfl, hle3, hC3⟩ := IRow.reads r3; have RR := Aside0.mk r3; clear hC3 r3 R2 HBW; have HBW := Aside0.mk b3; clear HB HS0 HS2 qHS0_0 lHS0 qHS2_0 lHS2 fHS2; have HB := Aside0.mk (below_step HBc.out HBW.out); have HS0 := Aside0.mk (blk_below HS0c.out HBW.out); have HS2 := Aside0.mk (blk_below HS2c.out HBW.out); have qHS0_0 := blk_cell HS0.out 0; have lHS0 := blk_lt HS0.out; simp only [List.getElem?_toArray, List.getElem?_cons_zero, List.getElem?_cons_succ] at qHS0_0; have qHS2_0 := blk_cell HS2.out 0; have lHS2 := blk_lt HS2.out; simp only [List.getElem?_toArray, List.getElem?_cons_zero, List.getElem?_cons_succ] at qHS2_0; have fHS2 := blk_frozen HS2.out 0; clear b3))
    all_goals (try (exfalso; omega))
    refine bodyPost_ret (v := .agg #[.slice A3 [(x, x)].length c3]) (by simp [results, Try.results12, go_sem, World.cell?_setCell_same _ _ _ qHS2_0]) rfl ?_
    exact ⟨A3, c3, rfl, IRow.set_C RR.out HS2.out (by decide) _, hle3, below_set HB.out (by omega)⟩
theorem addL_nil (x : Int) : addL [] x = [(x, x)] := by
  unfold addL
  rw [if_neg (by rw [hasL_no [] x rfl]; simp [rightL]), if_pos (by simp [addM, insI])]
  simp [addM, insI]
theorem radd_c {W : World} {A : Option Addr} {n c : Nat} {L : List Iv} (hr : Kd.C kI W A n L) (hc : n ≤ c) (hlm : n ≤ 140737488351232) (x : Int) (M : List Iv) (hM : addL L x = M) :
    Calls Try.prog 12 #[.agg #[.slice A n c], .int .i64 x] W fun e w' => ∃ A' c', e = .returned (.agg #[.slice A' M.length c']) ∧ Kd.C kI w' A' M.length M ∧ M.length ≤ c' ∧ Below W.heap.size W w' := by
  subst hM
  cases hb : rightL L with
  | false => exact radd_bad hr hc hlm x hb
  | true =>
    cases hh : hasL L x with
    | true => exact radd_had hr hc hlm x hb hh
    | false =>
      have hn := hr.1
      subst hn
      rcases A with _ | ad
      · obtain ⟨_, rfl⟩ := C_nil_eq hr
        rw [addL_nil]
        exact radd_nil x
      · exact radd_some hr hc hlm x hb hh _ _ rfl rfl
theorem add_sc {W : World} {A : Option Addr} {n c : Nat} {L : List Iv} (hr : Kd.C kI W A n L) (hc : n ≤ c) (hlm : n ≤ 140737488351232) (x : Int) (M : List Iv) (hM : addL L x = M) :
    Calls Try.prog 11 #[.agg #[.slice A n c], .int .i64 x] W fun e w' => ∃ A' c', e = .returned (.agg #[.slice A' M.length c']) ∧ Kd.C kI w' A' M.length M ∧ M.length ≤ c' ∧ ((A' = A ∧ c' = c ∧ M = L) ∨ ∃ g, A' = some ⟨g, 0, none⟩ ∧ RowI w' g c' M) ∧ Below W.heap.size W w' := by
  subst hM
  cases hb : rightL L with
  | false => exact add_bad hr hc hlm x hb
  | true =>
    cases hh : hasL L x with
    | true => exact add_had hr hc hlm x hb hh
    | false =>
      have hl4 := rightL_len hb
      have hml : (addM L x).length = L.length + 1 := insI_len _ _ _ (atI_le L x)
      by_cases h4 : (addM L x).length ≤ 4
      · exact add_room hr hc hlm x hb hh _ rfl h4
      · exact add_merge hr hc hlm x hb hh _ _ rfl (by omega) rfl
theorem add_c {W : World} {A : Option Addr} {n c : Nat} {L : List Iv} (hr : Kd.C kI W A n L) (hc : n ≤ c) (hlm : n ≤ 140737488351232) (x : Int) (M : List Iv) (hM : addL L x = M) :
    Calls Try.prog 11 #[.agg #[.slice A n c], .int .i64 x] W fun e w' => ∃ A' c', e = .returned (.agg #[.slice A' M.length c']) ∧ Kd.C kI w' A' M.length M ∧ M.length ≤ c' ∧ Below W.heap.size W w' := by
  refine (add_sc hr hc hlm x M hM).mono ?_
  rintro e w1 ⟨A', c', h1, h2, h3, _, h4⟩
  exact ⟨A', c', h1, h2, h3, h4⟩
theorem addL_len (L : List Iv) (x : Int) : (addL L x).length ≤ max L.length 4 := by
  unfold addL
  split
  · omega
  · split
    · omega
    · rename_i h1 h2
      have hr : rightL L = true := by
        cases h : rightL L with
        | true => rfl
        | false => exact absurd (.inl h) h1
      have hl4 := rightL_len hr
      have hml : (addM L x).length = L.length + 1 := insI_len _ _ _ (atI_le L x)
      unfold mergeI
      have := leastN_lt (addM L x) 5
      rw [delI_len _ _ (by rw [List.length_set]; omega), List.length_set]
      omega
end Go.Proofs.Ytoidaakmmnlhgaa.Hand
