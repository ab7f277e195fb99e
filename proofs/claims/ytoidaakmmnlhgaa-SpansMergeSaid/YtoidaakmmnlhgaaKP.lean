/- Intervals: the reference's Add, up to five. -/
import Derived.Test.YtoidaakmmnlhgaaKO
import Derived.Deep.RegionLaw
import Derived.Deep.DeepCutAuto
import Derived.Deep.CutBlock
set_option linter.unusedVariables false
set_option linter.unusedSimpArgs false
namespace Go.Proofs.Ytoidaakmmnlhgaa.Hand
open Go.RowKit Go.Proofs.YtoidaakmmnlhgaaW.PrintWords Go.Proofs.YtoidaakmmnlhgaaW.PrintLast Go.Proofs.YtoidaakmmnlhgaaW.PrintMore
theorem gapAt_eq {M : List Iv} {j : Nat} {p0 q0 p1 q1 : Int} (h0 : M[j]? = some (p0, q0)) (h1 : M[j + 1]? = some (p1, q1)) : gapAt M (j + 1) = (p1 - q0) % 18446744073709551616 := by
  unfold gapAt gapU
  rw [Nat.add_sub_cancel, List.getD_eq_getElem?_getD, List.getD_eq_getElem?_getD, h0, h1]
  rfl
theorem mergeI_eq {M : List Iv} {m : Nat} {s0 t0 s1 t1 : Int} (hm : m + 1 < M.length) (h0 : M[m]? = some (s0, t0)) (h1 : M[m + 1]? = some (s1, t1)) : mergeI M (m + 1) = (M.take m ++ [(s0, t1)]) ++ M.drop (m + 1 + 1) := by
  unfold mergeI delI
  rw [Nat.add_sub_cancel, List.getD_eq_getElem?_getD, List.getD_eq_getElem?_getD, h0, h1, List.take_add_one]
  have e1 : (M.set m (s0, t1)).take m = M.take m := by rw [List.take_set_of_le (Nat.le_refl _)]
  have e2 : (M.set m (s0, t1))[m]? = some (s0, t1) := List.getElem?_set_self (by omega)
  have e3 : (M.set m (s0, t1)).drop (m + 1 + 1) = M.drop (m + 1 + 1) := List.drop_set_of_lt (by omega)
  show (M.set m (s0, t1)).take m ++ (M.set m (s0, t1))[m]?.toList ++ (M.set m (s0, t1)).drop (m + 1 + 1) = _
  rw [e1, e2, e3]
  rfl
theorem u64_gap (a b : Int) : IntKind.u64.wrap (IntKind.u64.wrap a - IntKind.u64.wrap b) = (a - b) % 18446744073709551616 := by
  show (a % 18446744073709551616 - b % 18446744073709551616) % 18446744073709551616 = _
  rw [← Int.sub_emod]
set_option maxHeartbeats 4000000 in
set_option maxRecDepth 100000 in
theorem radd_some {W : World} {ad : Addr} {c : Nat} {L : List Iv} (hr : Kd.C kI W (some ad) L.length L) (hc : L.length ≤ c) (hlm : L.length ≤ 140737488351232) (x : Int) (hb : rightL L = true) (hh : hasL L x = false) (M M2 : List Iv) (hM : addM L x = M) (hM2 : mergeI M (leastN M 5) = M2) :
    Calls Try.prog 12 #[.agg #[.slice (some ad) L.length c], .int .i64 x] W fun e w' => ∃ A' c', e = .returned (.agg #[.slice A' (addL L x).length c']) ∧ Kd.C kI w' A' (addL L x).length (addL L x) ∧ (addL L x).length ≤ c' ∧ Below W.heap.size W w' := by
  have HE := Aside0.mk (show addL L x = if M.length ≤ 4 then M else M2 by unfold addL; rw [if_neg (by rw [hb, hh]; simp), hM, hM2])
  have HRT := Aside0.mk hb
  have HH := Aside0.mk hh
  have hl4 := rightL_len hb
  have HAI := Aside0.mk (atI_le L x)
  have HM := Aside0.mk (show insI L (atI L x) (x, x) = M from hM)
  have HM2 := Aside0.mk hM2
  have HB := Aside0.mk (Below.refl W.heap.size W)
  have HL := Aside0.mk (Below.refl W.heap.size W)
  have HR := Aside0.mk hr
  clear hr hb hh hM hM2
  go_enter Try.func12, Try.ntmps12
  go_upto_block 0 with (first | (go_at_call 21; (with_reducible refine (rright_c (Kd.C_below HR.out (by repeat (first | (with_reducible first | exact HB.out | apply below_alloc | apply pw_below_drewN | apply below_drew1) | exact HB.out))) hc hlm _ HRT.out).mono ?_); rintro e w1 ⟨rfl, hb⟩; have n0_ := Aside0.mk (below_step (by repeat (first | (with_reducible first | exact HB.out | apply below_alloc | apply pw_below_drewN | apply below_drew1) | exact HB.out)) hb); clear HB; have HB := n0_; clear n0_; have hs_ := below_step (by repeat (first | (with_reducible first | exact HL.out | apply below_alloc | apply pw_below_drewN | apply below_drew1) | exact HL.out)) hb; have HS0 := Aside0.mk (blk_below (o := .cells #[.slice (some ad) L.length c] 28 (0, 0)) (g := W.heap.size) (by repeat (first | (with_reducible refine blk_drewN ?_ _) | (with_reducible refine blk_drew ?_) | exact blk_new' (by first | rfl | simp) | (with_reducible refine blk_alloc ?_ _))) hb); have qHS0_0 := blk_cell HS0.out 0; have lHS0 := blk_lt HS0.out; simp only [List.getElem?_toArray, List.getElem?_cons_zero, List.getElem?_cons_succ] at qHS0_0; have HS2 := Aside0.mk (blk_below (o := .cells #[.slice none 0 0] 28 (0, 0)) (g := (W.heap.size + 1)) (by repeat (first | (with_reducible refine blk_drewN ?_ _) | (with_reducible refine blk_drew ?_) | exact blk_new' (by first | rfl | simp) | (with_reducible refine blk_alloc ?_ _))) hb); have qHS2_0 := blk_cell HS2.out 0; have lHS2 := blk_lt HS2.out; simp only [List.getElem?_toArray, List.getElem?_cons_zero, List.getElem?_cons_succ] at qHS2_0; have fHS2 := blk_frozen HS2.out 0; clear HL hs_ hb; have HL := Aside0.mk (Below.refl w1.heap.size w1)) | (go_at_call 15; (with_reducible refine (rhas_c (Kd.C_below HR.out (by repeat (first | (with_reducible first | exact HB.out | apply below_alloc | apply pw_below_drewN | apply below_drew1) | exact HB.out))) hlm x _ HH.out).mono ?_); rintro e w2 ⟨rfl, hb⟩; have n0_ := Aside0.mk (below_step (by repeat (first | (with_reducible first | exact HB.out | apply below_alloc | apply pw_below_drewN | apply below_drew1) | exact HB.out)) hb); clear HB; have HB := n0_; clear n0_; have hs_ := below_step (by repeat (first | (with_reducible first | exact HL.out | apply below_alloc | apply pw_below_drewN | apply below_drew1) | exact HL.out)) hb; have n_ := Aside0.mk (blk_below HS0.out hs_); clear qHS0_0 lHS0; clear HS0; have HS0 := n_; clear n_; have qHS0_0 := blk_cell HS0.out 0; have lHS0 := blk_lt HS0.out; simp only [List.getElem?_toArray, List.getElem?_cons_zero, List.getElem?_cons_succ] at qHS0_0; have n_ := Aside0.mk (blk_below HS2.out hs_); clear qHS2_0 lHS2 fHS2; clear HS2; have HS2 := n_; clear n_; have qHS2_0 := blk_cell HS2.out 0; have lHS2 := blk_lt HS2.out; simp only [List.getElem?_toArray, List.getElem?_cons_zero, List.getElem?_cons_succ] at qHS2_0; have fHS2 := blk_frozen HS2.out 0; clear HL hs_ hb; have HL := Aside0.mk (Below.refl w2.heap.size w2)))
  go_cut [6] (fun v6 wx => v6 = .int .i64 ((atI L x : Nat) : Int) ∧ Aside0 (Below W.heap.size W wx) ∧ Aside0 (wx.heap[W.heap.size]? = some (.cells #[.slice (some ad) L.length c] 28 (0, 0))) ∧ Aside0 (wx.heap[(W.heap.size + 1)]? = some (.cells #[.slice none 0 0] 28 (0, 0))))
  case first => as_aux_lemma =>
    go_wp2
    go_loopw [6] (fun v6 wr => ∃ k : Nat, v6 = .int .i64 (k : Int) ∧ k ≤ L.length ∧ (L.take k).all (fun y => decide (y.1 < x)) = true ∧ Aside0 (Below W.heap.size W wr) ∧ Aside0 (wr.heap[W.heap.size]? = some (.cells #[.slice (some ad) L.length c] 28 (0, 0))) ∧ Aside0 (wr.heap[(W.heap.size + 1)]? = some (.cells #[.slice none 0 0] 28 (0, 0)))) (fun v _ => L.length - (intOf v).toNat)
    case atStart => exact ⟨0, rfl, by omega, rfl, HB, HS0, HS2⟩
    case round =>
      clear HB HL HS0 HS2
      clear qHS0_0 lHS0 qHS2_0 lHS2 fHS2
      obtain ⟨k, rfl, hk, hno, HB, HS0, HS2⟩ := hrel
      have qHS0_0 := blk_cell HS0.out 0
      have lHS0 := blk_lt HS0.out
      simp only [List.getElem?_toArray, List.getElem?_cons_zero, List.getElem?_cons_succ] at qHS0_0
      have qHS2_0 := blk_cell HS2.out 0
      have lHS2 := blk_lt HS2.out
      simp only [List.getElem?_toArray, List.getElem?_cons_zero, List.getElem?_cons_succ] at qHS2_0
      have fHS2 := blk_frozen HS2.out 0
      by_cases hlt : k < L.length
      · obtain ⟨y, hy⟩ : ∃ y, L[k]? = some y := ⟨L[k], List.getElem?_eq_getElem hlt⟩
        obtain ⟨a, b⟩ := y
        obtain ⟨d0, d1⟩ := iv_at (Kd.C_below HR.out HB.out) k _ hy
        simp only at d0 d1
        clear d1
        by_cases z1 : a < x
        · have HNX := Aside0.mk (all_take_succ (fun y => decide (y.1 < x)) L k _ hy hno (decide_eq_true z1))
          clear hno
          go_wp2
          all_goals (try (exfalso; omega))
          all_goals go_roundw
          all_goals (try (case rel => exact ⟨k + 1, by go_num, by omega, HNX.out, HB, HS0, HS2⟩))
          all_goals (try (case measure => (simp [intOf] <;> omega)))
        · have HAT := Aside0.mk (at_unique HRT.out HH.out k hk hno (.inr ⟨_, hy, z1⟩))
          clear hno
          go_wp2
          all_goals (try (exfalso; omega))
          all_goals go_meet
          all_goals exact ⟨by rw [HAT.out], HB, HS0, HS2⟩
      · obtain rfl : k = L.length := by omega
        have HAT := Aside0.mk (at_unique HRT.out HH.out L.length (Nat.le_refl _) hno (.inl rfl))
        clear hno
        go_wp2
        all_goals (try (exfalso; omega))
        all_goals go_meet
        all_goals exact ⟨by rw [HAT.out], HB, HS0, HS2⟩
  case rest => as_aux_lemma =>
    obtain ⟨rfl, HB, HS0, HS2⟩ := hcut
    clear HL qHS0_0 lHS0 qHS2_0 lHS2 fHS2
    have qHS0_0 := blk_cell HS0.out 0
    have lHS0 := blk_lt HS0.out
    simp only [List.getElem?_toArray, List.getElem?_cons_zero, List.getElem?_cons_succ] at qHS0_0
    have qHS2_0 := blk_cell HS2.out 0
    have lHS2 := blk_lt HS2.out
    simp only [List.getElem?_toArray, List.getElem?_cons_zero, List.getElem?_cons_succ] at qHS2_0
    have fHS2 := blk_frozen HS2.out 0
    obtain ⟨k, HK⟩ : ∃ k, Aside0 (atI L x = k) := ⟨_, ⟨rfl⟩⟩
    rw [HK.out]
    have hk : k ≤ L.length := by rw [← HK.out]; exact HAI.out
    have hki : (k : Int) ≤ (L.length : Int) := by omega
    have hkc : (k : Int) ≤ (c : Int) := by omega
    have HMM := Aside0.mk (show (L.take k ++ [(x, x)]) ++ L.drop k = M by rw [← HM.out, HK.out]; simp [insI])
    have HCW := Aside0.mk (Kd.C_below HR.out HB.out)
    have HT := Aside0.mk (show Kd.C kI wc (some ad) k (L.take k) by have := Kd.C_take HCW.out hk; rwa [show (L.take k).length = k by rw [List.length_take]; omega] at this)
    have HD := Aside0.mk (show Kd.C kI wc (if c = k then some ad else some (ad.add (k * 2))) (L.length - k) (L.drop k) by have := Kd.C_drop (c := c) HCW.out hk hc; rwa [show (L.drop k).length = L.length - k from List.length_drop] at this)
    obtain ⟨AD, hAD⟩ : ∃ AD, (if c = k then some ad else some (ad.add (k * 2))) = AD := ⟨_, rfl⟩
    rw [hAD] at HD
    have hkl : k + 1 ≤ 5 := by omega
    have HBC := Aside0.mk (Below.refl wc.heap.size wc)
    have HS0c := HS0
    have HS2c := HS2
    have HBc := HB
    have hml : M.length = L.length + 1 := by rw [← HM.out]; exact insI_len _ _ _ HAI.out
    have hm45 : M.length ≤ 4 ∨ M.length = 5 := by omega
    have HML := Aside0.mk hml
    clear hml
    rcases hm45 with hm | hm
    · have hmi : (M.length : Int) < 5 := by omega
      have HE2 := Aside0.mk (show addL L x = M by rw [HE.out, if_pos hm])
      go_wp2_with (first | ((with_reducible refine gate_builtin (b := .append) (xs := #[.tmp 36, .tmp 40]) rfl ?_); at_builtin; refine i_rows (w0 := wc) wc.heap.size rfl (.tmp 36) (.tmp 40) rfl (.slice none 0 0) [] (L.take k) (some ad) k c rfl rfl (IRow.nil_ _ _) HT.out (Below.refl _ _) (Nat.le_refl _) (by simp only [List.length_nil]; omega) (L.take k) rfl ?_; intro v1 w3 r1 b1; have R1 := Aside0.mk r1; clear r1; have HBW := Aside0.mk b1; clear HB HS0 HS2 qHS0_0 lHS0 qHS2_0 lHS2 fHS2; have HB := Aside0.mk (below_step HBc.out HBW.out); have HS0 := Aside0.mk (blk_below HS0c.out HBW.out); have HS2 := Aside0.mk (blk_below HS2c.out HBW.out); have qHS0_0 := blk_cell HS0.out 0; have lHS0 := blk_lt HS0.out; simp only [List.getElem?_toArray, List.getElem?_cons_zero, List.getElem?_cons_succ] at qHS0_0; have qHS2_0 := blk_cell HS2.out 0; have lHS2 := blk_lt HS2.out; simp only [List.getElem?_toArray, List.getElem?_cons_zero, List.getElem?_cons_succ] at qHS2_0; have fHS2 := blk_frozen HS2.out 0; clear b1) | ((with_reducible refine gate_builtin (b := .append) (xs := #[.tmp 42, .tmp 46]) rfl ?_); at_builtin; refine i_one (w0 := wc) (z := w3.heap.size) wc.heap.size rfl (.tmp 42) (.tmp 46) rfl v1 (L.take k) x x rfl rfl rfl R1.out HBW.out HBW.out.size (by rw [List.length_take]; omega) ?_; intro v2 w4 r2 b2; have R2 := Aside0.mk r2; clear r2 R1 HBW; have HBW := Aside0.mk b2; clear HB HS0 HS2 qHS0_0 lHS0 qHS2_0 lHS2 fHS2; have HB := Aside0.mk (below_step HBc.out HBW.out); have HS0 := Aside0.mk (blk_below HS0c.out HBW.out); have HS2 := Aside0.mk (blk_below HS2c.out HBW.out); have qHS0_0 := blk_cell HS0.out 0; have lHS0 := blk_lt HS0.out; simp only [List.getElem?_toArray, List.getElem?_cons_zero, List.getElem?_cons_succ] at qHS0_0; have qHS2_0 := blk_cell HS2.out 0; have lHS2 := blk_lt HS2.out; simp only [List.getElem?_toArray, List.getElem?_cons_zero, List.getElem?_cons_succ] at qHS2_0; have fHS2 := blk_frozen HS2.out 0; clear b2) | ((with_reducible refine gate_builtin (b := .append) (xs := #[.tmp 48, .tmp 52]) rfl ?_); at_builtin; refine i_rows (w0 := wc) wc.heap.size rfl (.tmp 48) (.tmp 52) rfl v2 (L.take k ++ [(x, x)]) (L.drop k) AD (L.length - k) (c - k) rfl rfl R2.out (Kd.C_below HD.out HBW.out) HBW.out HBW.out.size (by simp only [List.length_append, List.length_take, List.length_cons, List.length_nil]; omega) M HMM.out ?_; intro v3 w5 r3 b3; obtain ⟨A3, c3, rfl, hle3, hC3⟩ := IRow.reads r3; have R3 := Aside0.mk hC3; have RR := Aside0.mk r3; clear hC3 r3 R2 HBW; have HBW := Aside0.mk b3; clear HB HS0 HS2 qHS0_0 lHS0 qHS2_0 lHS2 fHS2; have HB := Aside0.mk (below_step HBc.out HBW.out); have HS0 := Aside0.mk (blk_below HS0c.out HBW.out); have HS2 := Aside0.mk (blk_below HS2c.out HBW.out); have qHS0_0 := blk_cell HS0.out 0; have lHS0 := blk_lt HS0.out; simp only [List.getElem?_toArray, List.getElem?_cons_zero, List.getElem?_cons_succ] at qHS0_0; have qHS2_0 := blk_cell HS2.out 0; have lHS2 := blk_lt HS2.out; simp only [List.getElem?_toArray, List.getElem?_cons_zero, List.getElem?_cons_succ] at qHS2_0; have fHS2 := blk_frozen HS2.out 0; clear b3))
      all_goals (try (exfalso; omega))
      refine bodyPost_ret (v := .agg #[.slice A3 M.length c3]) (by simp [results, Try.results12, go_sem, World.cell?_setCell_same _ _ _ qHS2_0]) rfl ?_
      refine ⟨A3, c3, ?_, ?_, ?_, below_set HB.out (by omega)⟩
      all_goals rw [HE2.out]
      all_goals first | rfl | exact hle3 | exact IRow.set_C RR.out HS2.out (by decide) _
    · have hmi : ¬ (M.length : Int) < 5 := by omega
      have HE2 := Aside0.mk (show addL L x = M2 by rw [HE.out, if_neg (by omega)])
      have HM5 := Aside0.mk hm
      have hm4 : 4 < M.length := by omega
      have hm6 : M.length ≤ 5 := by omega
      clear hm
      go_wp2_with (first | ((with_reducible refine gate_builtin (b := .append) (xs := #[.tmp 36, .tmp 40]) rfl ?_); at_builtin; refine i_rows (w0 := wc) wc.heap.size rfl (.tmp 36) (.tmp 40) rfl (.slice none 0 0) [] (L.take k) (some ad) k c rfl rfl (IRow.nil_ _ _) HT.out (Below.refl _ _) (Nat.le_refl _) (by simp only [List.length_nil]; omega) (L.take k) rfl ?_; intro v1 w3 r1 b1; have R1 := Aside0.mk r1; clear r1; have HBW := Aside0.mk b1; clear HB HS0 HS2 qHS0_0 lHS0 qHS2_0 lHS2 fHS2; have HB := Aside0.mk (below_step HBc.out HBW.out); have HS0 := Aside0.mk (blk_below HS0c.out HBW.out); have HS2 := Aside0.mk (blk_below HS2c.out HBW.out); have qHS0_0 := blk_cell HS0.out 0; have lHS0 := blk_lt HS0.out; simp only [List.getElem?_toArray, List.getElem?_cons_zero, List.getElem?_cons_succ] at qHS0_0; have qHS2_0 := blk_cell HS2.out 0; have lHS2 := blk_lt HS2.out; simp only [List.getElem?_toArray, List.getElem?_cons_zero, List.getElem?_cons_succ] at qHS2_0; have fHS2 := blk_frozen HS2.out 0; clear b1) | ((with_reducible refine gate_builtin (b := .append) (xs := #[.tmp 42, .tmp 46]) rfl ?_); at_builtin; refine i_one (w0 := wc) (z := w3.heap.size) wc.heap.size rfl (.tmp 42) (.tmp 46) rfl v1 (L.take k) x x rfl rfl rfl R1.out HBW.out HBW.out.size (by rw [List.length_take]; omega) ?_; intro v2 w4 r2 b2; have R2 := Aside0.mk r2; clear r2 R1 HBW; have HBW := Aside0.mk b2; clear HB HS0 HS2 qHS0_0 lHS0 qHS2_0 lHS2 fHS2; have HB := Aside0.mk (below_step HBc.out HBW.out); have HS0 := Aside0.mk (blk_below HS0c.out HBW.out); have HS2 := Aside0.mk (blk_below HS2c.out HBW.out); have qHS0_0 := blk_cell HS0.out 0; have lHS0 := blk_lt HS0.out; simp only [List.getElem?_toArray, List.getElem?_cons_zero, List.getElem?_cons_succ] at qHS0_0; have qHS2_0 := blk_cell HS2.out 0; have lHS2 := blk_lt HS2.out; simp only [List.getElem?_toArray, List.getElem?_cons_zero, List.getElem?_cons_succ] at qHS2_0; have fHS2 := blk_frozen HS2.out 0; clear b2) | ((with_reducible refine gate_builtin (b := .append) (xs := #[.tmp 48, .tmp 52]) rfl ?_); at_builtin; refine i_rows (w0 := wc) wc.heap.size rfl (.tmp 48) (.tmp 52) rfl v2 (L.take k ++ [(x, x)]) (L.drop k) AD (L.length - k) (c - k) rfl rfl R2.out (Kd.C_below HD.out HBW.out) HBW.out HBW.out.size (by simp only [List.length_append, List.length_take, List.length_cons, List.length_nil]; omega) M HMM.out ?_; intro v3 w5 r3 b3; obtain ⟨A3, c3, rfl, hle3, hC3⟩ := IRow.reads r3; have R3 := Aside0.mk hC3; have RR := Aside0.mk r3; clear hC3 r3 R2 HBW; have HBW := Aside0.mk b3; clear HB HS0 HS2 qHS0_0 lHS0 qHS2_0 lHS2 fHS2; have HB := Aside0.mk (below_step HBc.out HBW.out); have HS0 := Aside0.mk (blk_below HS0c.out HBW.out); have HS2 := Aside0.mk (blk_below HS2c.out HBW.out); have qHS0_0 := blk_cell HS0.out 0; have lHS0 := blk_lt HS0.out; simp only [List.getElem?_toArray, List.getElem?_cons_zero, List.getElem?_cons_succ] at qHS0_0; have qHS2_0 := blk_cell HS2.out 0; have lHS2 := blk_lt HS2.out; simp only [List.getElem?_toArray, List.getElem?_cons_zero, List.getElem?_cons_succ] at qHS2_0; have fHS2 := blk_frozen HS2.out 0; clear b3))
      all_goals (try (exfalso; omega))
      obtain ⟨a3, ea3, _⟩ := R3.out.2.2 (by omega)
      subst ea3
      go_loopw [7, 8] (fun v7 v8 wr => ∃ k : Nat, v8 = .int .i64 (k : Int) ∧ 2 ≤ k ∧ k ≤ M.length ∧ v7 = .int .i64 ((leastN M k : Nat) : Int) ∧ Aside0 (Below w5.heap.size w5 wr)) (fun _ v _ => M.length - (intOf v).toNat)
      case atStart => exact ⟨2, rfl, by omega, by omega, rfl, ⟨Below.refl _ _⟩⟩
      case round =>
        obtain ⟨k, rfl, hk2, hkm, rfl, HBR⟩ := hrel
        by_cases hlt : k < M.length
        · obtain ⟨j, rfl⟩ : ∃ j, k = j + 1 := ⟨k - 1, by omega⟩
          have hp1 := leastN_pos M (j + 1)
          have hp2 := leastN_lt M (j + 1)
          obtain ⟨m, hme⟩ : ∃ m, leastN M (j + 1) = m + 1 := ⟨leastN M (j + 1) - 1, by omega⟩
          have HME := Aside0.mk hme
          rw [hme] at hp1 hp2 ⊢
          clear hme
          have hjl : j < M.length := by omega
          have hjl1 : j + 1 < M.length := hlt
          have hml : m < M.length := by omega
          have hml1 : m + 1 < M.length := by omega
          have hj0 : (0 : Int) ≤ (j : Int) + 1 := by omega
          have hm0 : (0 : Int) ≤ (m : Int) + 1 := by omega
          have hji : (j : Int) + 1 < (M.length : Int) := by omega
          have hjk : (j : Int) < (M.length : Int) := by omega
          have hmi2 : (m : Int) + 1 < (M.length : Int) := by omega
          have hmk : (m : Int) < (M.length : Int) := by omega
          have hll : 0 < M.length := by omega
          obtain ⟨y0, hy0⟩ : ∃ y, M[j]? = some y := ⟨M[j], List.getElem?_eq_getElem hjl⟩
          obtain ⟨y1, hy1⟩ : ∃ y, M[j + 1]? = some y := ⟨M[j + 1], List.getElem?_eq_getElem hjl1⟩
          obtain ⟨z0, hz0⟩ : ∃ y, M[m]? = some y := ⟨M[m], List.getElem?_eq_getElem hml⟩
          obtain ⟨z1, hz1⟩ : ∃ y, M[m + 1]? = some y := ⟨M[m + 1], List.getElem?_eq_getElem hml1⟩
          obtain ⟨p0, q0⟩ := y0
          obtain ⟨p1, q1⟩ := y1
          obtain ⟨s0, t0⟩ := z0
          obtain ⟨s1, t1⟩ := z1
          have HCr := Kd.C_below R3.out HBR.out
          have d0 := (iv_at HCr j _ hy0).2
          have d1 := (iv_at HCr (j + 1) _ hy1).1
          have e0 := (iv_at HCr m _ hz0).2
          have e1 := (iv_at HCr (m + 1) _ hz1).1
          simp only at d0 d1 e0 e1
          clear HCr
          obtain ⟨pj, hpj⟩ : ∃ pj, a3.add (j * 2) = pj := ⟨_, rfl⟩
          obtain ⟨pm, hpm⟩ : ∃ pm, a3.add (m * 2) = pm := ⟨_, rfl⟩
          rw [hpj] at d0
          rw [hpm] at e0
          have g1 : gapAt M (j + 1) = (p1 - q0) % 18446744073709551616 := gapAt_eq hy0 hy1
          have g2 : gapAt M (m + 1) = (s1 - t0) % 18446744073709551616 := gapAt_eq hz0 hz1
          have hw2 : IntKind.i64.wrap (j : Int) = (j : Int) := by rw [i64_w]; exact wrap_small _ (by omega) (by omega)
          have hw3 : IntKind.i64.wrap (m : Int) = (m : Int) := by rw [i64_w]; exact wrap_small _ (by omega) (by omega)
          have hu1 := u64_gap p1 q0
          have hu2 := u64_gap s1 t0
          rw [← g1] at hu1
          rw [← g2] at hu2
          have hj1 : 1 < j + 1 := by omega
          clear hy0 hy1 hz0 hz1 g1 g2
          obtain ⟨ga, hga⟩ : ∃ ga, gapAt M (j + 1) = ga := ⟨_, rfl⟩
          obtain ⟨gb, hgb⟩ : ∃ gb, gapAt M (m + 1) = gb := ⟨_, rfl⟩
          rw [hga] at hu1
          rw [hgb] at hu2
          by_cases hgap : ga < gb
          · have HN1 := Aside0.mk (show leastN M (j + 1 + 1) = j + 1 by rw [leastN, if_pos ⟨hj1, by rw [HME.out, hga, hgb]; exact hgap⟩])
            have hgd : decide (ga < gb) = true := decide_eq_true hgap
            clear hga hgb
            go_upto_region 16 with fail
            refine start_ (n := 29) (S := fun w' => w'.cell? (a3.add ((j + 1) * 2)) = some (.int .i64 p1) ∧ w'.cell? ⟨pj.block, pj.off + 1, none⟩ = some (.int .i64 q0) ∧ w'.cell? (a3.add ((m + 1) * 2)) = some (.int .i64 s1) ∧ w'.cell? ⟨pm.block, pm.off + 1, none⟩ = some (.int .i64 t0)) (ds := []) #[false, false, false, false, false, false, false, false, false, false, false, false, false, false, false, false, false, false, false, false, false, false, false, false, false, false, false, false, false] (by kernel_rfl) rfl rfl ⟨d1, d0, e1, e0⟩ (fun hHeld => ?_)
            refine pure_ (i := 0) (N := some 65) (v := ?_) (a' := ?_) #[true, false, false, false, false, false, false, false, false, false, false, false, false, false, false, false, false, false, false, false, false, false, false, false, false, false, false, false, false] rfl rfl (by kernel_rfl) (fun _ _ _ h => h) (Or.inl ⟨by rfl, ?_⟩) ?_ ?_
            rotate_left
            · intro w'
              go_simp
              with_reducible rfl
            rotate_left
            · simp only [Act.put, List.setIfInBounds_toArray, List.set_cons_zero, List.set_cons_succ, i64_w, i32_w]
              rfl
            refine pure_ (i := 1) (N := some 66) (v := ?_) (a' := ?_) #[true, true, false, false, false, false, false, false, false, false, false, false, false, false, false, false, false, false, false, false, false, false, false, false, false, false, false, false, false] rfl rfl (by kernel_rfl) (fun _ _ _ h => h) (Or.inl ⟨by rfl, ?_⟩) ?_ ?_
            rotate_left
            · intro w'
              go_simp
              with_reducible rfl
            rotate_left
            · simp only [Act.put, List.setIfInBounds_toArray, List.set_cons_zero, List.set_cons_succ, i64_w, i32_w]
              rfl
            refine pure_ (i := 2) (N := some 67) (v := ?_) (a' := ?_) #[true, true, true, false, false, false, false, false, false, false, false, false, false, false, false, false, false, false, false, false, false, false, false, false, false, false, false, false, false] rfl rfl (by kernel_rfl) (fun _ _ _ h => h) (Or.inl ⟨by rfl, ?_⟩) ?_ ?_
            rotate_left
            · intro w'
              go_simp
              with_reducible rfl
            rotate_left
            · simp only [Act.put, List.setIfInBounds_toArray, List.set_cons_zero, List.set_cons_succ, i64_w, i32_w]
              rfl
            refine pure_ (i := 3) (N := some 68) (v := ?_) (a' := ?_) #[true, true, true, true, false, false, false, false, false, false, false, false, false, false, false, false, false, false, false, false, false, false, false, false, false, false, false, false, false] rfl rfl (by kernel_rfl) (fun _ _ _ h => h) (Or.inl ⟨by rfl, ?_⟩) ?_ ?_
            rotate_left
            · intro w'
              go_simp
              with_reducible rfl
            rotate_left
            · simp only [Act.put, List.setIfInBounds_toArray, List.set_cons_zero, List.set_cons_succ, i64_w, i32_w]
              rfl
            refine pure_ (i := 6) (N := some 71) (v := ?_) (a' := ?_) #[true, true, true, true, false, false, true, false, false, false, false, false, false, false, false, false, false, false, false, false, false, false, false, false, false, false, false, false, false] rfl rfl (by kernel_rfl) (fun _ _ _ h => h) (Or.inl ⟨by rfl, ?_⟩) ?_ ?_
            rotate_left
            · intro w'
              go_simp
              with_reducible rfl
            rotate_left
            · simp only [Act.put, List.setIfInBounds_toArray, List.set_cons_zero, List.set_cons_succ, i64_w, i32_w]
              rfl
            refine pure_ (i := 7) (N := some 72) (v := ?_) (a' := ?_) #[true, true, true, true, false, false, true, true, false, false, false, false, false, false, false, false, false, false, false, false, false, false, false, false, false, false, false, false, false] rfl rfl (by kernel_rfl) (fun _ _ _ h => h) (Or.inl ⟨by rfl, ?_⟩) ?_ ?_
            rotate_left
            · intro w'
              go_simp
              with_reducible rfl
            rotate_left
            · simp only [Act.put, List.setIfInBounds_toArray, List.set_cons_zero, List.set_cons_succ, i64_w, i32_w]
              rfl
            refine pure_ (i := 8) (N := some 73) (v := ?_) (a' := ?_) #[true, true, true, true, false, false, true, true, true, false, false, false, false, false, false, false, false, false, false, false, false, false, false, false, false, false, false, false, false] rfl rfl (by kernel_rfl) (fun _ _ _ h => h) (Or.inl ⟨by rfl, ?_⟩) ?_ ?_
            rotate_left
            · intro w'
              go_simp
              with_reducible rfl
            rotate_left
            · simp only [Act.put, List.setIfInBounds_toArray, List.set_cons_zero, List.set_cons_succ, i64_w, i32_w]
              rfl
            refine pure_ (i := 9) (N := some 74) (v := ?_) (a' := ?_) #[true, true, true, true, false, false, true, true, true, true, false, false, false, false, false, false, false, false, false, false, false, false, false, false, false, false, false, false, false] rfl rfl (by kernel_rfl) (fun _ _ _ h => h) (Or.inl ⟨by rfl, ?_⟩) ?_ ?_
            rotate_left
            · intro w'
              go_simp
              with_reducible rfl
            rotate_left
            · simp only [Act.put, List.setIfInBounds_toArray, List.set_cons_zero, List.set_cons_succ, i64_w, i32_w]
              rfl
            refine pure_ (i := 10) (N := some 75) (v := ?_) (a' := ?_) #[true, true, true, true, false, false, true, true, true, true, true, false, false, false, false, false, false, false, false, false, false, false, false, false, false, false, false, false, false] rfl rfl (by kernel_rfl) (fun _ _ _ h => h) (Or.inl ⟨by rfl, ?_⟩) ?_ ?_
            rotate_left
            · intro w'
              go_simp
              with_reducible rfl
            rotate_left
            · simp only [Act.put, List.setIfInBounds_toArray, List.set_cons_zero, List.set_cons_succ, i64_w, i32_w]
              rfl
            refine pure_ (i := 14) (N := some 79) (v := ?_) (a' := ?_) #[true, true, true, true, false, false, true, true, true, true, true, false, false, false, true, false, false, false, false, false, false, false, false, false, false, false, false, false, false] rfl rfl (by kernel_rfl) (fun _ _ _ h => h) (Or.inl ⟨by rfl, ?_⟩) ?_ ?_
            rotate_left
            · intro w'
              go_simp
              with_reducible rfl
            rotate_left
            · simp only [Act.put, List.setIfInBounds_toArray, List.set_cons_zero, List.set_cons_succ, i64_w, i32_w]
              rfl
            refine pure_ (i := 15) (N := some 80) (v := ?_) (a' := ?_) #[true, true, true, true, false, false, true, true, true, true, true, false, false, false, true, true, false, false, false, false, false, false, false, false, false, false, false, false, false] rfl rfl (by kernel_rfl) (fun _ _ _ h => h) (Or.inl ⟨by rfl, ?_⟩) ?_ ?_
            rotate_left
            · intro w'
              go_simp
              with_reducible rfl
            rotate_left
            · simp only [Act.put, List.setIfInBounds_toArray, List.set_cons_zero, List.set_cons_succ, i64_w, i32_w]
              rfl
            refine pure_ (i := 16) (N := some 81) (v := ?_) (a' := ?_) #[true, true, true, true, false, false, true, true, true, true, true, false, false, false, true, true, true, false, false, false, false, false, false, false, false, false, false, false, false] rfl rfl (by kernel_rfl) (fun _ _ _ h => h) (Or.inl ⟨by rfl, ?_⟩) ?_ ?_
            rotate_left
            · intro w'
              go_simp
              with_reducible rfl
            rotate_left
            · simp only [Act.put, List.setIfInBounds_toArray, List.set_cons_zero, List.set_cons_succ, i64_w, i32_w]
              rfl
            refine pure_ (i := 17) (N := some 82) (v := ?_) (a' := ?_) #[true, true, true, true, false, false, true, true, true, true, true, false, false, false, true, true, true, true, false, false, false, false, false, false, false, false, false, false, false] rfl rfl (by kernel_rfl) (fun _ _ _ h => h) (Or.inl ⟨by rfl, ?_⟩) ?_ ?_
            rotate_left
            · intro w'
              go_simp
              with_reducible rfl
            rotate_left
            · simp only [Act.put, List.setIfInBounds_toArray, List.set_cons_zero, List.set_cons_succ, i64_w, i32_w]
              rfl
            refine pure_ (i := 20) (N := some 85) (v := ?_) (a' := ?_) #[true, true, true, true, false, false, true, true, true, true, true, false, false, false, true, true, true, true, false, false, true, false, false, false, false, false, false, false, false] rfl rfl (by kernel_rfl) (fun _ _ _ h => h) (Or.inl ⟨by rfl, ?_⟩) ?_ ?_
            rotate_left
            · intro w'
              go_simp
              with_reducible rfl
            rotate_left
            · simp only [Act.put, List.setIfInBounds_toArray, List.set_cons_zero, List.set_cons_succ, i64_w, i32_w]
              rfl
            refine pure_ (i := 21) (N := some 86) (v := ?_) (a' := ?_) #[true, true, true, true, false, false, true, true, true, true, true, false, false, false, true, true, true, true, false, false, true, true, false, false, false, false, false, false, false] rfl rfl (by kernel_rfl) (fun _ _ _ h => h) (Or.inl ⟨by rfl, ?_⟩) ?_ ?_
            rotate_left
            · intro w'
              go_simp
              with_reducible rfl
            rotate_left
            · simp only [Act.put, List.setIfInBounds_toArray, List.set_cons_zero, List.set_cons_succ, i64_w, i32_w]
              rfl
            refine pure_ (i := 22) (N := some 87) (v := ?_) (a' := ?_) #[true, true, true, true, false, false, true, true, true, true, true, false, false, false, true, true, true, true, false, false, true, true, true, false, false, false, false, false, false] rfl rfl (by kernel_rfl) (fun _ _ _ h => h) (Or.inl ⟨by rfl, ?_⟩) ?_ ?_
            rotate_left
            · intro w'
              go_simp
              with_reducible rfl
            rotate_left
            · simp only [Act.put, List.setIfInBounds_toArray, List.set_cons_zero, List.set_cons_succ, i64_w, i32_w]
              rfl
            refine pure_ (i := 23) (N := some 88) (v := ?_) (a' := ?_) #[true, true, true, true, false, false, true, true, true, true, true, false, false, false, true, true, true, true, false, false, true, true, true, true, false, false, false, false, false] rfl rfl (by kernel_rfl) (fun _ _ _ h => h) (Or.inl ⟨by rfl, ?_⟩) ?_ ?_
            rotate_left
            · intro w'
              go_simp
              with_reducible rfl
            rotate_left
            · simp only [Act.put, List.setIfInBounds_toArray, List.set_cons_zero, List.set_cons_succ, i64_w, i32_w]
              rfl
            refine pure_ (i := 24) (N := some 89) (v := ?_) (a' := ?_) #[true, true, true, true, false, false, true, true, true, true, true, false, false, false, true, true, true, true, false, false, true, true, true, true, true, false, false, false, false] rfl rfl (by kernel_rfl) (fun _ _ _ h => h) (Or.inl ⟨by rfl, ?_⟩) ?_ ?_
            rotate_left
            · intro w'
              go_simp
              with_reducible rfl
            rotate_left
            · simp only [Act.put, List.setIfInBounds_toArray, List.set_cons_zero, List.set_cons_succ, i64_w, i32_w]
              rfl
            refine take_ (i := 4) (N := some 69) (v := ?_) (a' := ?_) #[true, true, true, true, true, false, true, true, true, true, true, false, false, false, true, true, true, true, false, false, true, true, true, true, true, false, false, false, false] rfl rfl (by kernel_rfl) (fun _ _ _ h => h) (Or.inl ⟨by rfl, ?_⟩) hHeld ?_ ?_
            rotate_left
            · rintro w' ⟨s0, s1, s2, s3⟩
              go_simp
              with_reducible rfl
            rotate_left
            · simp only [Act.put, List.setIfInBounds_toArray, List.set_cons_zero, List.set_cons_succ, i64_w, i32_w]
              rfl
            refine pure_ (i := 5) (N := some 70) (v := ?_) (a' := ?_) #[true, true, true, true, true, true, true, true, true, true, true, false, false, false, true, true, true, true, false, false, true, true, true, true, true, false, false, false, false] rfl rfl (by kernel_rfl) (fun _ _ _ h => h) (Or.inl ⟨by rfl, ?_⟩) ?_ ?_
            rotate_left
            · intro w'
              go_simp
              with_reducible rfl
            rotate_left
            · simp only [Act.put, List.setIfInBounds_toArray, List.set_cons_zero, List.set_cons_succ, i64_w, i32_w]
              rfl
            refine take_ (i := 11) (N := some 76) (v := ?_) (a' := ?_) #[true, true, true, true, true, true, true, true, true, true, true, true, false, false, true, true, true, true, false, false, true, true, true, true, true, false, false, false, false] rfl rfl (by kernel_rfl) (fun _ _ _ h => h) (Or.inl ⟨by rfl, ?_⟩) hHeld ?_ ?_
            rotate_left
            · rintro w' ⟨s0, s1, s2, s3⟩
              go_simp
              with_reducible rfl
            rotate_left
            · simp only [Act.put, List.setIfInBounds_toArray, List.set_cons_zero, List.set_cons_succ, i64_w, i32_w]
              rfl
            refine pure_ (i := 12) (N := some 77) (v := ?_) (a' := ?_) #[true, true, true, true, true, true, true, true, true, true, true, true, true, false, true, true, true, true, false, false, true, true, true, true, true, false, false, false, false] rfl rfl (by kernel_rfl) (fun _ _ _ h => h) (Or.inl ⟨by rfl, ?_⟩) ?_ ?_
            rotate_left
            · intro w'
              go_simp
              with_reducible rfl
            rotate_left
            · simp only [Act.put, List.setIfInBounds_toArray, List.set_cons_zero, List.set_cons_succ, i64_w, i32_w]
              rfl
            refine pure_ (i := 13) (N := some 78) (v := ?_) (a' := ?_) #[true, true, true, true, true, true, true, true, true, true, true, true, true, true, true, true, true, true, false, false, true, true, true, true, true, false, false, false, false] rfl rfl (by kernel_rfl) (fun _ _ _ h => h) (Or.inl ⟨by rfl, ?_⟩) ?_ ?_
            rotate_left
            · intro w'
              go_simp
              with_reducible rfl
            rotate_left
            · simp only [Act.put, List.setIfInBounds_toArray, List.set_cons_zero, List.set_cons_succ, i64_w, i32_w]
              rfl
            refine take_ (i := 18) (N := some 83) (v := ?_) (a' := ?_) #[true, true, true, true, true, true, true, true, true, true, true, true, true, true, true, true, true, true, true, false, true, true, true, true, true, false, false, false, false] rfl rfl (by kernel_rfl) (fun _ _ _ h => h) (Or.inl ⟨by rfl, ?_⟩) hHeld ?_ ?_
            rotate_left
            · rintro w' ⟨s0, s1, s2, s3⟩
              go_simp
              with_reducible rfl
            rotate_left
            · simp only [Act.put, List.setIfInBounds_toArray, List.set_cons_zero, List.set_cons_succ, i64_w, i32_w]
              rfl
            refine pure_ (i := 19) (N := some 84) (v := ?_) (a' := ?_) #[true, true, true, true, true, true, true, true, true, true, true, true, true, true, true, true, true, true, true, true, true, true, true, true, true, false, false, false, false] rfl rfl (by kernel_rfl) (fun _ _ _ h => h) (Or.inl ⟨by rfl, ?_⟩) ?_ ?_
            rotate_left
            · intro w'
              go_simp
              with_reducible rfl
            rotate_left
            · simp only [Act.put, List.setIfInBounds_toArray, List.set_cons_zero, List.set_cons_succ, i64_w, i32_w]
              rfl
            refine take_ (i := 25) (N := some 90) (v := ?_) (a' := ?_) #[true, true, true, true, true, true, true, true, true, true, true, true, true, true, true, true, true, true, true, true, true, true, true, true, true, true, false, false, false] rfl rfl (by kernel_rfl) (fun _ _ _ h => h) (Or.inl ⟨by rfl, ?_⟩) hHeld ?_ ?_
            rotate_left
            · rintro w' ⟨s0, s1, s2, s3⟩
              go_simp
              with_reducible rfl
            rotate_left
            · simp only [Act.put, List.setIfInBounds_toArray, List.set_cons_zero, List.set_cons_succ, i64_w, i32_w]
              rfl
            refine pure_ (i := 26) (N := some 91) (v := ?_) (a' := ?_) #[true, true, true, true, true, true, true, true, true, true, true, true, true, true, true, true, true, true, true, true, true, true, true, true, true, true, true, false, false] rfl rfl (by kernel_rfl) (fun _ _ _ h => h) (Or.inl ⟨by rfl, ?_⟩) ?_ ?_
            rotate_left
            · intro w'
              go_simp
              with_reducible rfl
            rotate_left
            · simp only [Act.put, List.setIfInBounds_toArray, List.set_cons_zero, List.set_cons_succ, i64_w, i32_w]
              rfl
            refine pure_ (i := 27) (N := some 92) (v := ?_) (a' := ?_) #[true, true, true, true, true, true, true, true, true, true, true, true, true, true, true, true, true, true, true, true, true, true, true, true, true, true, true, true, false] rfl rfl (by kernel_rfl) (fun _ _ _ h => h) (Or.inl ⟨by rfl, ?_⟩) ?_ ?_
            rotate_left
            · intro w'
              go_simp
              with_reducible rfl
            rotate_left
            · simp only [Act.put, List.setIfInBounds_toArray, List.set_cons_zero, List.set_cons_succ, i64_w, i32_w]
              rfl
            refine pure_ (i := 28) (N := some 93) (v := ?_) (a' := ?_) #[true, true, true, true, true, true, true, true, true, true, true, true, true, true, true, true, true, true, true, true, true, true, true, true, true, true, true, true, true] rfl rfl (by kernel_rfl) (fun _ _ _ h => h) (Or.inl ⟨by rfl, ?_⟩) ?_ ?_
            rotate_left
            · intro w'
              go_simp
              with_reducible rfl
            rotate_left
            · simp only [Act.put, List.setIfInBounds_toArray, List.set_cons_zero, List.set_cons_succ, i64_w, i32_w]
              rfl
            refine done_ (by kernel_rfl) ?_
            go_wp2
            all_goals (try (exfalso; omega))
            all_goals go_roundw
            all_goals (try (case rel => exact ⟨j + 1 + 1, by go_num, by omega, by omega, by rw [HN1.out], ⟨(by repeat (first | (with_reducible first | exact HBR.out | apply below_alloc | apply pw_below_drewN | apply below_drew1) | exact HBR.out))⟩⟩))
            all_goals (try (case measure => (simp [intOf] <;> omega)))
          · have HN1 := Aside0.mk (show leastN M (j + 1 + 1) = m + 1 by rw [leastN, if_neg (fun h => hgap (by have := h.2; rw [HME.out, hga, hgb] at this; exact this)), HME.out])
            have hgd : decide (ga < gb) = false := decide_eq_false hgap
            clear hga hgb
            go_upto_region 16 with fail
            refine start_ (n := 29) (S := fun w' => w'.cell? (a3.add ((j + 1) * 2)) = some (.int .i64 p1) ∧ w'.cell? ⟨pj.block, pj.off + 1, none⟩ = some (.int .i64 q0) ∧ w'.cell? (a3.add ((m + 1) * 2)) = some (.int .i64 s1) ∧ w'.cell? ⟨pm.block, pm.off + 1, none⟩ = some (.int .i64 t0)) (ds := []) #[false, false, false, false, false, false, false, false, false, false, false, false, false, false, false, false, false, false, false, false, false, false, false, false, false, false, false, false, false] (by kernel_rfl) rfl rfl ⟨d1, d0, e1, e0⟩ (fun hHeld => ?_)
            refine pure_ (i := 0) (N := some 65) (v := ?_) (a' := ?_) #[true, false, false, false, false, false, false, false, false, false, false, false, false, false, false, false, false, false, false, false, false, false, false, false, false, false, false, false, false] rfl rfl (by kernel_rfl) (fun _ _ _ h => h) (Or.inl ⟨by rfl, ?_⟩) ?_ ?_
            rotate_left
            · intro w'
              go_simp
              with_reducible rfl
            rotate_left
            · simp only [Act.put, List.setIfInBounds_toArray, List.set_cons_zero, List.set_cons_succ, i64_w, i32_w]
              rfl
            refine pure_ (i := 1) (N := some 66) (v := ?_) (a' := ?_) #[true, true, false, false, false, false, false, false, false, false, false, false, false, false, false, false, false, false, false, false, false, false, false, false, false, false, false, false, false] rfl rfl (by kernel_rfl) (fun _ _ _ h => h) (Or.inl ⟨by rfl, ?_⟩) ?_ ?_
            rotate_left
            · intro w'
              go_simp
              with_reducible rfl
            rotate_left
            · simp only [Act.put, List.setIfInBounds_toArray, List.set_cons_zero, List.set_cons_succ, i64_w, i32_w]
              rfl
            refine pure_ (i := 2) (N := some 67) (v := ?_) (a' := ?_) #[true, true, true, false, false, false, false, false, false, false, false, false, false, false, false, false, false, false, false, false, false, false, false, false, false, false, false, false, false] rfl rfl (by kernel_rfl) (fun _ _ _ h => h) (Or.inl ⟨by rfl, ?_⟩) ?_ ?_
            rotate_left
            · intro w'
              go_simp
              with_reducible rfl
            rotate_left
            · simp only [Act.put, List.setIfInBounds_toArray, List.set_cons_zero, List.set_cons_succ, i64_w, i32_w]
              rfl
            refine pure_ (i := 3) (N := some 68) (v := ?_) (a' := ?_) #[true, true, true, true, false, false, false, false, false, false, false, false, false, false, false, false, false, false, false, false, false, false, false, false, false, false, false, false, false] rfl rfl (by kernel_rfl) (fun _ _ _ h => h) (Or.inl ⟨by rfl, ?_⟩) ?_ ?_
            rotate_left
            · intro w'
              go_simp
              with_reducible rfl
            rotate_left
            · simp only [Act.put, List.setIfInBounds_toArray, List.set_cons_zero, List.set_cons_succ, i64_w, i32_w]
              rfl
            refine pure_ (i := 6) (N := some 71) (v := ?_) (a' := ?_) #[true, true, true, true, false, false, true, false, false, false, false, false, false, false, false, false, false, false, false, false, false, false, false, false, false, false, false, false, false] rfl rfl (by kernel_rfl) (fun _ _ _ h => h) (Or.inl ⟨by rfl, ?_⟩) ?_ ?_
            rotate_left
            · intro w'
              go_simp
              with_reducible rfl
            rotate_left
            · simp only [Act.put, List.setIfInBounds_toArray, List.set_cons_zero, List.set_cons_succ, i64_w, i32_w]
              rfl
            refine pure_ (i := 7) (N := some 72) (v := ?_) (a' := ?_) #[true, true, true, true, false, false, true, true, false, false, false, false, false, false, false, false, false, false, false, false, false, false, false, false, false, false, false, false, false] rfl rfl (by kernel_rfl) (fun _ _ _ h => h) (Or.inl ⟨by rfl, ?_⟩) ?_ ?_
            rotate_left
            · intro w'
              go_simp
              with_reducible rfl
            rotate_left
            · simp only [Act.put, List.setIfInBounds_toArray, List.set_cons_zero, List.set_cons_succ, i64_w, i32_w]
              rfl
            refine pure_ (i := 8) (N := some 73) (v := ?_) (a' := ?_) #[true, true, true, true, false, false, true, true, true, false, false, false, false, false, false, false, false, false, false, false, false, false, false, false, false, false, false, false, false] rfl rfl (by kernel_rfl) (fun _ _ _ h => h) (Or.inl ⟨by rfl, ?_⟩) ?_ ?_
            rotate_left
            · intro w'
              go_simp
              with_reducible rfl
            rotate_left
            · simp only [Act.put, List.setIfInBounds_toArray, List.set_cons_zero, List.set_cons_succ, i64_w, i32_w]
              rfl
            refine pure_ (i := 9) (N := some 74) (v := ?_) (a' := ?_) #[true, true, true, true, false, false, true, true, true, true, false, false, false, false, false, false, false, false, false, false, false, false, false, false, false, false, false, false, false] rfl rfl (by kernel_rfl) (fun _ _ _ h => h) (Or.inl ⟨by rfl, ?_⟩) ?_ ?_
            rotate_left
            · intro w'
              go_simp
              with_reducible rfl
            rotate_left
            · simp only [Act.put, List.setIfInBounds_toArray, List.set_cons_zero, List.set_cons_succ, i64_w, i32_w]
              rfl
            refine pure_ (i := 10) (N := some 75) (v := ?_) (a' := ?_) #[true, true, true, true, false, false, true, true, true, true, true, false, false, false, false, false, false, false, false, false, false, false, false, false, false, false, false, false, false] rfl rfl (by kernel_rfl) (fun _ _ _ h => h) (Or.inl ⟨by rfl, ?_⟩) ?_ ?_
            rotate_left
            · intro w'
              go_simp
              with_reducible rfl
            rotate_left
            · simp only [Act.put, List.setIfInBounds_toArray, List.set_cons_zero, List.set_cons_succ, i64_w, i32_w]
              rfl
            refine pure_ (i := 14) (N := some 79) (v := ?_) (a' := ?_) #[true, true, true, true, false, false, true, true, true, true, true, false, false, false, true, false, false, false, false, false, false, false, false, false, false, false, false, false, false] rfl rfl (by kernel_rfl) (fun _ _ _ h => h) (Or.inl ⟨by rfl, ?_⟩) ?_ ?_
            rotate_left
            · intro w'
              go_simp
              with_reducible rfl
            rotate_left
            · simp only [Act.put, List.setIfInBounds_toArray, List.set_cons_zero, List.set_cons_succ, i64_w, i32_w]
              rfl
            refine pure_ (i := 15) (N := some 80) (v := ?_) (a' := ?_) #[true, true, true, true, false, false, true, true, true, true, true, false, false, false, true, true, false, false, false, false, false, false, false, false, false, false, false, false, false] rfl rfl (by kernel_rfl) (fun _ _ _ h => h) (Or.inl ⟨by rfl, ?_⟩) ?_ ?_
            rotate_left
            · intro w'
              go_simp
              with_reducible rfl
            rotate_left
            · simp only [Act.put, List.setIfInBounds_toArray, List.set_cons_zero, List.set_cons_succ, i64_w, i32_w]
              rfl
            refine pure_ (i := 16) (N := some 81) (v := ?_) (a' := ?_) #[true, true, true, true, false, false, true, true, true, true, true, false, false, false, true, true, true, false, false, false, false, false, false, false, false, false, false, false, false] rfl rfl (by kernel_rfl) (fun _ _ _ h => h) (Or.inl ⟨by rfl, ?_⟩) ?_ ?_
            rotate_left
            · intro w'
              go_simp
              with_reducible rfl
            rotate_left
            · simp only [Act.put, List.setIfInBounds_toArray, List.set_cons_zero, List.set_cons_succ, i64_w, i32_w]
              rfl
            refine pure_ (i := 17) (N := some 82) (v := ?_) (a' := ?_) #[true, true, true, true, false, false, true, true, true, true, true, false, false, false, true, true, true, true, false, false, false, false, false, false, false, false, false, false, false] rfl rfl (by kernel_rfl) (fun _ _ _ h => h) (Or.inl ⟨by rfl, ?_⟩) ?_ ?_
            rotate_left
            · intro w'
              go_simp
              with_reducible rfl
            rotate_left
            · simp only [Act.put, List.setIfInBounds_toArray, List.set_cons_zero, List.set_cons_succ, i64_w, i32_w]
              rfl
            refine pure_ (i := 20) (N := some 85) (v := ?_) (a' := ?_) #[true, true, true, true, false, false, true, true, true, true, true, false, false, false, true, true, true, true, false, false, true, false, false, false, false, false, false, false, false] rfl rfl (by kernel_rfl) (fun _ _ _ h => h) (Or.inl ⟨by rfl, ?_⟩) ?_ ?_
            rotate_left
            · intro w'
              go_simp
              with_reducible rfl
            rotate_left
            · simp only [Act.put, List.setIfInBounds_toArray, List.set_cons_zero, List.set_cons_succ, i64_w, i32_w]
              rfl
            refine pure_ (i := 21) (N := some 86) (v := ?_) (a' := ?_) #[true, true, true, true, false, false, true, true, true, true, true, false, false, false, true, true, true, true, false, false, true, true, false, false, false, false, false, false, false] rfl rfl (by kernel_rfl) (fun _ _ _ h => h) (Or.inl ⟨by rfl, ?_⟩) ?_ ?_
            rotate_left
            · intro w'
              go_simp
              with_reducible rfl
            rotate_left
            · simp only [Act.put, List.setIfInBounds_toArray, List.set_cons_zero, List.set_cons_succ, i64_w, i32_w]
              rfl
            refine pure_ (i := 22) (N := some 87) (v := ?_) (a' := ?_) #[true, true, true, true, false, false, true, true, true, true, true, false, false, false, true, true, true, true, false, false, true, true, true, false, false, false, false, false, false] rfl rfl (by kernel_rfl) (fun _ _ _ h => h) (Or.inl ⟨by rfl, ?_⟩) ?_ ?_
            rotate_left
            · intro w'
              go_simp
              with_reducible rfl
            rotate_left
            · simp only [Act.put, List.setIfInBounds_toArray, List.set_cons_zero, List.set_cons_succ, i64_w, i32_w]
              rfl
            refine pure_ (i := 23) (N := some 88) (v := ?_) (a' := ?_) #[true, true, true, true, false, false, true, true, true, true, true, false, false, false, true, true, true, true, false, false, true, true, true, true, false, false, false, false, false] rfl rfl (by kernel_rfl) (fun _ _ _ h => h) (Or.inl ⟨by rfl, ?_⟩) ?_ ?_
            rotate_left
            · intro w'
              go_simp
              with_reducible rfl
            rotate_left
            · simp only [Act.put, List.setIfInBounds_toArray, List.set_cons_zero, List.set_cons_succ, i64_w, i32_w]
              rfl
            refine pure_ (i := 24) (N := some 89) (v := ?_) (a' := ?_) #[true, true, true, true, false, false, true, true, true, true, true, false, false, false, true, true, true, true, false, false, true, true, true, true, true, false, false, false, false] rfl rfl (by kernel_rfl) (fun _ _ _ h => h) (Or.inl ⟨by rfl, ?_⟩) ?_ ?_
            rotate_left
            · intro w'
              go_simp
              with_reducible rfl
            rotate_left
            · simp only [Act.put, List.setIfInBounds_toArray, List.set_cons_zero, List.set_cons_succ, i64_w, i32_w]
              rfl
            refine take_ (i := 4) (N := some 69) (v := ?_) (a' := ?_) #[true, true, true, true, true, false, true, true, true, true, true, false, false, false, true, true, true, true, false, false, true, true, true, true, true, false, false, false, false] rfl rfl (by kernel_rfl) (fun _ _ _ h => h) (Or.inl ⟨by rfl, ?_⟩) hHeld ?_ ?_
            rotate_left
            · rintro w' ⟨s0, s1, s2, s3⟩
              go_simp
              with_reducible rfl
            rotate_left
            · simp only [Act.put, List.setIfInBounds_toArray, List.set_cons_zero, List.set_cons_succ, i64_w, i32_w]
              rfl
            refine pure_ (i := 5) (N := some 70) (v := ?_) (a' := ?_) #[true, true, true, true, true, true, true, true, true, true, true, false, false, false, true, true, true, true, false, false, true, true, true, true, true, false, false, false, false] rfl rfl (by kernel_rfl) (fun _ _ _ h => h) (Or.inl ⟨by rfl, ?_⟩) ?_ ?_
            rotate_left
            · intro w'
              go_simp
              with_reducible rfl
            rotate_left
            · simp only [Act.put, List.setIfInBounds_toArray, List.set_cons_zero, List.set_cons_succ, i64_w, i32_w]
              rfl
            refine take_ (i := 11) (N := some 76) (v := ?_) (a' := ?_) #[true, true, true, true, true, true, true, true, true, true, true, true, false, false, true, true, true, true, false, false, true, true, true, true, true, false, false, false, false] rfl rfl (by kernel_rfl) (fun _ _ _ h => h) (Or.inl ⟨by rfl, ?_⟩) hHeld ?_ ?_
            rotate_left
            · rintro w' ⟨s0, s1, s2, s3⟩
              go_simp
              with_reducible rfl
            rotate_left
            · simp only [Act.put, List.setIfInBounds_toArray, List.set_cons_zero, List.set_cons_succ, i64_w, i32_w]
              rfl
            refine pure_ (i := 12) (N := some 77) (v := ?_) (a' := ?_) #[true, true, true, true, true, true, true, true, true, true, true, true, true, false, true, true, true, true, false, false, true, true, true, true, true, false, false, false, false] rfl rfl (by kernel_rfl) (fun _ _ _ h => h) (Or.inl ⟨by rfl, ?_⟩) ?_ ?_
            rotate_left
            · intro w'
              go_simp
              with_reducible rfl
            rotate_left
            · simp only [Act.put, List.setIfInBounds_toArray, List.set_cons_zero, List.set_cons_succ, i64_w, i32_w]
              rfl
            refine pure_ (i := 13) (N := some 78) (v := ?_) (a' := ?_) #[true, true, true, true, true, true, true, true, true, true, true, true, true, true, true, true, true, true, false, false, true, true, true, true, true, false, false, false, false] rfl rfl (by kernel_rfl) (fun _ _ _ h => h) (Or.inl ⟨by rfl, ?_⟩) ?_ ?_
            rotate_left
            · intro w'
              go_simp
              with_reducible rfl
            rotate_left
            · simp only [Act.put, List.setIfInBounds_toArray, List.set_cons_zero, List.set_cons_succ, i64_w, i32_w]
              rfl
            refine take_ (i := 18) (N := some 83) (v := ?_) (a' := ?_) #[true, true, true, true, true, true, true, true, true, true, true, true, true, true, true, true, true, true, true, false, true, true, true, true, true, false, false, false, false] rfl rfl (by kernel_rfl) (fun _ _ _ h => h) (Or.inl ⟨by rfl, ?_⟩) hHeld ?_ ?_
            rotate_left
            · rintro w' ⟨s0, s1, s2, s3⟩
              go_simp
              with_reducible rfl
            rotate_left
            · simp only [Act.put, List.setIfInBounds_toArray, List.set_cons_zero, List.set_cons_succ, i64_w, i32_w]
              rfl
            refine pure_ (i := 19) (N := some 84) (v := ?_) (a' := ?_) #[true, true, true, true, true, true, true, true, true, true, true, true, true, true, true, true, true, true, true, true, true, true, true, true, true, false, false, false, false] rfl rfl (by kernel_rfl) (fun _ _ _ h => h) (Or.inl ⟨by rfl, ?_⟩) ?_ ?_
            rotate_left
            · intro w'
              go_simp
              with_reducible rfl
            rotate_left
            · simp only [Act.put, List.setIfInBounds_toArray, List.set_cons_zero, List.set_cons_succ, i64_w, i32_w]
              rfl
            refine take_ (i := 25) (N := some 90) (v := ?_) (a' := ?_) #[true, true, true, true, true, true, true, true, true, true, true, true, true, true, true, true, true, true, true, true, true, true, true, true, true, true, false, false, false] rfl rfl (by kernel_rfl) (fun _ _ _ h => h) (Or.inl ⟨by rfl, ?_⟩) hHeld ?_ ?_
            rotate_left
            · rintro w' ⟨s0, s1, s2, s3⟩
              go_simp
              with_reducible rfl
            rotate_left
            · simp only [Act.put, List.setIfInBounds_toArray, List.set_cons_zero, List.set_cons_succ, i64_w, i32_w]
              rfl
            refine pure_ (i := 26) (N := some 91) (v := ?_) (a' := ?_) #[true, true, true, true, true, true, true, true, true, true, true, true, true, true, true, true, true, true, true, true, true, true, true, true, true, true, true, false, false] rfl rfl (by kernel_rfl) (fun _ _ _ h => h) (Or.inl ⟨by rfl, ?_⟩) ?_ ?_
            rotate_left
            · intro w'
              go_simp
              with_reducible rfl
            rotate_left
            · simp only [Act.put, List.setIfInBounds_toArray, List.set_cons_zero, List.set_cons_succ, i64_w, i32_w]
              rfl
            refine pure_ (i := 27) (N := some 92) (v := ?_) (a' := ?_) #[true, true, true, true, true, true, true, true, true, true, true, true, true, true, true, true, true, true, true, true, true, true, true, true, true, true, true, true, false] rfl rfl (by kernel_rfl) (fun _ _ _ h => h) (Or.inl ⟨by rfl, ?_⟩) ?_ ?_
            rotate_left
            · intro w'
              go_simp
              with_reducible rfl
            rotate_left
            · simp only [Act.put, List.setIfInBounds_toArray, List.set_cons_zero, List.set_cons_succ, i64_w, i32_w]
              rfl
            refine pure_ (i := 28) (N := some 93) (v := ?_) (a' := ?_) #[true, true, true, true, true, true, true, true, true, true, true, true, true, true, true, true, true, true, true, true, true, true, true, true, true, true, true, true, true] rfl rfl (by kernel_rfl) (fun _ _ _ h => h) (Or.inl ⟨by rfl, ?_⟩) ?_ ?_
            rotate_left
            · intro w'
              go_simp
              with_reducible rfl
            rotate_left
            · simp only [Act.put, List.setIfInBounds_toArray, List.set_cons_zero, List.set_cons_succ, i64_w, i32_w]
              rfl
            refine done_ (by kernel_rfl) ?_
            go_wp2
            all_goals (try (exfalso; omega))
            all_goals go_roundw
            all_goals (try (case rel => exact ⟨j + 1 + 1, by go_num, by omega, by omega, by rw [HN1.out], ⟨(by repeat (first | (with_reducible first | exact HBR.out | apply below_alloc | apply pw_below_drewN | apply below_drew1) | exact HBR.out))⟩⟩))
            all_goals (try (case measure => (simp [intOf] <;> omega)))
        · obtain rfl : k = M.length := by omega
          have hp1 := leastN_pos M M.length
          have hp2 := leastN_lt M M.length
          obtain ⟨m, hme⟩ : ∃ m, leastN M M.length = m + 1 := ⟨leastN M M.length - 1, by omega⟩
          have HME := Aside0.mk (show leastN M 5 = m + 1 by rw [← hme, HM5.out])
          rw [hme] at hp1 hp2 ⊢
          clear hme
          have hml : m < M.length := by omega
          have hml1 : m + 1 < M.length := by omega
          have hmi2 : (m : Int) + 1 < (M.length : Int) := by omega
          have hmk : (m : Int) < (M.length : Int) := by omega
          have hm0 : (0 : Int) ≤ (m : Int) + 1 := by omega
          have hm2 : (m : Int) + 1 + 1 ≤ (M.length : Int) := by omega
          have hmc : (m : Int) ≤ (c3 : Int) := by omega
          have hm11 : m + 1 + 1 ≤ M.length := by omega
          obtain ⟨z0, hz0⟩ : ∃ y, M[m]? = some y := ⟨M[m], List.getElem?_eq_getElem hml⟩
          obtain ⟨z1, hz1⟩ : ∃ y, M[m + 1]? = some y := ⟨M[m + 1], List.getElem?_eq_getElem hml1⟩
          obtain ⟨s0, t0⟩ := z0
          obtain ⟨s1, t1⟩ := z1
          have HMZ := Aside0.mk (show (M.take m ++ [(s0, t1)]) ++ M.drop (m + 1 + 1) = M2 by rw [← HM2.out, HME.out]; exact (mergeI_eq hml1 hz0 hz1).symm)
          have hCr := Kd.C_below R3.out HBR.out
          have HT2 := Aside0.mk (show Kd.C kI wr (some a3) m (M.take m) by have := Kd.C_take hCr (Nat.le_of_lt hml); rwa [show (M.take m).length = m by rw [List.length_take]; omega] at this)
          have HD2 := Aside0.mk (show Kd.C kI wr (if c3 = m + 1 + 1 then some a3 else some (a3.add ((m + 1 + 1) * 2))) (M.length - (m + 1 + 1)) (M.drop (m + 1 + 1)) by have := Kd.C_drop (c := c3) hCr hm11 hle3; rwa [show (M.drop (m + 1 + 1)).length = M.length - (m + 1 + 1) from List.length_drop] at this)
          obtain ⟨AE, hAE⟩ : ∃ AE, (if c3 = m + 1 + 1 then some a3 else some (a3.add ((m + 1 + 1) * 2))) = AE := ⟨_, rfl⟩
          rw [hAE] at HD2
          have HCR := Aside0.mk hCr
          clear hCr
          have n_ := Aside0.mk (below_step HB.out HBR.out)
          clear HB
          have HBc2 := n_
          clear n_
          have HS2c2 := Aside0.mk (blk_below HS2.out HBR.out)
          clear HS0 HS2 qHS0_0 lHS0 qHS2_0 lHS2 fHS2 RR
          have hw3 : IntKind.i64.wrap (m : Int) = (m : Int) := by rw [i64_w]; exact wrap_small _ (by omega) (by omega)
          go_upto_region 20 with (first | ((with_reducible refine gate_builtin (b := .append) (xs := #[.tmp 95, .tmp 99]) rfl ?_); at_builtin; refine i_rows (w0 := wr) wr.heap.size rfl (.tmp 95) (.tmp 99) rfl (.slice none 0 0) [] (M.take m) (some a3) m c3 rfl rfl (IRow.nil_ _ _) HT2.out (Below.refl _ _) (Nat.le_refl _) (by simp only [List.length_nil]; omega) (M.take m) rfl ?_; intro v6 w6 r6 b6; have R6 := Aside0.mk r6; clear r6; have HBW2 := Aside0.mk b6; have HB := Aside0.mk (below_step HBc2.out HBW2.out); have HS2 := Aside0.mk (blk_below HS2c2.out HBW2.out); have qHS2_0 := blk_cell HS2.out 0; have lHS2 := blk_lt HS2.out; simp only [List.getElem?_toArray, List.getElem?_cons_zero, List.getElem?_cons_succ] at qHS2_0; have fHS2 := blk_frozen HS2.out 0; clear b6))
          obtain ⟨pm, hpm⟩ : ∃ pm, a3.add (m * 2) = pm := ⟨_, rfl⟩
          have e0 := (iv_at (Kd.C_below HCR.out HBW2.out) m _ hz0).1
          have e1 := (iv_at (Kd.C_below HCR.out HBW2.out) (m + 1) _ hz1).2
          simp only at e0 e1
          rw [hpm] at e0
          obtain ⟨pn, hpn⟩ : ∃ pn, a3.add ((m + 1) * 2) = pn := ⟨_, rfl⟩
          rw [hpn] at e1
          refine start_ (n := 16) (S := fun w' => w'.cell? pm = some (.int .i64 s0) ∧ w'.cell? ⟨pn.block, pn.off + 1, none⟩ = some (.int .i64 t1)) (ds := [13, 14]) #[false, false, false, false, false, false, false, false, false, false, false, false, false, false, false, false] (by kernel_rfl) rfl rfl ⟨e0, e1⟩ (fun hHeld => ?_)
          refine pure_ (i := 0) (N := some 101) (v := ?_) (a' := ?_) #[true, false, false, false, false, false, false, false, false, false, false, false, false, false, false, false] rfl rfl (by kernel_rfl) (fun _ _ _ h => h) (Or.inl ⟨by rfl, ?_⟩) ?_ ?_
          rotate_left
          · intro w'
            go_simp
            with_reducible rfl
          rotate_left
          · simp only [Act.put, List.setIfInBounds_toArray, List.set_cons_zero, List.set_cons_succ, i64_w, i32_w]
            rfl
          refine pure_ (i := 1) (N := some 102) (v := ?_) (a' := ?_) #[true, true, false, false, false, false, false, false, false, false, false, false, false, false, false, false] rfl rfl (by kernel_rfl) (fun _ _ _ h => h) (Or.inl ⟨by rfl, ?_⟩) ?_ ?_
          rotate_left
          · intro w'
            go_simp
            with_reducible rfl
          rotate_left
          · simp only [Act.put, List.setIfInBounds_toArray, List.set_cons_zero, List.set_cons_succ, i64_w, i32_w]
            rfl
          refine pure_ (i := 2) (N := some 103) (v := ?_) (a' := ?_) #[true, true, true, false, false, false, false, false, false, false, false, false, false, false, false, false] rfl rfl (by kernel_rfl) (fun _ _ _ h => h) (Or.inl ⟨by rfl, ?_⟩) ?_ ?_
          rotate_left
          · intro w'
            go_simp
            with_reducible rfl
          rotate_left
          · simp only [Act.put, List.setIfInBounds_toArray, List.set_cons_zero, List.set_cons_succ, i64_w, i32_w]
            rfl
          refine pure_ (i := 3) (N := some 104) (v := ?_) (a' := ?_) #[true, true, true, true, false, false, false, false, false, false, false, false, false, false, false, false] rfl rfl (by kernel_rfl) (fun _ _ _ h => h) (Or.inl ⟨by rfl, ?_⟩) ?_ ?_
          rotate_left
          · intro w'
            go_simp
            with_reducible rfl
          rotate_left
          · simp only [Act.put, List.setIfInBounds_toArray, List.set_cons_zero, List.set_cons_succ, i64_w, i32_w]
            rfl
          refine pure_ (i := 4) (N := some 105) (v := ?_) (a' := ?_) #[true, true, true, true, true, false, false, false, false, false, false, false, false, false, false, false] rfl rfl (by kernel_rfl) (fun _ _ _ h => h) (Or.inl ⟨by rfl, ?_⟩) ?_ ?_
          rotate_left
          · intro w'
            go_simp
            with_reducible rfl
          rotate_left
          · simp only [Act.put, List.setIfInBounds_toArray, List.set_cons_zero, List.set_cons_succ, i64_w, i32_w]
            rfl
          refine pure_ (i := 5) (N := some 106) (v := ?_) (a' := ?_) #[true, true, true, true, true, true, false, false, false, false, false, false, false, false, false, false] rfl rfl (by kernel_rfl) (fun _ _ _ h => h) (Or.inl ⟨by rfl, ?_⟩) ?_ ?_
          rotate_left
          · intro w'
            go_simp
            with_reducible rfl
          rotate_left
          · simp only [Act.put, List.setIfInBounds_toArray, List.set_cons_zero, List.set_cons_succ, i64_w, i32_w]
            rfl
          refine pure_ (i := 7) (N := some 108) (v := ?_) (a' := ?_) #[true, true, true, true, true, true, false, true, false, false, false, false, false, false, false, false] rfl rfl (by kernel_rfl) (fun _ _ _ h => h) (Or.inl ⟨by rfl, ?_⟩) ?_ ?_
          rotate_left
          · intro w'
            go_simp
            with_reducible rfl
          rotate_left
          · simp only [Act.put, List.setIfInBounds_toArray, List.set_cons_zero, List.set_cons_succ, i64_w, i32_w]
            rfl
          refine pure_ (i := 8) (N := some 109) (v := ?_) (a' := ?_) #[true, true, true, true, true, true, false, true, true, false, false, false, false, false, false, false] rfl rfl (by kernel_rfl) (fun _ _ _ h => h) (Or.inl ⟨by rfl, ?_⟩) ?_ ?_
          rotate_left
          · intro w'
            go_simp
            with_reducible rfl
          rotate_left
          · simp only [Act.put, List.setIfInBounds_toArray, List.set_cons_zero, List.set_cons_succ, i64_w, i32_w]
            rfl
          refine pure_ (i := 9) (N := some 110) (v := ?_) (a' := ?_) #[true, true, true, true, true, true, false, true, true, true, false, false, false, false, false, false] rfl rfl (by kernel_rfl) (fun _ _ _ h => h) (Or.inl ⟨by rfl, ?_⟩) ?_ ?_
          rotate_left
          · intro w'
            go_simp
            with_reducible rfl
          rotate_left
          · simp only [Act.put, List.setIfInBounds_toArray, List.set_cons_zero, List.set_cons_succ, i64_w, i32_w]
            rfl
          refine pure_ (i := 10) (N := some 111) (v := ?_) (a' := ?_) #[true, true, true, true, true, true, false, true, true, true, true, false, false, false, false, false] rfl rfl (by kernel_rfl) (fun _ _ _ h => h) (Or.inl ⟨by rfl, ?_⟩) ?_ ?_
          rotate_left
          · intro w'
            go_simp
            with_reducible rfl
          rotate_left
          · simp only [Act.put, List.setIfInBounds_toArray, List.set_cons_zero, List.set_cons_succ, i64_w, i32_w]
            rfl
          refine take_ (i := 6) (N := some 107) (v := ?_) (a' := ?_) #[true, true, true, true, true, true, true, true, true, true, true, false, false, false, false, false] rfl rfl (by kernel_rfl) (fun _ _ _ h => h) (Or.inl ⟨by rfl, ?_⟩) hHeld ?_ ?_
          rotate_left
          · rintro w' ⟨s0, s1⟩
            go_simp
            with_reducible rfl
          rotate_left
          · simp only [Act.put, List.setIfInBounds_toArray, List.set_cons_zero, List.set_cons_succ, i64_w, i32_w]
            rfl
          refine take_ (i := 11) (N := some 112) (v := ?_) (a' := ?_) #[true, true, true, true, true, true, true, true, true, true, true, true, false, false, false, false] rfl rfl (by kernel_rfl) (fun _ _ _ h => h) (Or.inl ⟨by rfl, ?_⟩) hHeld ?_ ?_
          rotate_left
          · rintro w' ⟨s0, s1⟩
            go_simp
            with_reducible rfl
          rotate_left
          · simp only [Act.put, List.setIfInBounds_toArray, List.set_cons_zero, List.set_cons_succ, i64_w, i32_w]
            rfl
          refine pure_ (i := 12) (N := some 113) (v := ?_) (a' := ?_) #[true, true, true, true, true, true, true, true, true, true, true, true, true, false, false, false] rfl rfl (by kernel_rfl) (fun _ _ _ h => h) (Or.inl ⟨by rfl, ?_⟩) ?_ ?_
          rotate_left
          · intro w'
            go_simp
            with_reducible rfl
          rotate_left
          · simp only [Act.put, List.setIfInBounds_toArray, List.set_cons_zero, List.set_cons_succ, i64_w, i32_w]
            rfl
          refine last_ (i := 13) (N := some 114) #[true, true, true, true, true, true, true, true, true, true, true, true, true, true, false, false] rfl rfl (by kernel_rfl) (by decide) (fun Kc hKc => ?_)
          refine value_ (w1 := ?_) (v := ?_) (by rfl) rfl ?_ ?_
          rotate_left 2
          · go_simp
            constructor
            · rfl
            · rfl
          refine hKc.out _ _ ?_
          clear hKc Kc
          refine norm_ (a' := ?_) ?_ ?_
          rotate_left
          · show Act.put _ (some 114) _ = _
            simp only [Act.put, List.setIfInBounds_toArray, List.set_cons_zero, List.set_cons_succ, i64_w, i32_w]
            rfl
          refine last_ (i := 14) (N := some 115) #[true, true, true, true, true, true, true, true, true, true, true, true, true, true, true, false] rfl rfl (by kernel_rfl) (by decide) (fun Kc hKc => ?_)
          refine i_one_step (w0 := wr) (W := w6.drew) (z := w6.heap.size) wr.heap.size (by rfl) (.tmp 101) (.tmp 114) (by rfl) v6 (M.take m) s0 t1 (by rfl) (by rfl) rfl (IRow.below R6.out (below_drew1 (Below.refl _ _))) (below_drew1 HBW2.out) HBW2.out.size (by rw [List.length_take]; omega) ?_
          intro v8 w8 r8 b8
          have R8 := Aside0.mk r8
          clear r8 R6
          clear HBW2 HB HS2 qHS2_0 lHS2 fHS2
          have HBW2 := Aside0.mk b8
          have HB := Aside0.mk (below_step HBc2.out HBW2.out)
          have HS2 := Aside0.mk (blk_below HS2c2.out HBW2.out)
          have qHS2_0 := blk_cell HS2.out 0
          have lHS2 := blk_lt HS2.out
          simp only [List.getElem?_toArray, List.getElem?_cons_zero, List.getElem?_cons_succ] at qHS2_0
          have fHS2 := blk_frozen HS2.out 0
          clear b8
          refine hKc.out _ _ ?_
          clear hKc Kc
          refine norm_ (a' := ?_) ?_ ?_
          rotate_left
          · show Act.put _ (some 115) _ = _
            simp only [Act.put, List.setIfInBounds_toArray, List.set_cons_zero, List.set_cons_succ, i64_w, i32_w]
            rfl
          refine pure_ (i := 15) (N := some 9) (v := ?_) (a' := ?_) #[true, true, true, true, true, true, true, true, true, true, true, true, true, true, true, true] rfl rfl (by kernel_rfl) (fun _ _ _ h => h) (Or.inl ⟨by rfl, ?_⟩) ?_ ?_
          rotate_left
          · intro w'
            go_simp
            with_reducible rfl
          rotate_left
          · simp only [Act.put, List.setIfInBounds_toArray, List.set_cons_zero, List.set_cons_succ, i64_w, i32_w]
            rfl
          refine done_ (by kernel_rfl) ?_
          go_wp2_with (first | ((with_reducible refine gate_builtin (b := .append) (xs := #[.tmp 116, .tmp 120]) rfl ?_); at_builtin; refine i_rows (w0 := wr) wr.heap.size rfl (.tmp 116) (.tmp 120) rfl v8 (M.take m ++ [(s0, t1)]) (M.drop (m + 1 + 1)) AE (M.length - (m + 1 + 1)) (c3 - (m + 1 + 1)) rfl (by simp [Act.eval, hAE]) R8.out (Kd.C_below HD2.out HBW2.out) HBW2.out HBW2.out.size (by simp only [List.length_append, List.length_take, List.length_cons, List.length_nil]; omega) M2 HMZ.out ?_; intro v9 w9 r9 b9; obtain ⟨A4, c4, rfl, hle4, hC4⟩ := IRow.reads r9; have RR4 := Aside0.mk r9; clear hC4 r9 R8; clear HBW2 HB HS2 qHS2_0 lHS2 fHS2; have HBW2 := Aside0.mk b9; have HB := Aside0.mk (below_step HBc2.out HBW2.out); have HS2 := Aside0.mk (blk_below HS2c2.out HBW2.out); have qHS2_0 := blk_cell HS2.out 0; have lHS2 := blk_lt HS2.out; simp only [List.getElem?_toArray, List.getElem?_cons_zero, List.getElem?_cons_succ] at qHS2_0; have fHS2 := blk_frozen HS2.out 0; clear b9))
          all_goals (try (exfalso; omega))
          refine bodyPost_ret (v := .agg #[.slice A4 M2.length c4]) (by simp [results, Try.results12, go_sem, World.cell?_setCell_same _ _ _ qHS2_0]) rfl ?_
          refine ⟨A4, c4, ?_, ?_, ?_, below_set HB.out (by omega)⟩
          all_goals rw [HE2.out]
          all_goals first | rfl | exact hle4 | exact IRow.set_C RR4.out HS2.out (by decide) _
end Go.Proofs.Ytoidaakmmnlhgaa.Hand
