/- The reference's arena: its methods. -/
import Derived.Test.YtdnpfnoobjbanaaHY
import Derived.Test.YtdnpfnoobjbanaaHZ
import Derived.Deep.DeepCutAuto
set_option linter.unusedVariables false
set_option linter.unusedSimpArgs false
namespace Go.Proofs.Ytdnpfnoobjbanaa.Hand
open Go.RowKit Go.Proofs.Ytdnpfnoobjbanaa.PArenaPlays Go.Proofs.YtdnpfnoobjbanaaW.PrintWords Go.Proofs.YtdnpfnoobjbanaaW.PrintLast Go.Proofs.YtdnpfnoobjbanaaW.PrintMore
theorem sumOf_take (bs : List S77) (i : Nat) (hi : i < bs.length) : sumOf (bs.take (i + 1)) = sumOf (bs.take i) + (bk bs i).f1 := by
  rw [List.take_succ_eq_append_getElem hi, sumOf_app]
  simp [sumOf, bk, hi]
theorem liveOf_take (bs : List S77) (i : Nat) (hi : i < bs.length) : liveOf (bs.take (i + 1)) = liveOf (bs.take i) + (if (bk bs i).f1 ≤ 0 then 0 else 1) := by
  rw [List.take_succ_eq_append_getElem hi, liveOf_app]
  simp [liveOf, bk, hi]
theorem liveOf_le : ∀ bs : List S77, liveOf bs ≤ bs.length
  | [] => by simp [liveOf]
  | b :: r => by
    have := liveOf_le r
    simp only [liveOf, List.length_cons]
    split <;> omega
set_option maxHeartbeats 1000000 in
set_option maxRecDepth 100000 in
theorem rc_charged {W : World} {g : Nat} {cap lim : Int} {bs : List S77} (h : RX W g cap lim bs) (hg : Good bs) : Calls Try.prog 30 #[.pointer (some ⟨g, 0, none⟩)] W fun e w' => e = .returned (.int .i64 (sumOf bs : Int)) ∧ w' = W := by
  have HB := Aside0.mk (Below.refl W.heap.size W)
  obtain ⟨v, h⟩ := h
  have h5 := h.1
  have q0 := blk_cell h5 0
  have q1 := blk_cell h5 1
  have q2 := blk_cell h5 2
  have f1 := blk_frozen h5 1
  have f2 := blk_frozen h5 2
  have hlt := h.lt
  simp only [List.getElem?_toArray, List.getElem?_cons_zero, List.getElem?_cons_succ] at q0 q1 q2
  have hlen := hg.len
  obtain ⟨A, c, hv⟩ := h.val
  rw [hv] at q2
  have H := Aside0.mk h
  have HV := Aside0.mk hv
  have HG := Aside0.mk hg
  clear h h5 hv hg
  go_enter Try.func30, Try.ntmps30
  go_wp2
  go_loop [3, 4] (fun s i => ∃ k : Nat, k ≤ bs.length ∧ i = .int .i64 k ∧ s = .int .i64 (sumOf (bs.take k) : Int)) (fun _ i => bs.length - (intOf i).toNat)
  case atStart => exact ⟨0, Nat.zero_le _, rfl, by simp [sumOf]⟩
  case round =>
    obtain ⟨k, hk, rfl, rfl⟩ := hrel
    by_cases hlt3 : k < bs.length
    · obtain ⟨gb, cb, hbv, hcc, hff, hne, hlt2, hge, _⟩ := H.out.elem k hlt3
      rw [HV.out] at hbv
      injection hbv with z1 z2 z3
      subst z1 z3
      clear z2
      have e1 := hcc 1 _ rfl
      have e2 := hcc 2 _ rfl
      clear hcc hff
      have hO := HG.out.ok _ (bk_mem hlt3)
      have hS := HG.out.sum
      have hst := Aside0.mk (sumOf_take bs k hlt3)
      have hs0 := sumOf_bd (bs.take k) (fun b hb => HG.out.ok b (List.mem_of_mem_take hb))
      have hs1 : (bs.take k).length ≤ 4096 := by rw [List.length_take]; omega
      by_cases hb : 0 < (bk bs k).f1
      · have hdb : decide (0 < (bk bs k).f1) = true := by simp; omega
        go_wp2
        all_goals go_round
        all_goals (try (case rel => exact ⟨k + 1, by omega, by go_num, by rw [hst.out]⟩))
        all_goals (try (case measure => (simp [intOf] <;> omega)))
      · have hdb : decide (0 < (bk bs k).f1) = false := by simp; omega
        go_wp2
        all_goals go_round
        all_goals (try (case rel => exact ⟨k + 1, by omega, by go_num, by rw [hst.out, show (bk bs k).f1 = 0 by omega, Int.add_zero]⟩))
        all_goals (try (case measure => (simp [intOf] <;> omega)))
    · obtain rfl : k = bs.length := by omega
      rw [List.take_length]
      go_wp2
      go_ret
      exact ⟨rfl, rfl⟩
set_option maxHeartbeats 1000000 in
set_option maxRecDepth 100000 in
theorem rc_live {W : World} {g : Nat} {cap lim : Int} {bs : List S77} (h : RX W g cap lim bs) (hg : Good bs) : Calls Try.prog 31 #[.pointer (some ⟨g, 0, none⟩)] W fun e w' => e = .returned (.int .i64 (liveOf bs : Int)) ∧ w' = W := by
  have HB := Aside0.mk (Below.refl W.heap.size W)
  obtain ⟨v, h⟩ := h
  have h5 := h.1
  have q0 := blk_cell h5 0
  have q1 := blk_cell h5 1
  have q2 := blk_cell h5 2
  have f1 := blk_frozen h5 1
  have f2 := blk_frozen h5 2
  have hlt := h.lt
  simp only [List.getElem?_toArray, List.getElem?_cons_zero, List.getElem?_cons_succ] at q0 q1 q2
  have hlen := hg.len
  obtain ⟨A, c, hv⟩ := h.val
  rw [hv] at q2
  have H := Aside0.mk h
  have HV := Aside0.mk hv
  have HG := Aside0.mk hg
  clear h h5 hv hg
  go_enter Try.func31, Try.ntmps31
  go_wp2
  go_loop [3, 4] (fun s i => ∃ k : Nat, k ≤ bs.length ∧ i = .int .i64 k ∧ s = .int .i64 (liveOf (bs.take k) : Int)) (fun _ i => bs.length - (intOf i).toNat)
  case atStart => exact ⟨0, Nat.zero_le _, rfl, by simp [liveOf]⟩
  case round =>
    obtain ⟨k, hk, rfl, rfl⟩ := hrel
    by_cases hlt3 : k < bs.length
    · obtain ⟨gb, cb, hbv, hcc, hff, hne, hlt2, hge, _⟩ := H.out.elem k hlt3
      rw [HV.out] at hbv
      injection hbv with z1 z2 z3
      subst z1 z3
      clear z2
      have e1 := hcc 1 _ rfl
      have e2 := hcc 2 _ rfl
      clear hcc hff
      have hO := HG.out.ok _ (bk_mem hlt3)
      have hst := Aside0.mk (liveOf_take bs k hlt3)
      have hs0 := liveOf_le (bs.take k)
      have hs1 : (bs.take k).length ≤ 4096 := by rw [List.length_take]; omega
      by_cases hb : 0 < (bk bs k).f1
      · have hdb : decide (0 < (bk bs k).f1) = true := by simp; omega
        go_wp2
        all_goals go_round
        all_goals (try (case rel => exact ⟨k + 1, by omega, by go_num, by rw [hst.out, if_neg (by omega)]; go_num⟩))
        all_goals (try (case measure => (simp [intOf] <;> omega)))
      · have hdb : decide (0 < (bk bs k).f1) = false := by simp; omega
        go_wp2
        all_goals go_round
        all_goals (try (case rel => exact ⟨k + 1, by omega, by go_num, by rw [hst.out, if_pos (by omega), Nat.add_zero]⟩))
        all_goals (try (case measure => (simp [intOf] <;> omega)))
    · obtain rfl : k = bs.length := by omega
      rw [List.take_length]
      go_wp2
      go_ret
      exact ⟨rfl, rfl⟩
set_option maxHeartbeats 1000000 in
set_option maxRecDepth 100000 in
theorem rl_far {W : World} {g : Nat} {cap lim : Int} {bs : List S77} (h : RX W g cap lim bs) (hg : Good bs) (i : Nat) (gen : Int) (hi : bs.length ≤ i) (hi2 : i ≤ 4294967295) : Calls Try.prog 39 #[.pointer (some ⟨g, 0, none⟩), .agg #[.int .u32 (i : Int), .int .u32 gen]] W fun e w' => e = .returned (.bool false) ∧ Below W.heap.size W w' := by
  have HB := Aside0.mk (Below.refl W.heap.size W)
  obtain ⟨v, h⟩ := h
  have h5 := h.1
  obtain ⟨A, c, rfl⟩ := h.val
  have q0 := blk_cell h5 0
  have q1 := blk_cell h5 1
  have q2 := blk_cell h5 2
  have f1 := blk_frozen h5 1
  have f2 := blk_frozen h5 2
  have hlt := h.lt
  simp only [List.getElem?_toArray, List.getElem?_cons_zero, List.getElem?_cons_succ] at q0 q1 q2
  have hlen := hg.len
  clear h h5 hg
  have hz : decide (i < bs.length) = false := by simp; omega
  go_enter Try.func39, Try.ntmps39
  go_wp2
  go_quiet (fail)
  go_wp2
  go_ret
  exact ⟨rfl, (by repeat (first | (with_reducible first | exact HB.out | apply below_alloc | apply pw_below_drewN | apply below_drew1) | exact HB.out))⟩
set_option maxHeartbeats 1000000 in
set_option maxRecDepth 100000 in
theorem rl_dead {W : World} {g : Nat} {cap lim : Int} {bs : List S77} (h : RX W g cap lim bs) (hg : Good bs) (i : Nat) (gen : Int) (hi : i < bs.length) (hd : (bk bs i).f1 ≤ 0) : Calls Try.prog 39 #[.pointer (some ⟨g, 0, none⟩), .agg #[.int .u32 (i : Int), .int .u32 gen]] W fun e w' => e = .returned (.bool false) ∧ Below W.heap.size W w' := by
  have HB := Aside0.mk (Below.refl W.heap.size W)
  obtain ⟨v, h⟩ := h
  have h5 := h.1
  have q0 := blk_cell h5 0
  have q1 := blk_cell h5 1
  have q2 := blk_cell h5 2
  have f1 := blk_frozen h5 1
  have f2 := blk_frozen h5 2
  have hlt := h.lt
  simp only [List.getElem?_toArray, List.getElem?_cons_zero, List.getElem?_cons_succ] at q0 q1 q2
  have hlen := hg.len
  obtain ⟨gb, cb, hbv, hcc, hff, hne, hlt2, hge, csb, hcb⟩ := h.elem i hi
  have e0 := hcc 0 _ rfl
  have e1 := hcc 1 _ rfl
  have e2 := hcc 2 _ rfl
  have e3 := hcc 3 _ rfl
  rw [Nat.add_zero] at e0
  subst hbv
  have hdi : decide ((i : Int) < (bs.length : Int)) = true := by simp; omega
  generalize bk bs i = b at *
  clear h h5 hg hcc hff
  have hdb : decide (0 < b.f1) = false := by simp; omega
  go_enter Try.func39, Try.ntmps39
  go_wp2
  go_quiet (fail)
  go_wp2
  go_ret
  exact ⟨rfl, (by repeat (first | (with_reducible first | exact HB.out | apply below_alloc | apply pw_below_drewN | apply below_drew1) | exact HB.out))⟩
set_option maxHeartbeats 1000000 in
set_option maxRecDepth 100000 in
theorem rl_old {W : World} {g : Nat} {cap lim : Int} {bs : List S77} (h : RX W g cap lim bs) (hg : Good bs) (i : Nat) (gen : Int) (hi : i < bs.length) (hd : 0 < (bk bs i).f1) (hgn : (bk bs i).f0 ≠ gen) : Calls Try.prog 39 #[.pointer (some ⟨g, 0, none⟩), .agg #[.int .u32 (i : Int), .int .u32 gen]] W fun e w' => e = .returned (.bool false) ∧ Below W.heap.size W w' := by
  have HB := Aside0.mk (Below.refl W.heap.size W)
  obtain ⟨v, h⟩ := h
  have h5 := h.1
  have q0 := blk_cell h5 0
  have q1 := blk_cell h5 1
  have q2 := blk_cell h5 2
  have f1 := blk_frozen h5 1
  have f2 := blk_frozen h5 2
  have hlt := h.lt
  simp only [List.getElem?_toArray, List.getElem?_cons_zero, List.getElem?_cons_succ] at q0 q1 q2
  have hlen := hg.len
  obtain ⟨gb, cb, hbv, hcc, hff, hne, hlt2, hge, csb, hcb⟩ := h.elem i hi
  have e0 := hcc 0 _ rfl
  have e1 := hcc 1 _ rfl
  have e2 := hcc 2 _ rfl
  have e3 := hcc 3 _ rfl
  rw [Nat.add_zero] at e0
  subst hbv
  have hdi : decide ((i : Int) < (bs.length : Int)) = true := by simp; omega
  generalize bk bs i = b at *
  clear h h5 hg hcc hff
  have hdb : decide (0 < b.f1) = true := by simp; omega
  have hgb : (b.f0 == gen) = false := beq_eq_false_iff_ne.2 hgn
  clear hgn
  go_enter Try.func39, Try.ntmps39
  go_wp2
  go_quiet (fail)
  go_wp2
  go_ret
  exact ⟨rfl, (by repeat (first | (with_reducible first | exact HB.out | apply below_alloc | apply pw_below_drewN | apply below_drew1) | exact HB.out))⟩
set_option maxHeartbeats 1000000 in
set_option maxRecDepth 100000 in
theorem rl_yes {W : World} {g : Nat} {cap lim : Int} {bs : List S77} (h : RX W g cap lim bs) (hg : Good bs) (i : Nat) (gen : Int) (hi : i < bs.length) (hd : 0 < (bk bs i).f1) (hgn : (bk bs i).f0 = gen) : Calls Try.prog 39 #[.pointer (some ⟨g, 0, none⟩), .agg #[.int .u32 (i : Int), .int .u32 gen]] W fun e w' => e = .returned (.bool true) ∧ Below W.heap.size W w' := by
  have HB := Aside0.mk (Below.refl W.heap.size W)
  obtain ⟨v, h⟩ := h
  have h5 := h.1
  have q0 := blk_cell h5 0
  have q1 := blk_cell h5 1
  have q2 := blk_cell h5 2
  have f1 := blk_frozen h5 1
  have f2 := blk_frozen h5 2
  have hlt := h.lt
  simp only [List.getElem?_toArray, List.getElem?_cons_zero, List.getElem?_cons_succ] at q0 q1 q2
  have hlen := hg.len
  obtain ⟨gb, cb, hbv, hcc, hff, hne, hlt2, hge, csb, hcb⟩ := h.elem i hi
  have e0 := hcc 0 _ rfl
  have e1 := hcc 1 _ rfl
  have e2 := hcc 2 _ rfl
  have e3 := hcc 3 _ rfl
  rw [Nat.add_zero] at e0
  subst hbv
  have hdi : decide ((i : Int) < (bs.length : Int)) = true := by simp; omega
  generalize bk bs i = b at *
  clear h h5 hg hcc hff
  have hdb : decide (0 < b.f1) = true := by simp; omega
  have hgb : (b.f0 == gen) = true := beq_iff_eq.2 hgn
  clear hgn
  go_enter Try.func39, Try.ntmps39
  go_wp2
  go_quiet (fail)
  go_wp2
  go_ret
  exact ⟨rfl, (by repeat (first | (with_reducible first | exact HB.out | apply below_alloc | apply pw_below_drewN | apply below_drew1) | exact HB.out))⟩
theorem rc_lives {W : World} {g : Nat} {cap lim : Int} {bs : List S77} (h : RX W g cap lim bs) (hg : Good bs) (i : Nat) (gen : Int) (hi : i ≤ 4294967295) : Calls Try.prog 39 #[.pointer (some ⟨g, 0, none⟩), .agg #[.int .u32 (i : Int), .int .u32 gen]] W fun e w' => e = .returned (.bool (livesB bs i gen)) ∧ Below W.heap.size W w' := by
  unfold livesB
  by_cases h1 : i < bs.length
  · by_cases h2 : 0 < (bk bs i).f1
    · by_cases h3 : (bk bs i).f0 = gen
      · simp only [h1, h2, h3, decide_true, Bool.and_self, beq_self_eq_true]
        exact rl_yes h hg i gen h1 h2 h3
      · have h4 : ((bk bs i).f0 == gen) = false := beq_eq_false_iff_ne.2 h3
        simp only [h4, Bool.and_false]
        exact rl_old h hg i gen h1 h2 h3
    · simp only [h2, decide_false, Bool.false_and, Bool.and_false]
      exact rl_dead h hg i gen h1 (by omega)
  · simp only [h1, decide_false, Bool.false_and]
    exact rl_far h hg i gen (by omega) hi
end Go.Proofs.Ytdnpfnoobjbanaa.Hand
