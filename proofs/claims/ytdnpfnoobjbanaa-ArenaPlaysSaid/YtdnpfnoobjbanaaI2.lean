/- The reference's arena: New, Get, Put, Free, SetLimit, Fits. -/
import Derived.Test.YtdnpfnoobjbanaaI1
set_option linter.unusedVariables false
set_option linter.unusedSimpArgs false
namespace Go.Proofs.Ytdnpfnoobjbanaa.Hand
open Go.RowKit Go.Proofs.Ytdnpfnoobjbanaa.PArenaPlays Go.Proofs.YtdnpfnoobjbanaaW.PrintWords Go.Proofs.YtdnpfnoobjbanaaW.PrintLast Go.Proofs.YtdnpfnoobjbanaaW.PrintMore
set_option maxHeartbeats 1000000 in
set_option maxRecDepth 100000 in
theorem rg_no {W : World} {g : Nat} {cap lim : Int} {bs : List S77} (h : RX W g cap lim bs) (hg : Good bs) (i : Nat) (gen : Int) (hi2 : i ≤ 4294967295) (hlb : livesB bs i gen = false) : Calls Try.prog 23 #[.pointer (some ⟨g, 0, none⟩), .agg #[.int .u32 (i : Int), .int .u32 gen]] W fun e w' => e = .returned (.tuple #[.string ⟨#[]⟩, .bool false]) ∧ Below W.heap.size W w' := by
  have HB := Aside0.mk (Below.refl W.heap.size W)
  obtain ⟨v, h⟩ := h
  have h5 := h.1
  obtain ⟨A, c, rfl⟩ := h.val
  have q0 := blk_cell h5 0
  have q1 := blk_cell h5 1
  have q2 := blk_cell h5 2
  have f1 := blk_frozen h5 1
  have f2 := blk_frozen h5 2
  have hlt := h.lt
  simp only [List.getElem?_toArray, List.getElem?_cons_zero, List.getElem?_cons_succ] at q0 q1 q2
  have hlen := hg.len
  have H := Aside0.mk h
  have HG := Aside0.mk hg
  have HLB := Aside0.mk hlb
  clear h h5 hg hlb
  go_enter Try.func23, Try.ntmps23
  go_wp2_with (first | (go_at_call 39; (with_reducible refine (rc_lives (RV.rx (H.out.below (by repeat (first | (with_reducible first | exact HB.out | apply below_alloc | apply pw_below_drewN | apply below_drew1) | exact HB.out)))) HG.out i gen hi2).mono ?_); rintro e w1 ⟨rfl, hb⟩; rw [HLB.out]; have B4 := Aside0.mk (blk_below (o := .cells #[.int .u32 (i : Int), .int .u32 gen] 54 (0, 0)) (g := W.heap.size) (by repeat (first | (with_reducible refine blk_drewN ?_ _) | (with_reducible refine blk_drew ?_) | exact blk_new' (by first | rfl | simp) | (with_reducible refine blk_alloc ?_ _))) hb); have n0_ := Aside0.mk (below_step (by repeat (first | (with_reducible first | exact HB.out | apply below_alloc | apply pw_below_drewN | apply below_drew1) | exact HB.out)) hb); clear HB; have HB := n0_; clear n0_; clear q0 q1 q2 f1 f2 hlt; have HA := Aside0.mk (H.out.below HB.out); have q0 := blk_cell HA.out.1 0; have q1 := blk_cell HA.out.1 1; have q2 := blk_cell HA.out.1 2; have f2 := blk_frozen HA.out.1 2; have hlt := HA.out.lt; have y0 := blk_cell B4.out 0; have y1 := blk_cell B4.out 1; have y4 := blk_lt B4.out; simp only [List.getElem?_toArray, List.getElem?_cons_zero, List.getElem?_cons_succ] at q0 q1 q2 y0 y1; clear hb))
  go_ret2
  exact ⟨rfl, (by repeat (first | (with_reducible first | exact HB.out | apply below_alloc | apply pw_below_drewN | apply below_drew1) | exact HB.out))⟩
set_option maxHeartbeats 1000000 in
set_option maxRecDepth 100000 in
theorem rg_yes {W : World} {g : Nat} {cap lim : Int} {bs : List S77} (h : RX W g cap lim bs) (hg : Good bs) (i : Nat) (gen : Int) (hi2 : i ≤ 4294967295) (hlb : livesB bs i gen = true) (s : ByteArray) (hs : (bk bs i).f2 = s) : Calls Try.prog 23 #[.pointer (some ⟨g, 0, none⟩), .agg #[.int .u32 (i : Int), .int .u32 gen]] W fun e w' => e = .returned (.tuple #[.string s, .bool true]) ∧ Below W.heap.size W w' := by
  obtain ⟨hi, hL⟩ : i < bs.length ∧ 0 < (bk bs i).f1 := by have := (lives_iff _ _ _).1 hlb; exact ⟨this.1, this.2.1⟩
  have hgn : (bk bs i).f0 = gen := ((lives_iff _ _ _).1 hlb).2.2
  have HB := Aside0.mk (Below.refl W.heap.size W)
  obtain ⟨v, h⟩ := h
  have h5 := h.1
  have q0 := blk_cell h5 0
  have q1 := blk_cell h5 1
  have q2 := blk_cell h5 2
  have f1 := blk_frozen h5 1
  have f2 := blk_frozen h5 2
  have hlt := h.lt
  simp only [List.getElem?_toArray, List.getElem?_cons_zero, List.getElem?_cons_succ] at q0 q1 q2
  have hlen := hg.len
  obtain ⟨gb, cb, hbv, hcc, hff, hne, hlt2, hge, csb, hcb⟩ := h.elem i hi
  have e0 := hcc 0 _ rfl
  have e1 := hcc 1 _ rfl
  have e2 := hcc 2 _ rfl
  have e3 := hcc 3 _ rfl
  rw [Nat.add_zero] at e0
  rw [hgn] at e0
  have hdb : decide (0 < (bk bs i).f1) = true := by simp; omega
  rw [hdb] at e1
  subst hbv
  have H := Aside0.mk h
  have HG := Aside0.mk hg
  have HLB := Aside0.mk hlb
  have HCB := Aside0.mk hcb
  have il : (i : Int) ≤ 4096 := by omega
  rw [hs] at e3
  clear hs
  clear h h5 hg hlb hcc hff hcb hdb hgn hL
  go_enter Try.func23, Try.ntmps23
  go_wp2_with (first | (go_at_call 39; (with_reducible refine (rc_lives (RV.rx (H.out.below (by repeat (first | (with_reducible first | exact HB.out | apply below_alloc | apply pw_below_drewN | apply below_drew1) | exact HB.out)))) HG.out i gen hi2).mono ?_); rintro e w1 ⟨rfl, hb⟩; rw [HLB.out]; have B4 := Aside0.mk (blk_below (o := .cells #[.int .u32 (i : Int), .int .u32 gen] 54 (0, 0)) (g := W.heap.size) (by repeat (first | (with_reducible refine blk_drewN ?_ _) | (with_reducible refine blk_drew ?_) | exact blk_new' (by first | rfl | simp) | (with_reducible refine blk_alloc ?_ _))) hb); have n0_ := Aside0.mk (below_step (by repeat (first | (with_reducible first | exact HB.out | apply below_alloc | apply pw_below_drewN | apply below_drew1) | exact HB.out)) hb); clear HB; have HB := n0_; clear n0_; clear q0 q1 q2 f1 f2 hlt; have HA := Aside0.mk (H.out.below HB.out); have q0 := blk_cell HA.out.1 0; have q1 := blk_cell HA.out.1 1; have q2 := blk_cell HA.out.1 2; have f2 := blk_frozen HA.out.1 2; have hlt := HA.out.lt; have y0 := blk_cell B4.out 0; have y1 := blk_cell B4.out 1; have y4 := blk_lt B4.out; simp only [List.getElem?_toArray, List.getElem?_cons_zero, List.getElem?_cons_succ] at q0 q1 q2 y0 y1; have z0 := pw_cell_below HB.out e0; have z1 := pw_cell_below HB.out e1; have z2 := pw_cell_below HB.out e2; have z3 := pw_cell_below HB.out e3; have BB := Aside0.mk (blk_below HCB.out HB.out); have zf0 := blk_frozen BB.out (i * 4); have zf1 := blk_frozen BB.out (i * 4 + 1); have zf2 := blk_frozen BB.out (i * 4 + 2); have zf3 := blk_frozen BB.out (i * 4 + 3); have lb := blk_lt BB.out; have x1 : W.heap.size ≠ g := blk_ne B4.out HA.out.1 (by decide); have x2 : W.heap.size ≠ gb := blk_ne B4.out BB.out (by decide); have x3 : gb ≠ g := blk_ne BB.out HA.out.1 (by decide); have x4 : g ≠ gb := (fun e => x3 e.symm); have x5 : g ≠ W.heap.size := (fun e => x1 e.symm); have x6 : gb ≠ W.heap.size := (fun e => x2 e.symm); clear e0 e1 e2 e3; clear hb))
  go_quiet (fail)
  go_wp2
  go_ret2
  exact ⟨rfl, (by repeat (first | (with_reducible first | exact HB.out | apply below_alloc | apply pw_below_drewN | apply below_drew1) | exact HB.out))⟩
theorem r_get {W : World} {g : Nat} {cap lim : Int} {bs : List S77} (h : RX W g cap lim bs) (hg : Good bs) (i : Nat) (gen : Int) (hi2 : i ≤ 4294967295) : Calls Try.prog 23 #[.pointer (some ⟨g, 0, none⟩), .agg #[.int .u32 (i : Int), .int .u32 gen]] W fun e w' => e = .returned (.tuple #[.string (getE bs i gen), .bool (livesB bs i gen)]) ∧ Below W.heap.size W w' := by
  unfold getE
  cases hlb : livesB bs i gen
  · rw [if_neg (by simp)]
    exact rg_no h hg i gen hi2 hlb
  · rw [if_pos rfl]
    exact rg_yes h hg i gen hi2 hlb _ rfl
set_option maxHeartbeats 1000000 in
set_option maxRecDepth 100000 in
theorem rs_low {W : World} {g : Nat} {cap lim : Int} {bs : List S77} (h : RX W g cap lim bs) (hg : Good bs) (n : Int) (hn : n < 0) : Calls Try.prog 27 #[.pointer (some ⟨g, 0, none⟩), .int .i64 n] W fun e w' => e = .returned (.int .i64 1) ∧ RX w' g cap lim bs ∧ FR g W w' := by
  have HB := Aside0.mk (Below.refl W.heap.size W)
  obtain ⟨v, h⟩ := h
  have h5 := h.1
  obtain ⟨A, c, rfl⟩ := h.val
  have q0 := blk_cell h5 0
  have q1 := blk_cell h5 1
  have q2 := blk_cell h5 2
  have f1 := blk_frozen h5 1
  have f2 := blk_frozen h5 2
  have hlt := h.lt
  simp only [List.getElem?_toArray, List.getElem?_cons_zero, List.getElem?_cons_succ] at q0 q1 q2
  have hlen := hg.len
  have H := Aside0.mk h
  have HG := Aside0.mk hg
  clear h h5 hg
  have z0 : decide (n < 0) = true := by simp; omega
  go_enter Try.func27, Try.ntmps27
  go_wp2_with (first | (go_at_call 30; (with_reducible refine (rc_charged (RV.rx H.out) HG.out).mono ?_); rintro e w9 ⟨rfl, rfl⟩))
  go_ret
  exact ⟨rfl, ⟨_, H.out.below (by repeat (first | (with_reducible first | exact HB.out | apply below_alloc | apply pw_below_drewN | apply below_drew1) | exact HB.out))⟩, FR.of_below (by repeat (first | (with_reducible first | exact HB.out | apply below_alloc | apply pw_below_drewN | apply below_drew1) | exact HB.out))⟩
set_option maxHeartbeats 1000000 in
set_option maxRecDepth 100000 in
theorem rs_high {W : World} {g : Nat} {cap lim : Int} {bs : List S77} (h : RX W g cap lim bs) (hg : Good bs) (n : Int) (hn : 0 ≤ n) (hc : cap < n) : Calls Try.prog 27 #[.pointer (some ⟨g, 0, none⟩), .int .i64 n] W fun e w' => e = .returned (.int .i64 1) ∧ RX w' g cap lim bs ∧ FR g W w' := by
  have HB := Aside0.mk (Below.refl W.heap.size W)
  obtain ⟨v, h⟩ := h
  have h5 := h.1
  obtain ⟨A, c, rfl⟩ := h.val
  have q0 := blk_cell h5 0
  have q1 := blk_cell h5 1
  have q2 := blk_cell h5 2
  have f1 := blk_frozen h5 1
  have f2 := blk_frozen h5 2
  have hlt := h.lt
  simp only [List.getElem?_toArray, List.getElem?_cons_zero, List.getElem?_cons_succ] at q0 q1 q2
  have hlen := hg.len
  have H := Aside0.mk h
  have HG := Aside0.mk hg
  clear h h5 hg
  have z0 : decide (n < 0) = false := by simp; omega
  have z1 : decide (cap < n) = true := by simp; omega
  go_enter Try.func27, Try.ntmps27
  go_wp2_with (first | (go_at_call 30; (with_reducible refine (rc_charged (RV.rx H.out) HG.out).mono ?_); rintro e w9 ⟨rfl, rfl⟩))
  go_ret
  exact ⟨rfl, ⟨_, H.out.below (by repeat (first | (with_reducible first | exact HB.out | apply below_alloc | apply pw_below_drewN | apply below_drew1) | exact HB.out))⟩, FR.of_below (by repeat (first | (with_reducible first | exact HB.out | apply below_alloc | apply pw_below_drewN | apply below_drew1) | exact HB.out))⟩
set_option maxHeartbeats 1000000 in
set_option maxRecDepth 100000 in
theorem rs_busy {W : World} {g : Nat} {cap lim : Int} {bs : List S77} (h : RX W g cap lim bs) (hg : Good bs) (n : Int) (hn : 0 ≤ n) (hc : n ≤ cap) (hb : n < sumOf bs) : Calls Try.prog 27 #[.pointer (some ⟨g, 0, none⟩), .int .i64 n] W fun e w' => e = .returned (.int .i64 9) ∧ RX w' g cap lim bs ∧ FR g W w' := by
  have HB := Aside0.mk (Below.refl W.heap.size W)
  obtain ⟨v, h⟩ := h
  have h5 := h.1
  obtain ⟨A, c, rfl⟩ := h.val
  have q0 := blk_cell h5 0
  have q1 := blk_cell h5 1
  have q2 := blk_cell h5 2
  have f1 := blk_frozen h5 1
  have f2 := blk_frozen h5 2
  have hlt := h.lt
  simp only [List.getElem?_toArray, List.getElem?_cons_zero, List.getElem?_cons_succ] at q0 q1 q2
  have hlen := hg.len
  have H := Aside0.mk h
  have HG := Aside0.mk hg
  clear h h5 hg
  have z0 : decide (n < 0) = false := by simp; omega
  have z1 : decide (cap < n) = false := by simp; omega
  have z2 : decide (n < sumOf bs) = true := by simp; omega
  go_enter Try.func27, Try.ntmps27
  go_wp2_with (first | (go_at_call 30; (with_reducible refine (rc_charged (RV.rx H.out) HG.out).mono ?_); rintro e w9 ⟨rfl, rfl⟩))
  go_ret
  exact ⟨rfl, ⟨_, H.out.below (by repeat (first | (with_reducible first | exact HB.out | apply below_alloc | apply pw_below_drewN | apply below_drew1) | exact HB.out))⟩, FR.of_below (by repeat (first | (with_reducible first | exact HB.out | apply below_alloc | apply pw_below_drewN | apply below_drew1) | exact HB.out))⟩
set_option maxHeartbeats 1000000 in
set_option maxRecDepth 100000 in
theorem rs_set {W : World} {g : Nat} {cap lim : Int} {bs : List S77} (h : RX W g cap lim bs) (hg : Good bs) (n : Int) (hn : 0 ≤ n) (hc : n ≤ cap) (hb : sumOf bs ≤ n) : Calls Try.prog 27 #[.pointer (some ⟨g, 0, none⟩), .int .i64 n] W fun e w' => e = .returned (.int .i64 0) ∧ RX w' g cap n bs ∧ FR g W w' := by
  have HB := Aside0.mk (Below.refl W.heap.size W)
  obtain ⟨v, h⟩ := h
  have h5 := h.1
  obtain ⟨A, c, rfl⟩ := h.val
  have q0 := blk_cell h5 0
  have q1 := blk_cell h5 1
  have q2 := blk_cell h5 2
  have f1 := blk_frozen h5 1
  have f2 := blk_frozen h5 2
  have hlt := h.lt
  simp only [List.getElem?_toArray, List.getElem?_cons_zero, List.getElem?_cons_succ] at q0 q1 q2
  have hlen := hg.len
  have H := Aside0.mk h
  have HG := Aside0.mk hg
  clear h h5 hg
  have z0 : decide (n < 0) = false := by simp; omega
  have z1 : decide (cap < n) = false := by simp; omega
  have z2 : decide (n < sumOf bs) = false := by simp; omega
  go_enter Try.func27, Try.ntmps27
  go_wp2_with (first | (go_at_call 30; (with_reducible refine (rc_charged (RV.rx H.out) HG.out).mono ?_); rintro e w9 ⟨rfl, rfl⟩))
  go_ret
  exact ⟨rfl, ⟨_, H.out.setlim n⟩, FRv H.out 1 _⟩
theorem r_setlimit {W : World} {g : Nat} {cap lim : Int} {bs : List S77} (h : RX W g cap lim bs) (hg : Good bs) (n : Int) : Calls Try.prog 27 #[.pointer (some ⟨g, 0, none⟩), .int .i64 n] W fun e w' => e = .returned (.int .i64 (limE cap bs n)) ∧ RX w' g cap (limL cap lim bs n) bs ∧ FR g W w' := by
  unfold limE limL
  by_cases h1 : n < 0
  · rw [if_pos (.inl h1), if_pos (.inl h1)]
    exact rs_low h hg n h1
  · by_cases h2 : cap < n
    · rw [if_pos (.inr h2), if_pos (.inr h2)]
      exact rs_high h hg n (by omega) h2
    · have h12 : ¬ (n < 0 ∨ cap < n) := by omega
      rw [if_neg h12, if_neg h12]
      by_cases h3 : n < sumOf bs
      · rw [if_pos h3, if_pos h3]
        exact rs_busy h hg n (by omega) (by omega) h3
      · rw [if_neg h3, if_neg h3]
        exact rs_set h hg n (by omega) (by omega) (by omega)
set_option maxHeartbeats 1000000 in
set_option maxRecDepth 100000 in
theorem rnew_no (n : Int) (w : World) (hn : n < 0 ∨ 16777216 < n) : Calls Try.prog 21 #[.int .i64 n] w fun e w' => e = .returned (.pointer none) ∧ Below w.heap.size w w' := by
  have HB := Aside0.mk (Below.refl w.heap.size w)
  rcases Int.lt_or_le n 0 with h | h
  · go_enter Try.func21, Try.ntmps21
    go_wp2
    go_ret
    exact ⟨rfl, (by repeat (first | (with_reducible first | exact HB.out | apply below_alloc | apply pw_below_drewN | apply below_drew1) | exact HB.out))⟩
  · have h2 : 16777216 < n := by omega
    clear hn
    go_enter Try.func21, Try.ntmps21
    go_wp2
    go_ret
    exact ⟨rfl, (by repeat (first | (with_reducible first | exact HB.out | apply below_alloc | apply pw_below_drewN | apply below_drew1) | exact HB.out))⟩
set_option maxHeartbeats 1000000 in
set_option maxRecDepth 100000 in
theorem rnew_yes (n : Int) (w : World) (h0 : 0 ≤ n) (h1 : n ≤ 16777216) : Calls Try.prog 21 #[.int .i64 n] w fun e w' => e = .returned (.pointer (some ⟨w.heap.size, 0, none⟩)) ∧ RX w' w.heap.size n n [] ∧ Below w.heap.size w w' := by
  have HB := Aside0.mk (Below.refl w.heap.size w)
  have z1 : decide (16777216 < n) = false := decide_eq_false (by omega)
  have z0 : decide (n < 0) = false := decide_eq_false (by omega)
  go_enter Try.func21, Try.ntmps21
  go_wp2
  go_ret
  exact ⟨rfl, ⟨_, blk_new w _, Kd.R_nil _ _ _ _ _⟩, (by repeat (first | (with_reducible first | exact HB.out | apply below_alloc | apply pw_below_drewN | apply below_drew1) | exact HB.out))⟩
set_option maxHeartbeats 1000000 in
set_option maxRecDepth 100000 in
theorem rf_bad {W : World} {g : Nat} {cap lim : Int} {bs : List S77} (h : RX W g cap lim bs) (hg : Good bs) (A' : Option Addr) (c' : Nat) (l : List Int) (hr : Kd.C (Kd.int .i64) W A' l.length l) (hc : l.length ≤ c') (hl2 : l.length ≤ 9223372036854775806) (hs : 0 ≤ (sumV l).1 ∧ (sumV l).1 ≤ 2147483647) (n : Int) (bo : Bool) (hn : (sumV l).1 = n) (hbo : (sumV l).2 = bo) (hb : bo = false) : Calls Try.prog 29 #[.pointer (some ⟨g, 0, none⟩), .slice A' l.length c'] W fun e w' => e = .returned (.bool false) ∧ Below W.heap.size W w' := by
  have HN := Aside0.mk hn
  have HBO := Aside0.mk hbo
  rw [hn] at hs
  have HRR := Aside0.mk hr
  have hS := hg.sum
  clear hn hbo hr
  have HB := Aside0.mk (Below.refl W.heap.size W)
  obtain ⟨v, h⟩ := h
  have h5 := h.1
  obtain ⟨A, c, rfl⟩ := h.val
  have q0 := blk_cell h5 0
  have q1 := blk_cell h5 1
  have q2 := blk_cell h5 2
  have f1 := blk_frozen h5 1
  have f2 := blk_frozen h5 2
  have hlt := h.lt
  simp only [List.getElem?_toArray, List.getElem?_cons_zero, List.getElem?_cons_succ] at q0 q1 q2
  have hlen := hg.len
  have H := Aside0.mk h
  have HG := Aside0.mk hg
  clear h h5 hg
  subst hb
  go_enter Try.func29, Try.ntmps29
  go_wp2_with (first | (go_at_call 40; (with_reducible refine (rsum_c A' c' l _ (Kd.C_below HRR.out (by repeat (first | (with_reducible first | exact HB.out | apply below_alloc | apply pw_below_drewN | apply below_drew1) | exact HB.out))) hc hl2).mono ?_); rintro e w9 ⟨rfl, hb⟩; rw [HN.out, HBO.out]; have n0_ := Aside0.mk (below_step (by repeat (first | (with_reducible first | exact HB.out | apply below_alloc | apply pw_below_drewN | apply below_drew1) | exact HB.out)) hb); clear HB; have HB := n0_; clear n0_; clear q0 q1 q2 f1 f2 hlt; have HA := Aside0.mk (H.out.below HB.out); have q0 := blk_cell HA.out.1 0; have q1 := blk_cell HA.out.1 1; have q2 := blk_cell HA.out.1 2; have hlt := HA.out.lt; simp only [List.getElem?_toArray, List.getElem?_cons_zero, List.getElem?_cons_succ] at q0 q1 q2; clear hb))
  go_quiet (fail)
  all_goals go_wp2
  all_goals go_ret
  all_goals exact ⟨rfl, (by repeat (first | (with_reducible first | exact HB.out | apply below_alloc | apply pw_below_drewN | apply below_drew1) | exact HB.out))⟩
set_option maxHeartbeats 1000000 in
set_option maxRecDepth 100000 in
theorem rf_yes {W : World} {g : Nat} {cap lim : Int} {bs : List S77} (h : RX W g cap lim bs) (hg : Good bs) (A' : Option Addr) (c' : Nat) (l : List Int) (hr : Kd.C (Kd.int .i64) W A' l.length l) (hc : l.length ≤ c') (hl2 : l.length ≤ 9223372036854775806) (hs : 0 ≤ (sumV l).1 ∧ (sumV l).1 ≤ 2147483647) (n : Int) (bo : Bool) (hn : (sumV l).1 = n) (hbo : (sumV l).2 = bo) (hb : bo = true) (hle : sumOf bs + n ≤ lim) : Calls Try.prog 29 #[.pointer (some ⟨g, 0, none⟩), .slice A' l.length c'] W fun e w' => e = .returned (.bool true) ∧ Below W.heap.size W w' := by
  have HN := Aside0.mk hn
  have HBO := Aside0.mk hbo
  rw [hn] at hs
  have HRR := Aside0.mk hr
  have hS := hg.sum
  clear hn hbo hr
  have HB := Aside0.mk (Below.refl W.heap.size W)
  obtain ⟨v, h⟩ := h
  have h5 := h.1
  obtain ⟨A, c, rfl⟩ := h.val
  have q0 := blk_cell h5 0
  have q1 := blk_cell h5 1
  have q2 := blk_cell h5 2
  have f1 := blk_frozen h5 1
  have f2 := blk_frozen h5 2
  have hlt := h.lt
  simp only [List.getElem?_toArray, List.getElem?_cons_zero, List.getElem?_cons_succ] at q0 q1 q2
  have hlen := hg.len
  have H := Aside0.mk h
  have HG := Aside0.mk hg
  clear h h5 hg
  subst hb
  have zz : decide (sumOf bs + n ≤ lim) = true := by simp; omega
  have hwr : IntKind.i64.wrap (sumOf bs + n) = sumOf bs + n := IntWalk.i64_in _ (by omega)
  go_enter Try.func29, Try.ntmps29
  go_wp2_with (first | (go_at_call 40; (with_reducible refine (rsum_c A' c' l _ (Kd.C_below HRR.out (by repeat (first | (with_reducible first | exact HB.out | apply below_alloc | apply pw_below_drewN | apply below_drew1) | exact HB.out))) hc hl2).mono ?_); rintro e w9 ⟨rfl, hb⟩; rw [HN.out, HBO.out]; have n0_ := Aside0.mk (below_step (by repeat (first | (with_reducible first | exact HB.out | apply below_alloc | apply pw_below_drewN | apply below_drew1) | exact HB.out)) hb); clear HB; have HB := n0_; clear n0_; clear q0 q1 q2 f1 f2 hlt; have HA := Aside0.mk (H.out.below HB.out); have q0 := blk_cell HA.out.1 0; have q1 := blk_cell HA.out.1 1; have q2 := blk_cell HA.out.1 2; have hlt := HA.out.lt; simp only [List.getElem?_toArray, List.getElem?_cons_zero, List.getElem?_cons_succ] at q0 q1 q2; clear hb))
  go_quiet ((go_at_call 30; exact (Calls.mono (rc_charged (RV.rx (HA.out.below (by repeat (first | (with_reducible first | exact Below.refl _ _ | apply pw_below_drewN | apply below_drew1 | apply below_drew) | exact Below.refl _ _)))) HG.out) (by rintro e w8 ⟨rfl, rfl⟩; first | exact ⟨rfl, 0, rfl⟩ | exact ⟨rfl, _, rfl⟩))))
  all_goals go_wp2
  all_goals go_ret
  all_goals exact ⟨rfl, (by repeat (first | (with_reducible first | exact HB.out | apply below_alloc | apply pw_below_drewN | apply below_drew1) | exact HB.out))⟩
set_option maxHeartbeats 1000000 in
set_option maxRecDepth 100000 in
theorem rf_no {W : World} {g : Nat} {cap lim : Int} {bs : List S77} (h : RX W g cap lim bs) (hg : Good bs) (A' : Option Addr) (c' : Nat) (l : List Int) (hr : Kd.C (Kd.int .i64) W A' l.length l) (hc : l.length ≤ c') (hl2 : l.length ≤ 9223372036854775806) (hs : 0 ≤ (sumV l).1 ∧ (sumV l).1 ≤ 2147483647) (n : Int) (bo : Bool) (hn : (sumV l).1 = n) (hbo : (sumV l).2 = bo) (hb : bo = true) (hle : lim < sumOf bs + n) : Calls Try.prog 29 #[.pointer (some ⟨g, 0, none⟩), .slice A' l.length c'] W fun e w' => e = .returned (.bool false) ∧ Below W.heap.size W w' := by
  have HN := Aside0.mk hn
  have HBO := Aside0.mk hbo
  rw [hn] at hs
  have HRR := Aside0.mk hr
  have hS := hg.sum
  clear hn hbo hr
  have HB := Aside0.mk (Below.refl W.heap.size W)
  obtain ⟨v, h⟩ := h
  have h5 := h.1
  obtain ⟨A, c, rfl⟩ := h.val
  have q0 := blk_cell h5 0
  have q1 := blk_cell h5 1
  have q2 := blk_cell h5 2
  have f1 := blk_frozen h5 1
  have f2 := blk_frozen h5 2
  have hlt := h.lt
  simp only [List.getElem?_toArray, List.getElem?_cons_zero, List.getElem?_cons_succ] at q0 q1 q2
  have hlen := hg.len
  have H := Aside0.mk h
  have HG := Aside0.mk hg
  clear h h5 hg
  subst hb
  have zz : decide (sumOf bs + n ≤ lim) = false := by simp; omega
  have hwr : IntKind.i64.wrap (sumOf bs + n) = sumOf bs + n := IntWalk.i64_in _ (by omega)
  go_enter Try.func29, Try.ntmps29
  go_wp2_with (first | (go_at_call 40; (with_reducible refine (rsum_c A' c' l _ (Kd.C_below HRR.out (by repeat (first | (with_reducible first | exact HB.out | apply below_alloc | apply pw_below_drewN | apply below_drew1) | exact HB.out))) hc hl2).mono ?_); rintro e w9 ⟨rfl, hb⟩; rw [HN.out, HBO.out]; have n0_ := Aside0.mk (below_step (by repeat (first | (with_reducible first | exact HB.out | apply below_alloc | apply pw_below_drewN | apply below_drew1) | exact HB.out)) hb); clear HB; have HB := n0_; clear n0_; clear q0 q1 q2 f1 f2 hlt; have HA := Aside0.mk (H.out.below HB.out); have q0 := blk_cell HA.out.1 0; have q1 := blk_cell HA.out.1 1; have q2 := blk_cell HA.out.1 2; have hlt := HA.out.lt; simp only [List.getElem?_toArray, List.getElem?_cons_zero, List.getElem?_cons_succ] at q0 q1 q2; clear hb))
  go_quiet ((go_at_call 30; exact (Calls.mono (rc_charged (RV.rx (HA.out.below (by repeat (first | (with_reducible first | exact Below.refl _ _ | apply pw_below_drewN | apply below_drew1 | apply below_drew) | exact Below.refl _ _)))) HG.out) (by rintro e w8 ⟨rfl, rfl⟩; first | exact ⟨rfl, 0, rfl⟩ | exact ⟨rfl, _, rfl⟩))))
  all_goals go_wp2
  all_goals go_ret
  all_goals exact ⟨rfl, (by repeat (first | (with_reducible first | exact HB.out | apply below_alloc | apply pw_below_drewN | apply below_drew1) | exact HB.out))⟩
theorem r_fits {W : World} {g : Nat} {cap lim : Int} {bs : List S77} (h : RX W g cap lim bs) (hg : Good bs) (A' : Option Addr) (c' : Nat) (l : List Int) (hr : Kd.C (Kd.int .i64) W A' l.length l) (hc : l.length ≤ c') (hl2 : l.length ≤ 9223372036854775806) (hs : 0 ≤ (sumV l).1 ∧ (sumV l).1 ≤ 2147483647) : Calls Try.prog 29 #[.pointer (some ⟨g, 0, none⟩), .slice A' l.length c'] W fun e w' => e = .returned (.bool (fitsB lim bs l)) ∧ Below W.heap.size W w' := by
  unfold fitsB
  cases hb : (sumV l).2
  · exact rf_bad h hg A' c' l hr hc hl2 hs _ _ rfl hb rfl
  · by_cases hn : sumOf bs + (sumV l).1 ≤ lim
    · simp only [hn, decide_true, Bool.and_self]
      exact rf_yes h hg A' c' l hr hc hl2 hs _ _ rfl hb rfl hn
    · simp only [hn, decide_false, Bool.and_false]
      exact rf_no h hg A' c' l hr hc hl2 hs _ _ rfl hb rfl (by omega)
end Go.Proofs.Ytdnpfnoobjbanaa.Hand
