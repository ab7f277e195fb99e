/- Package arena: Fits. -/
import Derived.Test.YtdnpfnoobjbanaaHM
set_option linter.unusedVariables false
set_option linter.unusedSimpArgs false
namespace Go.Proofs.Ytdnpfnoobjbanaa.Hand
open Go.RowKit Go.Proofs.Ytdnpfnoobjbanaa.PArenaPlays Go.Proofs.YtdnpfnoobjbanaaW.PrintWords Go.Proofs.YtdnpfnoobjbanaaW.PrintLast Go.Proofs.YtdnpfnoobjbanaaW.PrintMore
set_option maxHeartbeats 1000000 in
set_option maxRecDepth 100000 in
theorem fits_bad {W : World} {g : Nat} {cap lim chg : Int} {bv fv : Value} {bs : List S77} {fs : List Int} (h : Ar W g cap lim chg bv bs fv fs) (A : Option Addr) (c : Nat) (l : List Int) (hr : Kd.C (Kd.int .i64) W A l.length l) (hc : l.length ≤ c) (hl2 : l.length ≤ 9223372036854775806) (n : Int) (hs : sumV l = (n, false)) :
    Calls Try.prog 28 #[.pointer (some ⟨g, 0, none⟩), .slice A l.length c] W fun e w' => e = .returned (.bool false) ∧ Below W.heap.size W w' := by
  have HR := Aside0.mk hr
  have HS := Aside0.mk hs
  clear hr hs
  have HB := Aside0.mk (Below.refl W.heap.size W)
  have h5 := h.1
  obtain ⟨Ab, cb, rfl⟩ := h.bval
  obtain ⟨Af, cf, rfl, hfl⟩ := h.fval
  have q0 := blk_cell h5 0
  have q1 := blk_cell h5 1
  have q2 := blk_cell h5 2
  have q3 := blk_cell h5 3
  have q4 := blk_cell h5 4
  have f1 := blk_frozen h5 1
  have f2 := blk_frozen h5 2
  have f3 := blk_frozen h5 3
  have f4 := blk_frozen h5 4
  have hlt := h.lt
  simp only [List.getElem?_toArray, List.getElem?_cons_zero, List.getElem?_cons_succ] at q0 q1 q2 q3 q4
  have H := Aside0.mk h
  clear h h5
  go_enter Try.func28, Try.ntmps28
  go_wp2_with (first | (go_at_call 20; (with_reducible refine (sum_c A c l _ (Kd.C_below HR.out (by repeat (first | (with_reducible first | exact HB.out | apply below_alloc | apply pw_below_drewN | apply below_drew1) | exact HB.out))) hc hl2).mono ?_); rintro e w9 ⟨rfl, ⟨nd, rfl⟩⟩; rw [HS.out]))
  all_goals go_quiet (fail)
  all_goals go_wp2
  all_goals go_ret
  all_goals exact ⟨rfl, (by repeat (first | (with_reducible first | exact HB.out | apply below_alloc | apply pw_below_drewN | apply below_drew1) | exact HB.out))⟩
set_option maxHeartbeats 1000000 in
set_option maxRecDepth 100000 in
theorem fits_yes {W : World} {g : Nat} {cap lim chg : Int} {bv fv : Value} {bs : List S77} {fs : List Int} (h : Ar W g cap lim chg bv bs fv fs) (A : Option Addr) (c : Nat) (l : List Int) (hr : Kd.C (Kd.int .i64) W A l.length l) (hc : l.length ≤ c) (hl2 : l.length ≤ 9223372036854775806) (n : Int) (hs : sumV l = (n, true)) (hn0 : 0 ≤ n) (hn1 : n ≤ 2147483647) (hc0 : 0 ≤ chg) (hc1 : chg ≤ 16777216) (hb : chg + n ≤ lim) :
    Calls Try.prog 28 #[.pointer (some ⟨g, 0, none⟩), .slice A l.length c] W fun e w' => e = .returned (.bool true) ∧ Below W.heap.size W w' := by
  have HR := Aside0.mk hr
  have HS := Aside0.mk hs
  clear hr hs
  have HB := Aside0.mk (Below.refl W.heap.size W)
  have h5 := h.1
  obtain ⟨Ab, cb, rfl⟩ := h.bval
  obtain ⟨Af, cf, rfl, hfl⟩ := h.fval
  have q0 := blk_cell h5 0
  have q1 := blk_cell h5 1
  have q2 := blk_cell h5 2
  have q3 := blk_cell h5 3
  have q4 := blk_cell h5 4
  have f1 := blk_frozen h5 1
  have f2 := blk_frozen h5 2
  have f3 := blk_frozen h5 3
  have f4 := blk_frozen h5 4
  have hlt := h.lt
  simp only [List.getElem?_toArray, List.getElem?_cons_zero, List.getElem?_cons_succ] at q0 q1 q2 q3 q4
  have H := Aside0.mk h
  clear h h5
  have hw : IntKind.i64.wrap (chg + n) = chg + n := IntWalk.i64_in _ ⟨by omega, by omega⟩
  have z1 : decide (chg + n ≤ lim) = true := decide_eq_true hb
  go_enter Try.func28, Try.ntmps28
  go_wp2_with (first | (go_at_call 20; (with_reducible refine (sum_c A c l _ (Kd.C_below HR.out (by repeat (first | (with_reducible first | exact HB.out | apply below_alloc | apply pw_below_drewN | apply below_drew1) | exact HB.out))) hc hl2).mono ?_); rintro e w9 ⟨rfl, ⟨nd, rfl⟩⟩; rw [HS.out]))
  all_goals go_quiet (fail)
  all_goals go_wp2
  all_goals go_ret
  all_goals exact ⟨rfl, (by repeat (first | (with_reducible first | exact HB.out | apply below_alloc | apply pw_below_drewN | apply below_drew1) | exact HB.out))⟩
set_option maxHeartbeats 1000000 in
set_option maxRecDepth 100000 in
theorem fits_no {W : World} {g : Nat} {cap lim chg : Int} {bv fv : Value} {bs : List S77} {fs : List Int} (h : Ar W g cap lim chg bv bs fv fs) (A : Option Addr) (c : Nat) (l : List Int) (hr : Kd.C (Kd.int .i64) W A l.length l) (hc : l.length ≤ c) (hl2 : l.length ≤ 9223372036854775806) (n : Int) (hs : sumV l = (n, true)) (hn0 : 0 ≤ n) (hn1 : n ≤ 2147483647) (hc0 : 0 ≤ chg) (hc1 : chg ≤ 16777216) (hb : lim < chg + n) :
    Calls Try.prog 28 #[.pointer (some ⟨g, 0, none⟩), .slice A l.length c] W fun e w' => e = .returned (.bool false) ∧ Below W.heap.size W w' := by
  have HR := Aside0.mk hr
  have HS := Aside0.mk hs
  clear hr hs
  have HB := Aside0.mk (Below.refl W.heap.size W)
  have h5 := h.1
  obtain ⟨Ab, cb, rfl⟩ := h.bval
  obtain ⟨Af, cf, rfl, hfl⟩ := h.fval
  have q0 := blk_cell h5 0
  have q1 := blk_cell h5 1
  have q2 := blk_cell h5 2
  have q3 := blk_cell h5 3
  have q4 := blk_cell h5 4
  have f1 := blk_frozen h5 1
  have f2 := blk_frozen h5 2
  have f3 := blk_frozen h5 3
  have f4 := blk_frozen h5 4
  have hlt := h.lt
  simp only [List.getElem?_toArray, List.getElem?_cons_zero, List.getElem?_cons_succ] at q0 q1 q2 q3 q4
  have H := Aside0.mk h
  clear h h5
  have hw : IntKind.i64.wrap (chg + n) = chg + n := IntWalk.i64_in _ ⟨by omega, by omega⟩
  have z1 : decide (chg + n ≤ lim) = false := decide_eq_false (by omega)
  go_enter Try.func28, Try.ntmps28
  go_wp2_with (first | (go_at_call 20; (with_reducible refine (sum_c A c l _ (Kd.C_below HR.out (by repeat (first | (with_reducible first | exact HB.out | apply below_alloc | apply pw_below_drewN | apply below_drew1) | exact HB.out))) hc hl2).mono ?_); rintro e w9 ⟨rfl, ⟨nd, rfl⟩⟩; rw [HS.out]))
  all_goals go_quiet (fail)
  all_goals go_wp2
  all_goals go_ret
  all_goals exact ⟨rfl, (by repeat (first | (with_reducible first | exact HB.out | apply below_alloc | apply pw_below_drewN | apply below_drew1) | exact HB.out))⟩
end Go.Proofs.Ytdnpfnoobjbanaa.Hand
