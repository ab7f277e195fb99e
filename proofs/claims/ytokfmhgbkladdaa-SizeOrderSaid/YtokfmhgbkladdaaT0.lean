/- SizeRounds: the walk. -/
import Derived.Test.YtokfmhgbkladdaaS0
set_option linter.unusedVariables false
namespace Go.Proofs.Ytokfmhgbkladdaa.Hand
open Go.RowKit Go.Proofs.Ytokfmhgbkladdaa.PSizeTells Go.Proofs.YtokfmhgbkladdaaW.PrintWords Go.Proofs.YtokfmhgbkladdaaW.PrintLast Go.Proofs.YtokfmhgbkladdaaW.PrintMore

theorem examples_c (w : World) : Calls Try.prog 8 #[] w fun e w' => e = .returned (.bool true) ∧ Below w.heap.size w w' :=
  jettisonlaw01_examples.calls 10 true w (by decide +kernel)


theorem seven (a : Int) (h0 : 0 ≤ a) (h1 : a ≤ 1024) : (cls a = 0 ∧ rnd a = 16 ∧ a ≤ 16) ∨ (cls a = 1 ∧ rnd a = 32 ∧ 17 ≤ a ∧ a ≤ 32) ∨ (cls a = 2 ∧ rnd a = 64 ∧ 33 ≤ a ∧ a ≤ 64) ∨ (cls a = 3 ∧ rnd a = 128 ∧ 65 ≤ a ∧ a ≤ 128)
    ∨ (cls a = 4 ∧ rnd a = 256 ∧ 129 ≤ a ∧ a ≤ 256) ∨ (cls a = 5 ∧ rnd a = 512 ∧ 257 ≤ a ∧ a ≤ 512) ∨ (cls a = 6 ∧ rnd a = 1024 ∧ 513 ≤ a ∧ a ≤ 1024) := by
  unfold cls rnd
  repeat' split
  all_goals omega
theorem rnd_facts (a : Int) (h0 : 0 ≤ a) (h1 : a ≤ 1024) : a ≤ rnd a ∧ (a < 17 → rnd a = 16) ∧ (17 ≤ a → rnd a < 2 * a) ∧ rnd (rnd a) = rnd a ∧ 16 ≤ rnd a ∧ rnd a ≤ 1024 ∧ 0 ≤ cls a ∧ cls a < 7 ∧ rd sevens (cls a) = rnd a ∧ (1 ≤ cls a → rd sevens (cls a - 1) < a) := by
  rcases seven a h0 h1 with ⟨hc, hr, h⟩ | ⟨hc, hr, h⟩ | ⟨hc, hr, h⟩ | ⟨hc, hr, h⟩ | ⟨hc, hr, h⟩ | ⟨hc, hr, h⟩ | ⟨hc, hr, h⟩ <;> rw [hc, hr] <;> refine ⟨by omega, by omega, by omega, by decide, by decide, by decide, by decide, by decide, by decide, fun h2 => ?_⟩ <;>
    first | omega | (simp [rd, sevens]; omega)
theorem rnd_mono (a b : Int) (h0 : 0 ≤ a) (h1 : b ≤ 1024) (h : a ≤ b) : rnd a ≤ rnd b := by
  unfold rnd
  repeat' split
  all_goals omega
theorem fit_yes (a : Int) (h0 : 0 ≤ a) (h1 : a ≤ 1024) : fit a = true := by simp [fit, h0, h1]

set_option maxHeartbeats 800000 in
set_option maxRecDepth 100000 in
theorem rounds_lo_lt (n m a b x y k : Int) (hn : 0 ≤ n) (hm : 0 ≤ m) (e1 : n % 1025 = a) (e2 : m % 1025 = b) (e3 : rnd a = x) (e4 : rnd b = y) (e5 : rnd x = x) (e6 : cls a = k) (g1 : fit a = true) (g2 : fit b = true) (g3 : fit x = true)
    (e7 : rd sevens k = x) (h0 : 0 ≤ k) (h7 : k < 7) (hx : a ≤ x) (w : World) (q3 : a < 17) (e8 : (x == 16) = true) (e9 : (k == 0) = true) (h1 : a < b) (h2 : x ≤ y) :
    Calls Try.prog 4 #[.int .u16 n, .int .u16 m] w fun e w' => e = .returned (.bool true) ∧ Below w.heap.size w w' := by
  go_enter Try.func4, Try.ntmps4
  go_wp2_with (first | (go_at_call 8; (with_reducible refine (examples_c _).mono ?_); rintro e w1 ⟨rfl, hb⟩) | (go_at_call 9; (with_reducible refine (round_c _ _).mono ?_); rintro e w' ⟨rfl, ⟨nd, rfl⟩⟩) | (go_at_call 13; (with_reducible refine (size_Classes.calls 10 sevens _ classes_f).mono ?_); rintro e w2 ⟨v, rfl, ho, hb2⟩; obtain ⟨A, c, ev⟩ := Kd.R_slice ho; subst ev; have hl : (sevens.length : Int) = 7 := rfl; obtain ⟨ad, eA, hc1⟩ := Kd.at_int (Kd.R_reads' ho).2.2 k h0 (by show _ < (7 : Int); exact h7); subst eA) | (go_at_call 15; (with_reducible refine (class_c _ _).mono ?_); rintro e w' ⟨rfl, ⟨nd, rfl⟩⟩))
  go_ret
  exact ⟨rfl, pw_below_drewN (below_step (pw_below_drewN hb _) hb2) _⟩
set_option maxHeartbeats 800000 in
set_option maxRecDepth 100000 in
theorem rounds_lo_gt (n m a b x y k : Int) (hn : 0 ≤ n) (hm : 0 ≤ m) (e1 : n % 1025 = a) (e2 : m % 1025 = b) (e3 : rnd a = x) (e4 : rnd b = y) (e5 : rnd x = x) (e6 : cls a = k) (g1 : fit a = true) (g2 : fit b = true) (g3 : fit x = true)
    (e7 : rd sevens k = x) (h0 : 0 ≤ k) (h7 : k < 7) (hx : a ≤ x) (w : World) (q3 : a < 17) (e8 : (x == 16) = true) (e9 : (k == 0) = true) (h1 : b < a) (h2 : y ≤ x) :
    Calls Try.prog 4 #[.int .u16 n, .int .u16 m] w fun e w' => e = .returned (.bool true) ∧ Below w.heap.size w w' := by
  go_enter Try.func4, Try.ntmps4
  go_wp2_with (first | (go_at_call 8; (with_reducible refine (examples_c _).mono ?_); rintro e w1 ⟨rfl, hb⟩) | (go_at_call 9; (with_reducible refine (round_c _ _).mono ?_); rintro e w' ⟨rfl, ⟨nd, rfl⟩⟩) | (go_at_call 13; (with_reducible refine (size_Classes.calls 10 sevens _ classes_f).mono ?_); rintro e w2 ⟨v, rfl, ho, hb2⟩; obtain ⟨A, c, ev⟩ := Kd.R_slice ho; subst ev; have hl : (sevens.length : Int) = 7 := rfl; obtain ⟨ad, eA, hc1⟩ := Kd.at_int (Kd.R_reads' ho).2.2 k h0 (by show _ < (7 : Int); exact h7); subst eA) | (go_at_call 15; (with_reducible refine (class_c _ _).mono ?_); rintro e w' ⟨rfl, ⟨nd, rfl⟩⟩))
  go_ret
  exact ⟨rfl, pw_below_drewN (below_step (pw_below_drewN hb _) hb2) _⟩
set_option maxHeartbeats 800000 in
set_option maxRecDepth 100000 in
theorem rounds_lo_eq (n m a b x y k : Int) (hn : 0 ≤ n) (hm : 0 ≤ m) (e1 : n % 1025 = a) (e2 : m % 1025 = b) (e3 : rnd a = x) (e4 : rnd b = y) (e5 : rnd x = x) (e6 : cls a = k) (g1 : fit a = true) (g2 : fit b = true) (g3 : fit x = true)
    (e7 : rd sevens k = x) (h0 : 0 ≤ k) (h7 : k < 7) (hx : a ≤ x) (w : World) (q3 : a < 17) (e8 : (x == 16) = true) (e9 : (k == 0) = true) (h1 : a ≤ b) (h11 : b ≤ a) (h2 : x ≤ y) (h12 : y ≤ x) :
    Calls Try.prog 4 #[.int .u16 n, .int .u16 m] w fun e w' => e = .returned (.bool true) ∧ Below w.heap.size w w' := by
  go_enter Try.func4, Try.ntmps4
  go_wp2_with (first | (go_at_call 8; (with_reducible refine (examples_c _).mono ?_); rintro e w1 ⟨rfl, hb⟩) | (go_at_call 9; (with_reducible refine (round_c _ _).mono ?_); rintro e w' ⟨rfl, ⟨nd, rfl⟩⟩) | (go_at_call 13; (with_reducible refine (size_Classes.calls 10 sevens _ classes_f).mono ?_); rintro e w2 ⟨v, rfl, ho, hb2⟩; obtain ⟨A, c, ev⟩ := Kd.R_slice ho; subst ev; have hl : (sevens.length : Int) = 7 := rfl; obtain ⟨ad, eA, hc1⟩ := Kd.at_int (Kd.R_reads' ho).2.2 k h0 (by show _ < (7 : Int); exact h7); subst eA) | (go_at_call 15; (with_reducible refine (class_c _ _).mono ?_); rintro e w' ⟨rfl, ⟨nd, rfl⟩⟩))
  go_ret
  exact ⟨rfl, pw_below_drewN (below_step (pw_below_drewN hb _) hb2) _⟩
set_option maxHeartbeats 800000 in
set_option maxRecDepth 100000 in
theorem rounds_hi_lt (n m a b x y k : Int) (hn : 0 ≤ n) (hm : 0 ≤ m) (e1 : n % 1025 = a) (e2 : m % 1025 = b) (e3 : rnd a = x) (e4 : rnd b = y) (e5 : rnd x = x) (e6 : cls a = k) (g1 : fit a = true) (g2 : fit b = true) (g3 : fit x = true)
    (e7 : rd sevens k = x) (h0 : 0 ≤ k) (h7 : k < 7) (hx : a ≤ x) (w : World) (q2 : 0 ≤ a) (q3 : 17 ≤ a) (q4 : x ≤ 1024) (e8 : x < 2 * a) (e9 : (k == 0) = false) (z1 : 1 ≤ k) (h8 : rd sevens (k - 1) < a) (h1 : a < b) (h2 : x ≤ y) :
    Calls Try.prog 4 #[.int .u16 n, .int .u16 m] w fun e w' => e = .returned (.bool true) ∧ Below w.heap.size w w' := by
  go_enter Try.func4, Try.ntmps4
  go_wp2_with (first | (go_at_call 8; (with_reducible refine (examples_c _).mono ?_); rintro e w1 ⟨rfl, hb⟩) | (go_at_call 9; (with_reducible refine (round_c _ _).mono ?_); rintro e w' ⟨rfl, ⟨nd, rfl⟩⟩) | (go_at_call 13; (with_reducible refine (size_Classes.calls 10 sevens _ classes_f).mono ?_); rintro e w2 ⟨v, rfl, ho, hb2⟩; obtain ⟨A, c, ev⟩ := Kd.R_slice ho; subst ev; have hl : (sevens.length : Int) = 7 := rfl; obtain ⟨ad, eA, hc1⟩ := Kd.at_int (Kd.R_reads' ho).2.2 k h0 (by show _ < (7 : Int); exact h7); subst eA; obtain ⟨ad', eA, hc2⟩ := Kd.at_int (Kd.R_reads' ho).2.2 (k - 1) (by omega) (by show _ < (7 : Int); omega); injection eA with eA; subst eA; rw [show (k - 1).toNat = k.toNat - 1 from by omega] at hc2) | (go_at_call 15; (with_reducible refine (class_c _ _).mono ?_); rintro e w' ⟨rfl, ⟨nd, rfl⟩⟩))
  go_ret
  exact ⟨rfl, pw_below_drewN (below_step (pw_below_drewN hb _) hb2) _⟩
set_option maxHeartbeats 800000 in
set_option maxRecDepth 100000 in
theorem rounds_hi_gt (n m a b x y k : Int) (hn : 0 ≤ n) (hm : 0 ≤ m) (e1 : n % 1025 = a) (e2 : m % 1025 = b) (e3 : rnd a = x) (e4 : rnd b = y) (e5 : rnd x = x) (e6 : cls a = k) (g1 : fit a = true) (g2 : fit b = true) (g3 : fit x = true)
    (e7 : rd sevens k = x) (h0 : 0 ≤ k) (h7 : k < 7) (hx : a ≤ x) (w : World) (q2 : 0 ≤ a) (q3 : 17 ≤ a) (q4 : x ≤ 1024) (e8 : x < 2 * a) (e9 : (k == 0) = false) (z1 : 1 ≤ k) (h8 : rd sevens (k - 1) < a) (h1 : b < a) (h2 : y ≤ x) :
    Calls Try.prog 4 #[.int .u16 n, .int .u16 m] w fun e w' => e = .returned (.bool true) ∧ Below w.heap.size w w' := by
  go_enter Try.func4, Try.ntmps4
  go_wp2_with (first | (go_at_call 8; (with_reducible refine (examples_c _).mono ?_); rintro e w1 ⟨rfl, hb⟩) | (go_at_call 9; (with_reducible refine (round_c _ _).mono ?_); rintro e w' ⟨rfl, ⟨nd, rfl⟩⟩) | (go_at_call 13; (with_reducible refine (size_Classes.calls 10 sevens _ classes_f).mono ?_); rintro e w2 ⟨v, rfl, ho, hb2⟩; obtain ⟨A, c, ev⟩ := Kd.R_slice ho; subst ev; have hl : (sevens.length : Int) = 7 := rfl; obtain ⟨ad, eA, hc1⟩ := Kd.at_int (Kd.R_reads' ho).2.2 k h0 (by show _ < (7 : Int); exact h7); subst eA; obtain ⟨ad', eA, hc2⟩ := Kd.at_int (Kd.R_reads' ho).2.2 (k - 1) (by omega) (by show _ < (7 : Int); omega); injection eA with eA; subst eA; rw [show (k - 1).toNat = k.toNat - 1 from by omega] at hc2) | (go_at_call 15; (with_reducible refine (class_c _ _).mono ?_); rintro e w' ⟨rfl, ⟨nd, rfl⟩⟩))
  go_ret
  exact ⟨rfl, pw_below_drewN (below_step (pw_below_drewN hb _) hb2) _⟩
set_option maxHeartbeats 800000 in
set_option maxRecDepth 100000 in
theorem rounds_hi_eq (n m a b x y k : Int) (hn : 0 ≤ n) (hm : 0 ≤ m) (e1 : n % 1025 = a) (e2 : m % 1025 = b) (e3 : rnd a = x) (e4 : rnd b = y) (e5 : rnd x = x) (e6 : cls a = k) (g1 : fit a = true) (g2 : fit b = true) (g3 : fit x = true)
    (e7 : rd sevens k = x) (h0 : 0 ≤ k) (h7 : k < 7) (hx : a ≤ x) (w : World) (q2 : 0 ≤ a) (q3 : 17 ≤ a) (q4 : x ≤ 1024) (e8 : x < 2 * a) (e9 : (k == 0) = false) (z1 : 1 ≤ k) (h8 : rd sevens (k - 1) < a) (h1 : a ≤ b) (h11 : b ≤ a) (h2 : x ≤ y) (h12 : y ≤ x) :
    Calls Try.prog 4 #[.int .u16 n, .int .u16 m] w fun e w' => e = .returned (.bool true) ∧ Below w.heap.size w w' := by
  go_enter Try.func4, Try.ntmps4
  go_wp2_with (first | (go_at_call 8; (with_reducible refine (examples_c _).mono ?_); rintro e w1 ⟨rfl, hb⟩) | (go_at_call 9; (with_reducible refine (round_c _ _).mono ?_); rintro e w' ⟨rfl, ⟨nd, rfl⟩⟩) | (go_at_call 13; (with_reducible refine (size_Classes.calls 10 sevens _ classes_f).mono ?_); rintro e w2 ⟨v, rfl, ho, hb2⟩; obtain ⟨A, c, ev⟩ := Kd.R_slice ho; subst ev; have hl : (sevens.length : Int) = 7 := rfl; obtain ⟨ad, eA, hc1⟩ := Kd.at_int (Kd.R_reads' ho).2.2 k h0 (by show _ < (7 : Int); exact h7); subst eA; obtain ⟨ad', eA, hc2⟩ := Kd.at_int (Kd.R_reads' ho).2.2 (k - 1) (by omega) (by show _ < (7 : Int); omega); injection eA with eA; subst eA; rw [show (k - 1).toNat = k.toNat - 1 from by omega] at hc2) | (go_at_call 15; (with_reducible refine (class_c _ _).mono ?_); rintro e w' ⟨rfl, ⟨nd, rfl⟩⟩))
  go_ret
  exact ⟨rfl, pw_below_drewN (below_step (pw_below_drewN hb _) hb2) _⟩
end Go.Proofs.Ytokfmhgbkladdaa.Hand
