/- SizeClasses: the walk. -/
import Derived.Test.YtokfmhgbkladdaaS0
import Derived.Test.YtokfmhgbkladdaaT0
import Derived.OpenShut
set_option linter.unusedVariables false
namespace Go.Proofs.Ytokfmhgbkladdaa.Hand
open Go.RowKit Go.Proofs.Ytokfmhgbkladdaa.PSizeTells Go.Proofs.YtokfmhgbkladdaaW.PrintWords Go.Proofs.YtokfmhgbkladdaaW.PrintLast Go.Proofs.YtokfmhgbkladdaaW.PrintMore

theorem R_ints {k : IntKind} {e : TypeId} {w : World} {base : Nat} {ok : Nat → Prop} {v : Value} {xs : List Int} (h : (Kd.int k).R e w base ok v xs) (hp : 0 < xs.length) :
    ∃ g cap, v = .slice (some ⟨g, 0, none⟩) xs.length cap ∧ ∀ i : Nat, i < xs.length → w.cell? ⟨g, i, none⟩ = some (.int k (xs.getD i 0)) := by
  obtain ⟨g, cap, rfl, _⟩ := Kd.R_form h hp
  refine ⟨g, cap, rfl, fun i hi => ?_⟩
  obtain ⟨ad, e, hc⟩ := Kd.at_int (Kd.R_reads' h).2.2 (i : Int) (by omega) (by omega)
  injection e with e
  subst e
  rw [add_plain] at hc
  simpa [rd] using hc
def Sevens (w : World) (g : Nat) : Prop := ∀ i : Nat, i < 7 → w.cell? ⟨g, i, none⟩ = some (.int .i64 (sevens.getD i 0))
theorem classes_c (w : World) : Calls Try.prog 13 #[] w fun e w' => ∃ g c, e = .returned (.slice (some ⟨g, 0, none⟩) 7 c) ∧ Below w.heap.size w w' ∧ Sevens w' g :=
  (size_Classes.calls 10 sevens w classes_f).mono fun e w' ⟨v, he, ho, hb⟩ => by
    obtain ⟨g, c, ev, hcs⟩ := R_ints ho (by decide)
    exact ⟨g, c, by rw [he, ev]; rfl, hb, hcs⟩
theorem cell_var {w : World} {g : Nat} (hs : Sevens w g) (i : Int) (h0 : 0 ≤ i) (h7 : i < 7) {x : Int} (e : rd sevens i = x) : w.cell? ⟨g, i.toNat, none⟩ = some (.int .i64 x) := by
  rw [← e]; exact hs i.toNat (by omega)
theorem cell_pred {w : World} {g : Nat} (hs : Sevens w g) (i : Int) (h0 : 1 ≤ i) (h7 : i < 7) {x : Int} (e : rd sevens (i - 1) = x) : w.cell? ⟨g, i.toNat - 1, none⟩ = some (.int .i64 x) := by
  have := hs (i.toNat - 1) (by omega)
  rw [this, ← e, rd, show (i - 1).toNat = i.toNat - 1 from by omega]
theorem cell_six {w : World} {g : Nat} (hs : Sevens w g) : w.cell? ⟨g, 6, none⟩ = some (.int .i64 1024) := hs 6 (by omega)
theorem class_at (a k : Int) (w : World) (e : cls a = k) : Calls Try.prog 15 #[.int .i64 a] w fun e w' => e = .returned (.int .i64 k) ∧ Drawn0 w w' := by
  subst e; exact class_c a w
theorem round_at (a x : Int) (w : World) (e : rnd a = x) (h : fit a = true) : Calls Try.prog 9 #[.int .i64 a] w fun e w' => e = .returned (.tuple #[.int .i64 x, .bool true]) ∧ Drawn0 w w' := by
  subst e; have := round_c a w; rw [h] at this; exact this

set_option maxHeartbeats 800000 in
set_option maxRecDepth 100000 in
theorem classes_lo (k n i h lo : Int) (hk0 : 0 ≤ k) (hn0 : 0 ≤ n) (hn1 : n ≤ 65535) (e1 : k % 7 = i) (h0 : 0 ≤ i) (h7 : i < 7) (e2 : rd sevens i = h) (hh : h ≤ 1024) (hlo0 : 0 ≤ lo) (hlo : lo ≤ h)
    (hk : ∀ a, lo ≤ a → a ≤ h → cls a = i) (hr : ∀ a, lo ≤ a → a ≤ h → rnd a = h) (hno : ∀ a, (a < 0 ∨ 1024 < a) → cls a = -1) (q1 : i ≤ 0) (q2 : lo = 0) (w : World) :
    Calls Try.prog 6 #[.int .u8 k, .int .u16 n] w fun e w' => e = .returned (.bool true) ∧ Below w.heap.size w w' := by
  have m0 : 0 ≤ n % (h + 1) := Int.emod_nonneg _ (by omega)
  have m1 : n % (h + 1) < h + 1 := Int.emod_lt_of_pos _ (by omega)
  have K := Aside0.mk hk; clear hk
  have R := Aside0.mk hr; clear hr
  have NO := Aside0.mk hno; clear hno
  go_enter Try.func6, Try.ntmps6
  subst q2
  go_wp2_with (first | (go_at_call 8; (with_reducible refine (examples_c _).mono ?_); rintro e w1 ⟨rfl, hb⟩) | (go_at_call 9; (with_reducible refine (round_at _ h _ (R.out _ (by omega) (by omega)) (fit_yes _ (by omega) (by omega))).mono ?_); rintro e w' ⟨rfl, ⟨nd, rfl⟩⟩) | (go_at_call 13; (with_reducible refine (classes_c _).mono ?_); rintro e w2 ⟨g, c, rfl, hb2, hcs⟩; have hc1 := cell_var hcs i h0 h7 e2; have hc6 := cell_six hcs; clear hcs) | (go_at_call 15; (first | (with_reducible refine (class_at _ i _ (K.out _ (by omega) (by omega))).mono ?_) | (with_reducible refine (class_at _ (-1) _ (NO.out _ (by omega))).mono ?_)); rintro e w' ⟨rfl, ⟨nd, rfl⟩⟩))
  go_ret
  exact ⟨rfl, pw_below_drewN (below_step hb hb2) _⟩
set_option maxHeartbeats 800000 in
set_option maxRecDepth 100000 in
theorem classes_hi (k n i h lo : Int) (hk0 : 0 ≤ k) (hn0 : 0 ≤ n) (hn1 : n ≤ 65535) (e1 : k % 7 = i) (h0 : 0 ≤ i) (h7 : i < 7) (e2 : rd sevens i = h) (hh : h ≤ 1024) (hlo0 : 0 ≤ lo) (hlo : lo ≤ h)
    (hk : ∀ a, lo ≤ a → a ≤ h → cls a = i) (hr : ∀ a, lo ≤ a → a ≤ h → rnd a = h) (hno : ∀ a, (a < 0 ∨ 1024 < a) → cls a = -1) (p : Int) (q1 : 1 ≤ i) (q2 : p + 1 = lo) (e3 : rd sevens (i - 1) = p) (q3 : 2 * p ≤ h) (q4 : h ≤ 2 * p) (w : World) :
    Calls Try.prog 6 #[.int .u8 k, .int .u16 n] w fun e w' => e = .returned (.bool true) ∧ Below w.heap.size w w' := by
  have m0 : 0 ≤ n % (h - lo + 1) := Int.emod_nonneg _ (by omega)
  have m1 : n % (h - lo + 1) < h - lo + 1 := Int.emod_lt_of_pos _ (by omega)
  have K := Aside0.mk hk; clear hk
  have R := Aside0.mk hr; clear hr
  have NO := Aside0.mk hno; clear hno
  go_enter Try.func6, Try.ntmps6
  subst q2
  go_wp2_with (first | (go_at_call 8; (with_reducible refine (examples_c _).mono ?_); rintro e w1 ⟨rfl, hb⟩) | (go_at_call 9; (with_reducible refine (round_at _ h _ (R.out _ (by omega) (by omega)) (fit_yes _ (by omega) (by omega))).mono ?_); rintro e w' ⟨rfl, ⟨nd, rfl⟩⟩) | (go_at_call 13; (with_reducible refine (classes_c _).mono ?_); rintro e w2 ⟨g, c, rfl, hb2, hcs⟩; have hc1 := cell_var hcs i h0 h7 e2; have hc6 := cell_six hcs; have hc2 := cell_pred hcs i q1 h7 e3; clear hcs) | (go_at_call 15; (first | (with_reducible refine (class_at _ i _ (K.out _ (by omega) (by omega))).mono ?_) | (with_reducible refine (class_at _ (-1) _ (NO.out _ (by omega))).mono ?_)); rintro e w' ⟨rfl, ⟨nd, rfl⟩⟩))
  go_quiet (fail)
  go_wp2_with (first | (go_at_call 8; (with_reducible refine (examples_c _).mono ?_); rintro e w1 ⟨rfl, hb⟩) | (go_at_call 9; (with_reducible refine (round_at _ h _ (R.out _ (by omega) (by omega)) (fit_yes _ (by omega) (by omega))).mono ?_); rintro e w' ⟨rfl, ⟨nd, rfl⟩⟩) | (go_at_call 13; (with_reducible refine (classes_c _).mono ?_); rintro e w2 ⟨g, c, rfl, hb2, hcs⟩; have hc1 := cell_var hcs i h0 h7 e2; have hc6 := cell_six hcs; have hc2 := cell_pred hcs i q1 h7 e3; clear hcs) | (go_at_call 15; (first | (with_reducible refine (class_at _ i _ (K.out _ (by omega) (by omega))).mono ?_) | (with_reducible refine (class_at _ (-1) _ (NO.out _ (by omega))).mono ?_)); rintro e w' ⟨rfl, ⟨nd, rfl⟩⟩))
  go_ret
  exact ⟨rfl, pw_below_drewN (below_step hb hb2) _⟩

theorem SizeClasses_walk (k n : Int) (w : World) (w0 : (Lit.int .u8 k).wf = true) (w1 : (Lit.int .u16 n).wf = true) :
    Calls Try.prog 6 #[.int .u8 k, .int .u16 n] w fun e w' => e = .returned (.bool true) ∧ Below w.heap.size w w' := by
  obtain ⟨p1, p2⟩ := Go.bounds_u8 w0
  obtain ⟨q1, q2⟩ := Go.bounds_u16 w1
  obtain ⟨i, ei⟩ : ∃ i, k % 7 = i := ⟨_, rfl⟩
  have hno : ∀ a, (a < 0 ∨ 1024 < a) → cls a = -1 := by
    intro a h
    unfold cls
    repeat' split
    all_goals omega
  have i0 : 0 ≤ i := by omega
  have i7 : i < 7 := by omega
  rcases Int.lt_or_le 0 i with hp | hp
  · have z : i = 1 ∨ i = 2 ∨ i = 3 ∨ i = 4 ∨ i = 5 ∨ i = 6 := by omega
    rcases z with z | z | z | z | z | z
    all_goals
      refine classes_hi k n i (rd sevens i) (rd sevens (i - 1) + 1) p1 q1 q2 ei i0 i7 rfl ?_ ?_ ?_ ?_ ?_ hno (rd sevens (i - 1)) (by omega) rfl rfl ?_ ?_ w
      all_goals subst z
      all_goals first | decide | (intro a h1 h2; simp [rd, sevens] at h1 h2; unfold cls; (repeat' split); all_goals omega) | (intro a h1 h2; simp [rd, sevens] at h1 h2; unfold rnd; simp only [rd, sevens]; (repeat' split); all_goals (first | omega | (simp; omega) | simp))
  · obtain rfl : i = 0 := by omega
    refine classes_lo k n 0 16 0 p1 q1 q2 ei (by omega) (by omega) (by decide) (by omega) (by omega) (by omega) ?_ ?_ hno (by omega) rfl w
    · intro a h1 h2
      unfold cls
      repeat' split
      all_goals omega
    · intro a h1 h2
      unfold rnd
      repeat' split
      all_goals omega
end Go.Proofs.Ytokfmhgbkladdaa.Hand
