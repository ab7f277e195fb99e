/- Plain facts on the sizes of blocks, and the calls of package size in a closed form. -/
import Derived.Test.YtdnpfnoobjbanaaPArenaPlaysx1
import Derived.Test.YtdnpfnoobjbanaaPArenaPlaysx2
set_option linter.unusedVariables false
namespace Go.Proofs.Ytdnpfnoobjbanaa.Hand
open Go.RowKit Go.Proofs.Ytdnpfnoobjbanaa.PArenaPlays Go.Proofs.YtdnpfnoobjbanaaW.PrintWords Go.Proofs.YtdnpfnoobjbanaaW.PrintLast Go.Proofs.YtdnpfnoobjbanaaW.PrintMore

def cls (n : Int) : Int := if n < 0 then -1 else if n ≤ 16 then 0 else if n ≤ 32 then 1 else if n ≤ 64 then 2 else if n ≤ 128 then 3 else if n ≤ 256 then 4 else if n ≤ 512 then 5 else if n ≤ 1024 then 6 else -1
def rnd (n : Int) : Int := if n < 0 then 0 else if n ≤ 16 then 16 else if n ≤ 32 then 32 else if n ≤ 64 then 64 else if n ≤ 128 then 128 else if n ≤ 256 then 256 else if n ≤ 512 then 512 else if n ≤ 1024 then 1024 else 0
def fit (n : Int) : Bool := decide (0 ≤ n) && decide (n ≤ 1024)

theorem shl0 : shl .i64 16 0 = 16 := by decide
theorem shl1 : shl .i64 16 1 = 32 := by decide
theorem shl2 : shl .i64 16 2 = 64 := by decide
theorem shl3 : shl .i64 16 3 = 128 := by decide
theorem shl4 : shl .i64 16 4 = 256 := by decide
theorem shl5 : shl .i64 16 5 = 512 := by decide
theorem shl6 : shl .i64 16 6 = 1024 := by decide
theorem w01 : wrap64 (0 + 1) = 1 := by unfold wrap64; omega
theorem w12 : wrap64 (1 + 1) = 2 := by unfold wrap64; omega
theorem w23 : wrap64 (2 + 1) = 3 := by unfold wrap64; omega
theorem w34 : wrap64 (3 + 1) = 4 := by unfold wrap64; omega
theorem w45 : wrap64 (4 + 1) = 5 := by unfold wrap64; omega
theorem w56 : wrap64 (5 + 1) = 6 := by unfold wrap64; omega
theorem w67 : wrap64 (6 + 1) = 7 := by unfold wrap64; omega

theorem class_f (n : Int) : size_Class.f 10 n = some (cls n) := by
  unfold size_Class.f cls
  by_cases h : n < 0
  · simp [h, size_Class.j0]
  · rw [if_neg h, if_neg h]
    by_cases h2 : n > 1024
    · rw [decide_eq_true h2]
      simp only [size_Class.j0, if_true]
      repeat rw [if_neg (by omega)]
    · rw [decide_eq_false h2]
      simp only [size_Class.j0, Bool.false_eq_true, if_false, size_Class.l0, shl0, shl1, shl2, shl3, shl4, shl5, shl6, w01, w12, w23, w34, w45, w56]
      simp only [show (0 : Int) ≤ 0 from by decide, show (0 : Int) ≤ 1 from by decide, show (0 : Int) ≤ 2 from by decide, show (0 : Int) ≤ 3 from by decide, show (0 : Int) ≤ 4 from by decide, show (0 : Int) ≤ 5 from by decide, show (0 : Int) ≤ 6 from by decide, if_true]
      repeat' split
      all_goals first | rfl | omega

theorem round_f (n : Int) : size_Round.f 10 n = some (rnd n, fit n) := by
  unfold size_Round.f
  rw [class_f]
  simp only [Option.bind_some]
  unfold cls rnd fit
  repeat' split
  all_goals first | omega | (simp [shl0, shl1, shl2, shl3, shl4, shl5, shl6]; try omega)

theorem class_c (n : Int) (w : World) : Calls Try.prog 37 #[.int .i64 n] w fun e w' => e = .returned (.int .i64 (cls n)) ∧ Drawn0 w w' := size_Class.calls 10 n _ w (class_f n)
theorem round_c (n : Int) (w : World) : Calls Try.prog 19 #[.int .i64 n] w fun e w' => e = .returned (.tuple #[.int .i64 (rnd n), .bool (fit n)]) ∧ Drawn0 w w' := size_Round.calls 10 n _ _ w (round_f n)

def sevens : List Int := [16, 32, 64, 128, 256, 512, 1024]
theorem seven (a : Int) (h0 : 0 ≤ a) (h1 : a ≤ 1024) : (cls a = 0 ∧ rnd a = 16 ∧ a ≤ 16) ∨ (cls a = 1 ∧ rnd a = 32 ∧ 17 ≤ a ∧ a ≤ 32) ∨ (cls a = 2 ∧ rnd a = 64 ∧ 33 ≤ a ∧ a ≤ 64) ∨ (cls a = 3 ∧ rnd a = 128 ∧ 65 ≤ a ∧ a ≤ 128)
    ∨ (cls a = 4 ∧ rnd a = 256 ∧ 129 ≤ a ∧ a ≤ 256) ∨ (cls a = 5 ∧ rnd a = 512 ∧ 257 ≤ a ∧ a ≤ 512) ∨ (cls a = 6 ∧ rnd a = 1024 ∧ 513 ≤ a ∧ a ≤ 1024) := by
  unfold cls rnd
  repeat' split
  all_goals omega
theorem rnd_facts (a : Int) (h0 : 0 ≤ a) (h1 : a ≤ 1024) : a ≤ rnd a ∧ (a < 17 → rnd a = 16) ∧ (17 ≤ a → rnd a < 2 * a) ∧ rnd (rnd a) = rnd a ∧ 16 ≤ rnd a ∧ rnd a ≤ 1024 ∧ 0 ≤ cls a ∧ cls a < 7 ∧ rd sevens (cls a) = rnd a ∧ (1 ≤ cls a → rd sevens (cls a - 1) < a) := by
  rcases seven a h0 h1 with ⟨hc, hr, h⟩ | ⟨hc, hr, h⟩ | ⟨hc, hr, h⟩ | ⟨hc, hr, h⟩ | ⟨hc, hr, h⟩ | ⟨hc, hr, h⟩ | ⟨hc, hr, h⟩ <;> rw [hc, hr] <;> refine ⟨by omega, by omega, by omega, by decide, by decide, by decide, by decide, by decide, by decide, fun h2 => ?_⟩ <;>
    first | omega | (simp [rd, sevens]; omega)
theorem rnd_mono (a b : Int) (h0 : 0 ≤ a) (h1 : b ≤ 1024) (h : a ≤ b) : rnd a ≤ rnd b := by
  unfold rnd
  repeat' split
  all_goals omega
theorem fit_yes (a : Int) (h0 : 0 ≤ a) (h1 : a ≤ 1024) : fit a = true := by simp [fit, h0, h1]

def sumGo : Int → List Int → Int × Bool
  | s, [] => (s, true)
  | s, a :: r => if fit a = true then (if s + rnd a > 2147483647 then (0, false) else sumGo (s + rnd a) r) else (0, false)
def sumV (l : List Int) : Int × Bool := sumGo 0 l
def tot : List Int → Int
  | [] => 0
  | a :: r => rnd a + tot r

theorem rnd_le (a : Int) : 0 ≤ rnd a ∧ rnd a ≤ 1024 := by
  unfold rnd
  repeat' split
  all_goals omega
theorem round_k (n : Int) (k : Nat) (h : 10 ≤ k) : size_Round.f k n = some (rnd n, fit n) := at_rounds (size_Round.mono n) h (round_f n)

theorem wrap_small {x : Int} (h0 : 0 ≤ x) (h1 : x ≤ 9223372036854775807) : wrap64 x = x := by unfold wrap64; omega

theorem sum_l0 (l : List Int) (hl : l.length ≤ 9223372036854775806) : ∀ (d i : Nat) (s : Int) (k : Nat), i + d = l.length → d + 10 < k → 0 ≤ s → s ≤ 2147483647 →
    size_Sum.l0 k l s (l.length : Int) (i : Int) = some (sumGo s (l.drop i)) := by
  intro d
  induction d with
  | zero =>
    intro i s k hi hk h0 h1
    obtain ⟨k, rfl⟩ : ∃ m, k = m + 1 := ⟨k - 1, by omega⟩
    simp only [size_Sum.l0]
    rw [if_neg (by omega), List.drop_eq_nil_of_le (by omega)]
    rfl
  | succ d ih =>
    intro i s k hi hk h0 h1
    obtain ⟨k, rfl⟩ : ∃ m, k = m + 1 := ⟨k - 1, by omega⟩
    have hlt : i < l.length := by omega
    have hr := rnd_le (l[i])
    have hrd : rd l (i : Int) = l[i] := by simp [rd, hlt]
    simp only [size_Sum.l0]
    rw [if_pos (by omega), if_pos (by omega), if_pos (by omega), hrd, round_k _ _ (by omega)]
    simp only [Option.bind_some]
    rw [List.drop_eq_getElem_cons hlt, sumGo, wrap_small (x := s + rnd l[i]) (by omega) (by omega), wrap_small (x := (i : Int) + 1) (by omega) (by omega)]
    split
    · split
      · rfl
      · exact ih (i + 1) _ k (by omega) (by omega) (by omega) (by omega)
    · rfl
theorem sum_f (l : List Int) (hl : l.length ≤ 9223372036854775806) : size_Sum.f (l.length + 11) l = some (sumV l) :=
  sum_l0 l hl l.length 0 0 _ (by omega) (by omega) (by omega) (by omega)
theorem sum_c (A : Option Addr) (c : Nat) (l : List Int) (w : World) (hr : Kd.C (Kd.int .i64) w A l.length l) (hc : l.length ≤ c) (hl : l.length ≤ 9223372036854775806) :
    Calls Try.prog 20 #[.slice A l.length c] w fun e w' => e = .returned (.tuple #[.int .i64 (sumV l).1, .bool (sumV l).2]) ∧ Drawn0 w w' :=
  size_Sum.calls _ A c l _ _ w hr hc (sum_f l hl)

theorem sumGo_ok : ∀ (l : List Int) (s : Int), (∀ a ∈ l, fit a = true) → 0 ≤ s → s + 1024 * l.length ≤ 2147483647 → sumGo s l = (s + tot l, true)
  | [], s, _, _, _ => by simp [sumGo, tot]
  | a :: r, s, h, h0, h1 => by
    have hr := rnd_le a
    simp only [List.length_cons] at h1
    rw [sumGo, if_pos (h a (by simp)), if_neg (by omega), sumGo_ok r _ (fun x hx => h x (by simp [hx])) (by omega) (by omega), tot, Int.add_assoc]
theorem sumGo_bad : ∀ (l : List Int) (s : Int) (b : Int), (∀ a ∈ l, fit a = true) → fit b = false → sumGo s (l ++ [b]) = (0, false)
  | [], s, b, _, hb => by simp [sumGo, hb]
  | a :: r, s, b, h, hb => by
    rw [List.cons_append, sumGo, if_pos (h a (by simp))]
    split
    · rfl
    · exact sumGo_bad r _ b (fun x hx => h x (by simp [hx])) hb
theorem tot_append (l m : List Int) : tot (l ++ m) = tot l + tot m := by
  induction l with
  | nil => simp [tot]
  | cons a r ih => simp [tot, ih]; omega
end Go.Proofs.Ytdnpfnoobjbanaa.Hand
