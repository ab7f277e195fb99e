/- The reference's Class, Round and Sum answer as package size does. -/
import Derived.Test.YtdnpfnoobjbanaaHS
import Derived.Test.YtdnpfnoobjbanaaPArenaPlaysx3
set_option linter.unusedVariables false
namespace Go.Proofs.Ytdnpfnoobjbanaa.Hand
open Go.RowKit Go.Proofs.Ytdnpfnoobjbanaa.PArenaPlays Go.Proofs.YtdnpfnoobjbanaaW.PrintWords Go.Proofs.YtdnpfnoobjbanaaW.PrintLast Go.Proofs.YtdnpfnoobjbanaaW.PrintMore

theorem rd0 : rd [16, 32, 64, 128, 256, 512, 1024] 0 = 16 := by decide
theorem rd1 : rd [16, 32, 64, 128, 256, 512, 1024] 1 = 32 := by decide
theorem rd2 : rd [16, 32, 64, 128, 256, 512, 1024] 2 = 64 := by decide
theorem rd3 : rd [16, 32, 64, 128, 256, 512, 1024] 3 = 128 := by decide
theorem rd4 : rd [16, 32, 64, 128, 256, 512, 1024] 4 = 256 := by decide
theorem rd5 : rd [16, 32, 64, 128, 256, 512, 1024] 5 = 512 := by decide
theorem rd6 : rd [16, 32, 64, 128, 256, 512, 1024] 6 = 1024 := by decide
theorem len7 : (([16, 32, 64, 128, 256, 512, 1024] : List Int).length : Int) = 7 := by decide

theorem rclass_f (n : Int) : jettisonref01_Class.f 20 n = some (cls n) := by
  unfold jettisonref01_Class.f jettisonref01_Classes.f
  simp only [Option.bind_some]
  by_cases h : n < 0
  · simp only [jettisonref01_Class.l0, jettisonref01_Class.j1, len7]
    rw [if_pos (by decide), decide_eq_false (by omega), if_neg (by decide)]
    simp [cls, h]
  · simp only [jettisonref01_Class.l0, jettisonref01_Class.j1, len7, rd0, rd1, rd2, rd3, rd4, rd5, rd6, w01, w12, w23, w34, w45, w56, w67, decide_eq_true (show n ≥ 0 by omega), if_true]
    simp only [show (0 : Int) ≤ 0 from by decide, show (0 : Int) ≤ 1 from by decide, show (0 : Int) ≤ 2 from by decide, show (0 : Int) ≤ 3 from by decide, show (0 : Int) ≤ 4 from by decide, show (0 : Int) ≤ 5 from by decide, show (0 : Int) ≤ 6 from by decide, show (0 : Int) < 7 from by decide, show (1 : Int) < 7 from by decide, show (2 : Int) < 7 from by decide, show (3 : Int) < 7 from by decide, show (4 : Int) < 7 from by decide, show (5 : Int) < 7 from by decide, show (6 : Int) < 7 from by decide, show ¬ (7 : Int) < 7 from by decide, if_true, if_false, Bool.false_eq_true]
    unfold cls
    repeat' split
    all_goals first | rfl | omega

theorem rround_f (n : Int) : jettisonref01_Round.f 20 n = some (rnd n, fit n) := by
  unfold jettisonref01_Round.f
  rw [rclass_f]
  simp only [Option.bind_some, jettisonref01_Classes.f]
  unfold cls rnd fit
  repeat' split
  all_goals first | omega | (simp [rd] at *; try omega)
theorem rround_k (n : Int) (k : Nat) (h : 20 ≤ k) : jettisonref01_Round.f k n = some (rnd n, fit n) := at_rounds (jettisonref01_Round.mono n) h (rround_f n)

theorem rsum_l0 (l : List Int) (hl : l.length ≤ 9223372036854775806) : ∀ (d i : Nat) (s : Int) (k : Nat), i + d = l.length → d + 20 < k → 0 ≤ s → s ≤ 2147483647 →
    jettisonref01_Sum.l0 k l s (i : Int) = some (sumGo s (l.drop i)) := by
  intro d
  induction d with
  | zero =>
    intro i s k hi hk h0 h1
    obtain ⟨k, rfl⟩ : ∃ m, k = m + 1 := ⟨k - 1, by omega⟩
    simp only [jettisonref01_Sum.l0]
    rw [if_neg (by omega), List.drop_eq_nil_of_le (by omega)]
    rfl
  | succ d ih =>
    intro i s k hi hk h0 h1
    obtain ⟨k, rfl⟩ : ∃ m, k = m + 1 := ⟨k - 1, by omega⟩
    have hlt : i < l.length := by omega
    have hr := rnd_le (l[i])
    have hrd : rd l (i : Int) = l[i] := by simp [rd, hlt]
    simp only [jettisonref01_Sum.l0]
    rw [if_pos (by omega), if_pos (by omega), hrd, rround_k _ _ (by omega)]
    simp only [Option.bind_some]
    rw [List.drop_eq_getElem_cons hlt, sumGo, wrap_small (x := s + rnd l[i]) (by omega) (by omega), wrap_small (x := (i : Int) + 1) (by omega) (by omega)]
    split
    · split
      · rfl
      · exact ih (i + 1) _ k (by omega) (by omega) (by omega) (by omega)
    · rfl
theorem rclass_c (n : Int) (w : World) : Calls Try.prog 45 #[.int .i64 n] w fun e w' => e = .returned (.int .i64 (cls n)) ∧ Below w.heap.size w w' := jettisonref01_Class.calls 20 n _ w (rclass_f n)
theorem rround_c (n : Int) (w : World) : Calls Try.prog 38 #[.int .i64 n] w fun e w' => e = .returned (.tuple #[.int .i64 (rnd n), .bool (fit n)]) ∧ Below w.heap.size w w' := jettisonref01_Round.calls 20 n _ _ w (rround_f n)
theorem rsum_c (A : Option Addr) (c : Nat) (l : List Int) (w : World) (hr : Kd.C (Kd.int .i64) w A l.length l) (hc : l.length ≤ c) (hl : l.length ≤ 9223372036854775806) :
    Calls Try.prog 40 #[.slice A l.length c] w fun e w' => e = .returned (.tuple #[.int .i64 (sumV l).1, .bool (sumV l).2]) ∧ Below w.heap.size w w' :=
  jettisonref01_Sum.calls _ A c l _ _ w hr hc (rsum_l0 l hl l.length 0 0 (l.length + 21) (by omega) (by omega) (by omega) (by omega))
theorem rclasses_c (w : World) : Calls Try.prog 46 #[] w fun e w' => ∃ v, e = .returned v ∧ Kd.R (Kd.int .i64) 3 w' w.heap.size (fun _ => True) v sevens ∧ Below w.heap.size w w' :=
  jettisonref01_Classes.calls sevens w rfl
end Go.Proofs.Ytdnpfnoobjbanaa.Hand
