/- Package size in plain words: what Sum answers, of any list. -/
import Derived.Test.YtokfmhgbkladdaaS0
import Derived.Test.YtokfmhgbkladdaaT0
import Derived.Test.YtokfmhgbkladdaaPSumx1
set_option linter.unusedVariables false
namespace Go.Proofs.Ytokfmhgbkladdaa.Hand
open Go.RowKit Go.Proofs.Ytokfmhgbkladdaa.PSizeTells Go.Proofs.YtokfmhgbkladdaaW.PrintWords Go.Proofs.YtokfmhgbkladdaaW.PrintLast Go.Proofs.YtokfmhgbkladdaaW.PrintMore

def sumGo : Int → List Int → Int × Bool
  | s, [] => (s, true)
  | s, a :: r => if fit a = true then (if s + rnd a > 2147483647 then (0, false) else sumGo (s + rnd a) r) else (0, false)
def sumV (l : List Int) : Int × Bool := sumGo 0 l
def tot : List Int → Int
  | [] => 0
  | a :: r => rnd a + tot r

theorem rnd_le (a : Int) : 0 ≤ rnd a ∧ rnd a ≤ 1024 := by
  unfold rnd
  repeat' split
  all_goals omega
theorem round_k (n : Int) (k : Nat) (h : 10 ≤ k) : size_Round.f k n = some (rnd n, fit n) := at_rounds (size_Round.mono n) h (round_f n)

theorem wrap_small {x : Int} (h0 : 0 ≤ x) (h1 : x ≤ 9223372036854775807) : wrap64 x = x := by unfold wrap64; omega

theorem sum_l0 (l : List Int) (hl : l.length ≤ 9223372036854775806) : ∀ (d i : Nat) (s : Int) (k : Nat), i + d = l.length → d + 10 < k → 0 ≤ s → s ≤ 2147483647 →
    size_Sum.l0 k l s (l.length : Int) (i : Int) = some (sumGo s (l.drop i)) := by
  intro d
  induction d with
  | zero =>
    intro i s k hi hk h0 h1
    obtain ⟨k, rfl⟩ : ∃ m, k = m + 1 := ⟨k - 1, by omega⟩
    simp only [size_Sum.l0]
    rw [if_neg (by omega), List.drop_eq_nil_of_le (by omega)]
    rfl
  | succ d ih =>
    intro i s k hi hk h0 h1
    obtain ⟨k, rfl⟩ : ∃ m, k = m + 1 := ⟨k - 1, by omega⟩
    have hlt : i < l.length := by omega
    have hr := rnd_le (l[i])
    have hrd : rd l (i : Int) = l[i] := by simp [rd, hlt]
    simp only [size_Sum.l0]
    rw [if_pos (by omega), if_pos (by omega), if_pos (by omega), hrd, round_k _ _ (by omega)]
    simp only [Option.bind_some]
    rw [List.drop_eq_getElem_cons hlt, sumGo, wrap_small (x := s + rnd l[i]) (by omega) (by omega), wrap_small (x := (i : Int) + 1) (by omega) (by omega)]
    split
    · split
      · rfl
      · exact ih (i + 1) _ k (by omega) (by omega) (by omega) (by omega)
    · rfl
theorem sum_f (l : List Int) (hl : l.length ≤ 9223372036854775806) : size_Sum.f (l.length + 11) l = some (sumV l) :=
  sum_l0 l hl l.length 0 0 _ (by omega) (by omega) (by omega) (by omega)
theorem sum_c (A : Option Addr) (c : Nat) (l : List Int) (w : World) (hr : Kd.C (Kd.int .i64) w A l.length l) (hc : l.length ≤ c) (hl : l.length ≤ 9223372036854775806) :
    Calls Try.prog 11 #[.slice A l.length c] w fun e w' => e = .returned (.tuple #[.int .i64 (sumV l).1, .bool (sumV l).2]) ∧ Drawn0 w w' :=
  size_Sum.calls _ A c l _ _ w hr hc (sum_f l hl)

theorem sumGo_ok : ∀ (l : List Int) (s : Int), (∀ a ∈ l, fit a = true) → 0 ≤ s → s + 1024 * l.length ≤ 2147483647 → sumGo s l = (s + tot l, true)
  | [], s, _, _, _ => by simp [sumGo, tot]
  | a :: r, s, h, h0, h1 => by
    have hr := rnd_le a
    simp only [List.length_cons] at h1
    rw [sumGo, if_pos (h a (by simp)), if_neg (by omega), sumGo_ok r _ (fun x hx => h x (by simp [hx])) (by omega) (by omega), tot, Int.add_assoc]
theorem sumGo_bad : ∀ (l : List Int) (s : Int) (b : Int), (∀ a ∈ l, fit a = true) → fit b = false → sumGo s (l ++ [b]) = (0, false)
  | [], s, b, _, hb => by simp [sumGo, hb]
  | a :: r, s, b, h, hb => by
    rw [List.cons_append, sumGo, if_pos (h a (by simp))]
    split
    · rfl
    · exact sumGo_bad r _ b (fun x hx => h x (by simp [hx])) hb
theorem tot_append (l m : List Int) : tot (l ++ m) = tot l + tot m := by
  induction l with
  | nil => simp [tot]
  | cons a r ih => simp [tot, ih]; omega
end Go.Proofs.Ytokfmhgbkladdaa.Hand
