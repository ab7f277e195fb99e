/- Package codec's place, Get: the walks. -/
import Derived.Test.YthckcbacmonihaaE0
set_option linter.unusedVariables false
namespace Go.Proofs.Ythckcbacmonihaa.Hand
open Go.RowKit Go.Proofs.Ythckcbacmonihaa.PWireTells Go.Proofs.YthckcbacmonihaaW.PrintWords Go.Proofs.YthckcbacmonihaaW.PrintLast Go.Proofs.YthckcbacmonihaaW.PrintMore

/-- A piece of a string. -/
theorem piece (s : ByteArray) (a n : Nat) (h : a + n ≤ s.size) (W : World) : (Instr.slice 9 (.string s) (some (.int .i64 (a : Int))) (some (.int .i64 ((a : Int) + (n : Int)))) none).run Try.prog W = .ok (.string (s.extract a (a + n))) W := by
  rw [run_slice_string (P := Try.prog) W 9 s .i64 .i64 _ _ Try.underlying9 (by omega) (by omega) (by omega), Int.toNat_natCast, show ((a : Int) + (n : Int)).toNat = a + n from by omega]
set_option maxHeartbeats 400000 in
theorem place1_yes (s : ByteArray) (a n : Nat) (p q : Addr) (w : World) (hp : w.cell? p = some (.int .i64 n)) (hq : w.cell? q = some (.string s)) (hs : s.size ≤ 1000000000000000) (h1 : 1 ≤ n) (h2 : n ≤ 8) (h4 : a + n ≤ s.size) :
    Calls Try.prog 41 #[.int .i64 a, .pointer (some p), .pointer (some q)] w fun e w' => e = .returned (.tuple #[.string (s.extract a (a + n)), .bool true]) ∧ w = w' := by
  have b1 : (1 : Int) ≤ (n : Int) := by omega
  have b2 : (n : Int) ≤ 8 := by omega
  have b3 : (a : Int) ≤ (s.size : Int) - (n : Int) := by omega
  have hsl := piece s a n h4
  go_enter Try.func41, Try.ntmps41
  go_wp2
  go_ret2
  exact ⟨rfl, rfl⟩
set_option maxHeartbeats 400000 in
theorem place1_no (s : ByteArray) (a n : Int) (p q : Addr) (w : World) (hp : w.cell? p = some (.int .i64 n)) (hq : w.cell? q = some (.string s)) (hs : s.size ≤ 1000000000000000) (h : n < 1 ∨ 8 < n ∨ a < 0 ∨ (1 ≤ n ∧ n ≤ 8 ∧ 0 ≤ a ∧ s.size - n < a)) :
    Calls Try.prog 41 #[.int .i64 a, .pointer (some p), .pointer (some q)] w fun e w' => e = .returned (.tuple #[.string ⟨#[]⟩, .bool false]) ∧ w = w' := by
  rcases Int.lt_or_le n 1 with h1 | h1
  · go_enter Try.func41, Try.ntmps41
    go_wp2
    go_ret2
    exact ⟨rfl, rfl⟩
  rcases Int.lt_or_le 8 n with h2 | h2
  · go_enter Try.func41, Try.ntmps41
    go_wp2
    go_ret2
    exact ⟨rfl, rfl⟩
  rcases Int.lt_or_le a 0 with h3 | h3
  · go_enter Try.func41, Try.ntmps41
    go_wp2
    go_ret2
    exact ⟨rfl, rfl⟩
  · have h4 : (s.size : Int) - n < a := by omega
    clear h
    go_enter Try.func41, Try.ntmps41
    go_wp2
    go_ret2
    exact ⟨rfl, rfl⟩
/-- The number that k bytes of s from a on make. -/
def beI (s : ByteArray) (a : Nat) : Nat → Int
  | 0 => 0
  | k + 1 => beI s a k * 256 + bt s ((a + k : Nat) : Int)
theorem beI_bd (s : ByteArray) (a k : Nat) : 0 ≤ beI s a k ∧ beI s a k < 256 ^ k := by
  induction k with
  | zero => simp [beI]
  | succ k ih =>
    have := bt_range s ((a + k : Nat) : Int)
    have e : (256 : Int) ^ (k + 1) = 256 ^ k * 256 := Int.pow_succ ..
    simp only [beI]
    omega
theorem pow_mono256 {i j : Nat} (h : i ≤ j) : (256 : Int) ^ i ≤ 256 ^ j := by
  obtain ⟨d, rfl⟩ := Nat.exists_eq_add_of_le h
  rw [Int.pow_add]
  have h1 := pow_pos256 i
  have h2 := pow_pos256 d
  have h3 := Int.mul_le_mul_of_nonneg_left (show 1 ≤ (256 : Int) ^ d by omega) (Int.le_of_lt h1)
  rwa [Int.mul_one] at h3
theorem or256 (Y b : Int) (h0 : 0 ≤ Y) (h1 : Y ≤ 72057594037927935) (h2 : 0 ≤ b) (h3 : b ≤ 255) : bits .or .u64 (Y * 256) b = Y * 256 + b := by
  obtain ⟨y, rfl⟩ := Int.eq_ofNat_of_zero_le h0
  obtain ⟨c, rfl⟩ := Int.eq_ofNat_of_zero_le h2
  rw [u64_or _ _ (by omega) (by omega) (by omega) (by omega), show ((y : Int) * 256).toNat = 2 ^ 8 * y from by omega, Int.toNat_natCast, ← Nat.two_pow_add_eq_or_of_lt (by omega)]
  omega
theorem bt_extract (s B : ByteArray) (a n i : Nat) (h : s.extract a (a + n) = B) (hn : a + n ≤ s.size) (hi : i < n) : ∀ hb : i < B.size, ((B[i]'hb).toNat : Int) = bt s ((a + i : Nat) : Int) := by
  subst h
  intro hb
  rw [ByteArray.getElem_extract]
  exact bt_at s ((a + i : Nat) : Int) (by rw [Int.toNat_natCast]; omega)
theorem beI_72 (s : ByteArray) (a i : Nat) (h : i ≤ 7) : 0 ≤ beI s a i ∧ beI s a i ≤ 72057594037927935 := by
  have h1 := beI_bd s a i
  have h2 := pow_mono256 h
  have e : (256 : Int) ^ 7 = 72057594037927936 := by decide
  omega
set_option maxHeartbeats 400000 in
theorem get_yes (s : ByteArray) (a n : Nat) (w : World) (hs : s.size ≤ 1000000000000000) (h1 : 1 ≤ n) (h2 : n ≤ 8) (h4 : a + n ≤ s.size) :
    Calls Try.prog 36 #[.string s, .int .i64 a, .int .i64 n] w fun e w' => e = .returned (.tuple #[.int .u64 (beI s a n), .bool true]) ∧ Below w.heap.size w w' := by
  have HB := Aside0.mk (Below.refl w.heap.size w)
  obtain ⟨B, hB⟩ : ∃ B, s.extract a (a + n) = B := ⟨_, rfl⟩
  have hz : B.size = n := by rw [← hB, ByteArray.size_extract]; omega
  have HBe := Aside0.mk hB
  clear hB
  go_enter Try.func36, Try.ntmps36
  go_wp2_with (first | (go_at_call 40; go_in) | (go_at_call 41; (with_reducible refine (place1_yes s a n _ _ _ ?hp ?hq hs h1 h2 h4).mono ?_); (case hp => simp [go_sem]); (case hq => simp [go_sem]); rintro e w' ⟨rfl, rfl⟩; rw [HBe.out]))
  go_loop [6, 9, 20] (fun v6 v9 v20 => ∃ i : Nat, i ≤ n ∧ v20 = .int .i64 i ∧ v6 = .int .u64 (beI s a i)) (fun _ _ v => n - (intOf v).toNat)
  case atStart => exact ⟨0, by omega, rfl, rfl⟩
  case round =>
    obtain ⟨i, hi, rfl, rfl⟩ := hrel
    by_cases hlt : i < n
    · have hYb := beI_72 s a i (by omega)
      have hb := bt_range s ((a + i : Nat) : Int)
      have hBi := bt_extract s B a n i HBe.out h4 hlt
      have HS : Aside0 (beI s a (i + 1) = beI s a i * 256 + bt s ((a + i : Nat) : Int)) := ⟨rfl⟩
      have HO := Aside0.mk (or256 (beI s a i) (bt s ((a + i : Nat) : Int)) hYb.1 hYb.2 hb.1 hb.2)
      obtain ⟨hY0, hY1⟩ := hYb
      obtain ⟨hb0, hb1⟩ := hb
      generalize beI s a i = Y at *
      generalize bt s ((a + i : Nat) : Int) = b at *
      go_wp2
      go_round
      case rel => exact ⟨i + 1, by omega, by go_num, by rw [HS.out, ← HO.out]⟩
      case measure => simp [intOf]; omega
    · obtain rfl : i = n := by omega
      go_wp2
      go_ret2
      exact ⟨rfl, (by repeat (first | (with_reducible first | exact HB.out | apply below_alloc | apply pw_below_drewN | apply below_drew1) | exact HB.out))⟩
set_option maxHeartbeats 400000 in
theorem get_no (s : ByteArray) (a n : Int) (w : World) (hs : s.size ≤ 1000000000000000) (h : n < 1 ∨ 8 < n ∨ a < 0 ∨ (1 ≤ n ∧ n ≤ 8 ∧ 0 ≤ a ∧ s.size - n < a)) :
    Calls Try.prog 36 #[.string s, .int .i64 a, .int .i64 n] w fun e w' => e = .returned (.tuple #[.int .u64 0, .bool false]) ∧ Below w.heap.size w w' := by
  have HB := Aside0.mk (Below.refl w.heap.size w)
  have HH := Aside0.mk h
  clear h
  go_enter Try.func36, Try.ntmps36
  go_wp2_with (first | (go_at_call 40; go_in) | (go_at_call 41; (with_reducible refine (place1_no s a n _ _ _ ?hp ?hq hs HH.out).mono ?_); (case hp => simp [go_sem]); (case hq => simp [go_sem]); rintro e w' ⟨rfl, rfl⟩))
  go_loop [6, 9, 20] (fun v6 v9 v20 => v20 = .int .i64 0 ∧ v6 = .int .u64 0) (fun _ _ v => 0)
  case atStart => exact ⟨rfl, rfl⟩
  case round =>
    obtain ⟨rfl, rfl⟩ := hrel
    go_wp2
    go_ret2
    exact ⟨rfl, (by repeat (first | (with_reducible first | exact HB.out | apply below_alloc | apply pw_below_drewN | apply below_drew1) | exact HB.out))⟩
end Go.Proofs.Ythckcbacmonihaa.Hand
