/- Bytes and numbers: the plain laws of chapter 2. No walk. -/
import Derived.Test.YthckcbacmonihaaE9
import Derived.Lib.Bytes
set_option linter.unusedVariables false
namespace Go.Proofs.Ythckcbacmonihaa.Hand
open Go.RowKit Go.Proofs.YthckcbacmonihaaW.PrintWords Go.Proofs.YthckcbacmonihaaW.PrintLast Go.Proofs.YthckcbacmonihaaW.PrintMore

theorem bt_nat (s : ByteArray) (j : Nat) (h : j < s.size) : bt s (j : Int) = ((s[j]'h).toNat : Int) := by
  have := bt_at s (j : Int) (by simpa using h)
  simpa using this.symm
theorem bt_left (P S : ByteArray) (j : Nat) (h : j < P.size) : bt (P ++ S) (j : Int) = bt P (j : Int) := by
  rw [bt_nat P j h, bt_nat (P ++ S) j (by rw [ByteArray.size_append]; omega), ByteArray.getElem_append_left h]
theorem bt_right (P S : ByteArray) (j : Nat) (h : j < S.size) : bt (P ++ S) ((P.size + j : Nat) : Int) = bt S (j : Int) := by
  rw [bt_nat S j h, bt_nat (P ++ S) (P.size + j) (by rw [ByteArray.size_append]; omega), ByteArray.getElem_append_right (by omega)]
  simp
theorem beI_congr (X Y : ByteArray) (a b : Nat) : ∀ k, (∀ j, j < k → bt X ((a + j : Nat) : Int) = bt Y ((b + j : Nat) : Int)) → beI X a k = beI Y b k
  | 0, _ => rfl
  | k + 1, h => by rw [beI, beI, beI_congr X Y a b k (fun j hj => h j (by omega)), h k (by omega)]
theorem beI_mid (P S Q : ByteArray) (o k : Nat) (h : o + k ≤ S.size) : beI (P ++ S ++ Q) (P.size + o) k = beI S o k := by
  refine beI_congr _ _ _ _ k fun j hj => ?_
  rw [bt_left (P ++ S) Q (P.size + o + j) (by rw [ByteArray.size_append]; omega), show P.size + o + j = P.size + (o + j) from by omega, bt_right P S (o + j) (by omega)]
theorem beI_end (P S : ByteArray) (o k : Nat) (h : o + k ≤ S.size) : beI (P ++ S) (P.size + o) k = beI S o k := by
  refine beI_congr _ _ _ _ k fun j hj => ?_
  rw [show P.size + o + j = P.size + (o + j) from by omega, bt_right P S (o + j) (by omega)]

theorem byte_of (x : Int) (h0 : 0 ≤ x) (h1 : x < 256) : ((UInt8.ofNat x.toNat).toNat : Int) = x := by
  have : (UInt8.ofNat x.toNat).toNat = x.toNat % 256 := by simp
  rw [this]; omega
theorem dg_at (n : Int) : ∀ (k j : Nat) (h : j < (dg k n).length), (dg k n)[j] = n / 256 ^ (k - 1 - j) % 256
  | k + 1, 0, _ => by simp [dg]
  | k + 1, j + 1, h => by
    simp only [dg, List.getElem_cons_succ]
    rw [dg_at n k j (by simpa [dg] using h), show k + 1 - 1 - (j + 1) = k - 1 - j from by omega]
theorem bt_dg (n : Int) (k j : Nat) (h : j < k) : bt (strOfNums (dg k n)) (j : Int) = n / 256 ^ (k - 1 - j) % 256 := by
  have hl : j < (dg k n).length := by rw [dg_len]; exact h
  rw [bt_nat _ j (by rw [str_size]; exact hl), ← dg_at n k j hl]
  have e : (strOfNums (dg k n))[j]'(by rw [str_size]; exact hl) = UInt8.ofNat ((dg k n)[j]).toNat := by
    show (((dg k n).map fun x => UInt8.ofNat x.toNat).toArray)[j]'(by simp; exact hl) = _
    simp
  rw [e, dg_at n k j hl]
  exact byte_of _ (Int.emod_nonneg _ (by decide)) (Int.emod_lt_of_pos _ (by decide))
theorem emod_split (n N : Int) (hN : 0 < N) : n % (N * 256) = n / N % 256 * N + n % N := by
  have h1 := Int.emod_nonneg n (show N ≠ 0 by omega)
  have h2 := Int.emod_lt_of_pos n hN
  have h3 := Int.emod_nonneg (n / N) (show (256 : Int) ≠ 0 by decide)
  have h4 := Int.emod_lt_of_pos (n / N) (show (0 : Int) < 256 by decide)
  have e1 := Int.mul_ediv_add_emod n N
  have e2 := Int.mul_ediv_add_emod (n / N) 256
  have e3 : n = (n / N % 256 * N + n % N) + (N * 256) * (n / N / 256) := by
    have : N * (n / N) = N * 256 * (n / N / 256) + n / N % 256 * N := by
      rw [Int.mul_assoc, Int.mul_comm (n / N % 256) N, ← Int.mul_add, e2]
    omega
  have h5 : n / N % 256 * N ≤ 255 * N := Int.mul_le_mul_of_nonneg_right (by omega) (by omega)
  have h6 : 0 ≤ n / N % 256 * N := Int.mul_nonneg h3 (by omega)
  calc n % (N * 256) = ((n / N % 256 * N + n % N) + (N * 256) * (n / N / 256)) % (N * 256) := by rw [← e3]
    _ = (n / N % 256 * N + n % N) % (N * 256) := by rw [Int.add_mul_emod_self_left]
    _ = n / N % 256 * N + n % N := Int.emod_eq_of_lt (by omega) (by omega)
theorem beI_dg (n : Int) (h0 : 0 ≤ n) (k : Nat) : ∀ j, j ≤ k → beI (strOfNums (dg k n)) 0 j = n / 256 ^ (k - j) % 256 ^ j
  | 0, _ => by simp [beI, Int.emod_one]
  | j + 1, h => by
    rw [beI, beI_dg n h0 k j (by omega), Nat.zero_add, bt_dg n k j (by omega)]
    obtain ⟨d, hd⟩ : ∃ d, k - j = d + 1 := ⟨k - j - 1, by omega⟩
    have e1 : k - 1 - j = d := by omega
    have e2 : k - (j + 1) = d := by omega
    rw [hd, e1, e2, Int.pow_succ, ← Int.ediv_ediv_of_nonneg (Int.le_of_lt (pow_pos256 d))]
    generalize n / 256 ^ d = m
    have hN := pow_pos256 j
    have a1 := Int.mul_ediv_add_emod m 256
    have a2 := Int.mul_ediv_add_emod (m / 256) (256 ^ j)
    have b1 := Int.emod_nonneg m (show (256 : Int) ≠ 0 by decide)
    have b2 := Int.emod_lt_of_pos m (show (0 : Int) < 256 by decide)
    have b3 := Int.emod_nonneg (m / 256) (show (256 : Int) ^ j ≠ 0 by omega)
    have b4 := Int.emod_lt_of_pos (m / 256) hN
    rw [Int.pow_succ]
    have e3 : m = (m / 256 % 256 ^ j * 256 + m % 256) + (256 ^ j * 256) * (m / 256 / 256 ^ j) := by
      have : 256 * (m / 256) = 256 ^ j * 256 * (m / 256 / 256 ^ j) + m / 256 % 256 ^ j * 256 := by
        rw [Int.mul_comm (256 ^ j) 256, Int.mul_assoc, Int.mul_comm (m / 256 % 256 ^ j) 256, ← Int.mul_add, a2]
      omega
    symm
    calc m % (256 ^ j * 256) = ((m / 256 % 256 ^ j * 256 + m % 256) + (256 ^ j * 256) * (m / 256 / 256 ^ j)) % (256 ^ j * 256) := by rw [← e3]
      _ = (m / 256 % 256 ^ j * 256 + m % 256) % (256 ^ j * 256) := by rw [Int.add_mul_emod_self_left]
      _ = m / 256 % 256 ^ j * 256 + m % 256 := Int.emod_eq_of_lt (by omega) (by omega)
theorem small_mod (n : Int) (h0 : 0 ≤ n) (k : Nat) (h : n / 256 ^ k = 0) : n % 256 ^ k = n := by
  have := Int.mul_ediv_add_emod n (256 ^ k)
  rw [h] at this
  omega
theorem beI_whole (n : Int) (h0 : 0 ≤ n) (k : Nat) (h : n / 256 ^ k = 0) : beI (strOfNums (dg k n)) 0 k = n := by
  rw [beI_dg n h0 k k (Nat.le_refl _), Nat.sub_self, Int.pow_zero, Int.ediv_one, small_mod n h0 k h]
/-- What is put is less, as bytes, just if the number is. -/
theorem less_dg (n m : Int) : ∀ k : Nat, Op.bytesLess ((dg k n).map fun x => UInt8.ofNat x.toNat) ((dg k m).map fun x => UInt8.ofNat x.toNat) = decide (n % 256 ^ k < m % 256 ^ k)
  | 0 => by simp [dg, Op.bytesLess, Int.emod_one]
  | k + 1 => by
    simp only [dg, List.map_cons, Op.bytesLess]
    rw [less_dg n m k, Int.pow_succ, emod_split n _ (pow_pos256 k), emod_split m _ (pow_pos256 k)]
    have hN := pow_pos256 k
    have a1 := Int.emod_nonneg n (show (256 : Int) ^ k ≠ 0 by omega)
    have a2 := Int.emod_lt_of_pos n hN
    have a3 := Int.emod_nonneg m (show (256 : Int) ^ k ≠ 0 by omega)
    have a4 := Int.emod_lt_of_pos m hN
    have b1 := Int.emod_nonneg (n / 256 ^ k) (show (256 : Int) ≠ 0 by decide)
    have b2 := Int.emod_lt_of_pos (n / 256 ^ k) (show (0 : Int) < 256 by decide)
    have b3 := Int.emod_nonneg (m / 256 ^ k) (show (256 : Int) ≠ 0 by decide)
    have b4 := Int.emod_lt_of_pos (m / 256 ^ k) (show (0 : Int) < 256 by decide)
    generalize n / 256 ^ k % 256 = x at *
    generalize m / 256 ^ k % 256 = y at *
    generalize n % 256 ^ k = r at *
    generalize m % 256 ^ k = s at *
    generalize (256 : Int) ^ k = N at *
    have cx : (UInt8.ofNat x.toNat).toNat = x.toNat := by simp; omega
    have cy : (UInt8.ofNat y.toNat).toNat = y.toNat := by simp; omega
    have lt : (UInt8.ofNat x.toNat < UInt8.ofNat y.toNat) ↔ x < y := by rw [UInt8.lt_iff_toNat_lt, cx, cy]; omega
    have eq : (UInt8.ofNat x.toNat = UInt8.ofNat y.toNat) ↔ x = y := by
      constructor
      · intro h; have := congrArg UInt8.toNat h; rw [cx, cy] at this; omega
      · rintro rfl; rfl
    rcases Int.lt_trichotomy x y with h | h | h
    · have : x * N + N ≤ y * N := by have := Int.mul_le_mul_of_nonneg_right (show x + 1 ≤ y by omega) (show 0 ≤ N by omega); rwa [Int.add_mul, Int.one_mul] at this
      simp [lt, h]; omega
    · subst h
      simp
    · have : y * N + N ≤ x * N := by have := Int.mul_le_mul_of_nonneg_right (show y + 1 ≤ x by omega) (show 0 ≤ N by omega); rwa [Int.add_mul, Int.one_mul] at this
      have n1 : ¬ x < y := by omega
      have n2 : ¬ x = y := by omega
      have l1 : decide (UInt8.ofNat x.toNat < UInt8.ofNat y.toNat) = false := decide_eq_false (mt lt.1 n1)
      have l2 : (UInt8.ofNat x.toNat == UInt8.ofNat y.toNat) = false := beq_eq_false_iff_ne.2 (mt eq.1 n2)
      rw [l1, l2]
      simp
      omega
theorem data_str (l : List Int) : (strOfNums l).toList = l.map fun x => UInt8.ofNat x.toNat := by
  rw [Lib.strOfNums_toList]; rfl
theorem less_put (n m : Int) (h0 : 0 ≤ n) (h1 : 0 ≤ m) (k : Nat) (hn : n / 256 ^ k = 0) (hm : m / 256 ^ k = 0) : Op.bytesLess (strOfNums (dg k n)).toList (strOfNums (dg k m)).toList = decide (n < m) := by
  rw [data_str, data_str, less_dg, small_mod n h0 k hn, small_mod m h1 k hm]
theorem same_put (n m : Int) (h0 : 0 ≤ n) (h1 : 0 ≤ m) (k : Nat) (hn : n / 256 ^ k = 0) (hm : m / 256 ^ k = 0) : ((strOfNums (dg k n)).toList == (strOfNums (dg k m)).toList) = decide (n = m) := by
  by_cases h : n = m
  · subst h; simp
  · rw [decide_eq_false h]
    refine beq_eq_false_iff_ne.2 fun e => h ?_
    have : strOfNums (dg k n) = strOfNums (dg k m) := by
      have e2 := e
      rw [data_str, data_str] at e2
      unfold strOfNums
      rw [e2]
    rw [← beI_whole n h0 k hn, ← beI_whole m h1 k hm, this]
end Go.Proofs.Ythckcbacmonihaa.Hand
