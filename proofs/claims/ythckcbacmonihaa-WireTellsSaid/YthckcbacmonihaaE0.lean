/- Numbers as bytes, in plain words; package codec's Put, and the reference's Put, Get, in a closed form. -/
import Derived.Test.YthckcbacmonihaaPWireTellsx1
import Derived.Test.YthckcbacmonihaaPWireTellsx2
import Derived.Test.YthckcbacmonihaaPWireTellsx3
import Derived.Test.YthckcbacmonihaaPWireTellsx4
import Derived.Test.YthckcbacmonihaaPWireTellsx5
import Derived.OpenShut
set_option linter.unusedVariables false
namespace Go.Proofs.Ythckcbacmonihaa.Hand
open Go.RowKit Go.Proofs.Ythckcbacmonihaa.PWireTells Go.Proofs.YthckcbacmonihaaW.PrintWords Go.Proofs.YthckcbacmonihaaW.PrintLast Go.Proofs.YthckcbacmonihaaW.PrintMore

/-- The last i bytes of a number, the greatest first. -/
def dg : Nat → Int → List Int
  | 0, _ => []
  | i + 1, n => (n / 256 ^ i % 256) :: dg i n
theorem dg_len (i : Nat) (n : Int) : (dg i n).length = i := by induction i with | zero => rfl | succ i ih => simp [dg, ih]
theorem w_id {x : Int} (h0 : -9223372036854775808 ≤ x) (h1 : x ≤ 9223372036854775807) : wrap64 x = x := by unfold wrap64; omega
theorem u_id {x : Int} (h0 : 0 ≤ x) (h1 : x ≤ 18446744073709551615) : IntKind.u64.wrap x = x := by rw [IntKind.wrap_u64]; omega
theorem pow8 (i : Nat) : (2 : Int) ^ (8 * i) = 256 ^ i := by rw [Int.pow_mul]; rfl
theorem pow_pos256 (i : Nat) : 0 < (256 : Int) ^ i := Int.pow_pos (by decide)
theorem set_mid (m : Nat) (x : Int) (T : List Int) : (List.replicate (m + 1) 0 ++ T).set m x = List.replicate m 0 ++ x :: T := by
  rw [List.replicate_succ', List.append_assoc, List.set_append_right _ _ (by simp)]
  simp
def putV (w n : Int) : ByteArray × Bool := if w < 1 then (⟨#[]⟩, false) else if w > 8 then (⟨#[]⟩, false) else if n / 256 ^ w.toNat = 0 then (strOfNums (dg w.toNat n), true) else (⟨#[]⟩, false)

theorem put_l0 (n : Int) (h0 : 0 ≤ n) (h1 : n ≤ 18446744073709551615) (w : Nat) (hw : w ≤ 8) : ∀ (d i k : Nat), i + d = w → d < k →
    codec_Put.l0 k (w : Int) n (List.replicate (w - i) 0 ++ dg i n) (w : Int) (i : Int) = some (strOfNums (dg w n), true) := by
  intro d
  induction d with
  | zero =>
    intro i k hi hk
    obtain ⟨k, rfl⟩ : ∃ m, k = m + 1 := ⟨k - 1, by omega⟩
    obtain rfl : i = w := by omega
    simp only [codec_Put.l0]
    rw [if_neg (by omega), Nat.sub_self]
    rfl
  | succ d ih =>
    intro i k hi hk
    obtain ⟨k, rfl⟩ : ∃ m, k = m + 1 := ⟨k - 1, by omega⟩
    have e1 : wrap64 (8 * (i : Int)) = ((8 * i : Nat) : Int) := by rw [w_id (by omega) (by omega)]; omega
    have e2 : wrap64 (wrap64 ((w : Int) - 1) - (i : Int)) = ((w - i - 1 : Nat) : Int) := by rw [w_id (x := (w : Int) - 1) (by omega) (by omega), w_id (by omega) (by omega)]; omega
    have e3 : wrap64 ((i : Int) + 1) = ((i + 1 : Nat) : Int) := by rw [w_id (by omega) (by omega)]; omega
    have e4 : shr .u64 n ((8 * i : Nat) : Int) = n / 256 ^ i := by
      unfold shr
      rw [Int.toNat_natCast, show min (8 * i) (IntKind.u64.bits) = 8 * i from by simp [IntKind.bits]; omega, pow8]
    simp only [codec_Put.l0]
    rw [if_pos (by omega), e1, e2, e3, e4, if_pos (by omega), if_pos (by omega), if_pos (by simp [dg_len]; omega), Int.toNat_natCast]
    obtain ⟨m, hm⟩ : ∃ m, w - i = m + 1 := ⟨w - i - 1, by omega⟩
    rw [hm, Nat.add_sub_cancel, set_mid, show m = w - (i + 1) from by omega]
    exact ih (i + 1) k (by omega) (by omega)
theorem put_f (w n : Int) (h0 : 0 ≤ n) (h1 : n ≤ 18446744073709551615) : codec_Put.f 12 w n = some (putV w n) := by
  unfold codec_Put.f putV
  by_cases a : w < 1
  · rw [if_pos a, if_pos a]; rfl
  rw [if_neg a, if_neg a]
  by_cases b : w > 8
  · rw [if_pos b, if_pos b]; rfl
  rw [if_neg b, if_neg b]
  obtain ⟨m, rfl⟩ := Int.eq_ofNat_of_zero_le (show 0 ≤ w by omega)
  have key : codec_Put.j0 12 (m : Int) n false = some (strOfNums (dg m n), true) := by
    simp only [codec_Put.j0]
    rw [if_neg (by decide), if_pos (by omega), Int.toNat_natCast, if_pos (by omega)]
    have := put_l0 n h0 h1 m (by omega) m 0 11 (by omega) (by omega)
    simpa [dg] using this
  rw [Int.toNat_natCast]
  by_cases c : (m : Int) < 8
  · have e1 : wrap64 (8 * (m : Int)) = ((8 * m : Nat) : Int) := by rw [w_id (by omega) (by omega)]; omega
    have e4 : shr .u64 n ((8 * m : Nat) : Int) = n / 256 ^ m := by
      unfold shr
      rw [Int.toNat_natCast, show min (8 * m) (IntKind.u64.bits) = 8 * m from by simp [IntKind.bits]; omega, pow8]
    rw [if_pos c, e1, e4, if_pos (by omega)]
    by_cases z : n / 256 ^ m = 0
    · rw [if_pos z, z]; exact key
    · rw [if_neg z, show (n / 256 ^ m != 0) = true from by simpa using z]; rfl
  · obtain rfl : m = 8 := by omega
    rw [if_neg c, if_pos (by have : (256 : Int) ^ 8 = 18446744073709551616 := by decide
                             rw [this]; omega)]
    exact key
theorem put_c (w n : Int) (h0 : 0 ≤ n) (h1 : n ≤ 18446744073709551615) (W : World) : Calls Try.prog 34 #[.int .i64 w, .int .u64 n] W fun e w' => e = .returned (.tuple #[.string (putV w n).1, .bool (putV w n).2]) ∧ Below W.heap.size W w' :=
  codec_Put.calls 12 w n _ _ W (put_f w n h0 h1)

theorem str_cons (x : Int) (l : List Int) : strOfNums [x] ++ strOfNums l = strOfNums (x :: l) := by
  unfold strOfNums
  apply ByteArray.ext
  simp [ByteArray.data_append]
theorem str_size (l : List Int) : (strOfNums l).size = l.length := by simp [strOfNums, ByteArray.size]
theorem rput_l0 (w : Nat) (hw : w ≤ 8) (n0 : Int) (h0 : 0 ≤ n0) (h1 : n0 ≤ 18446744073709551615) : ∀ (d i k : Nat) , i + d = w → d < k →
    jettisonref02_Put.l0 k (w : Int) (n0 / 256 ^ i) (strOfNums (dg i n0)) (i : Int) = if n0 / 256 ^ w = 0 then some (strOfNums (dg w n0), true) else some (⟨#[]⟩, false) := by
  intro d
  induction d with
  | zero =>
    intro i k hi hk
    obtain ⟨k, rfl⟩ : ∃ m, k = m + 1 := ⟨k - 1, by omega⟩
    obtain rfl : i = w := by omega
    have hq : 0 ≤ n0 / 256 ^ i := Int.ediv_nonneg h0 (Int.le_of_lt (pow_pos256 i))
    simp only [jettisonref02_Put.l0]
    rw [if_neg (by omega)]
    by_cases z : n0 / 256 ^ i = 0
    · rw [if_pos z, if_neg (by omega)]
    · rw [if_neg z, if_pos (by omega)]
  | succ d ih =>
    intro i k hi hk
    obtain ⟨k, rfl⟩ : ∃ m, k = m + 1 := ⟨k - 1, by omega⟩
    have hq : 0 ≤ n0 / 256 ^ i := Int.ediv_nonneg h0 (Int.le_of_lt (pow_pos256 i))
    have hq2 : n0 / 256 ^ i ≤ n0 := Int.ediv_le_self _ h0
    have e3 : wrap64 ((i : Int) + 1) = ((i + 1 : Nat) : Int) := by rw [w_id (by omega) (by omega)]; omega
    have e5 : n0 / 256 ^ i / 256 = n0 / 256 ^ (i + 1) := by rw [Int.pow_succ, Int.ediv_ediv_of_nonneg (Int.le_of_lt (pow_pos256 i))]
    simp only [jettisonref02_Put.l0, Option.bind_some]
    rw [if_pos (by omega), if_pos (by rw [str_size, str_size, dg_len]; simp; omega), Int.tmod_eq_emod_of_nonneg hq, Int.tdiv_eq_ediv_of_nonneg hq, Int.emod_emod_of_dvd _ (Int.dvd_refl _), str_cons, e5, u_id (Int.ediv_nonneg h0 (Int.le_of_lt (pow_pos256 _))) (by have := Int.ediv_le_self (256 ^ (i + 1)) h0; omega), e3]
    exact ih (i + 1) k (by omega) (by omega)
theorem rput_f (w n : Int) (h0 : 0 ≤ n) (h1 : n ≤ 18446744073709551615) : jettisonref02_Put.f 12 w n = some (putV w n) := by
  unfold jettisonref02_Put.f putV
  by_cases a : w < 1
  · rw [if_pos a, if_pos a]; rfl
  rw [if_neg a, if_neg a]
  by_cases b : w > 8
  · rw [if_pos b, decide_eq_true b]; rfl
  rw [if_neg b, decide_eq_false b]
  obtain ⟨m, rfl⟩ := Int.eq_ofNat_of_zero_le (show 0 ≤ w by omega)
  have := rput_l0 m (by omega) n h0 h1 m 0 11 (by omega) (by omega)
  simp only [jettisonref02_Put.j0, Bool.false_eq_true, if_false, Int.toNat_natCast]
  rw [show (n / 256 ^ 0) = n from by simp] at this
  refine Eq.trans this ?_
  split <;> rfl
end Go.Proofs.Ythckcbacmonihaa.Hand
