/- Package codec's Get, GetInt and Int in a closed form; so the reference's. -/
import Derived.Test.YthckcbacmonihaaE1
set_option linter.unusedVariables false
namespace Go.Proofs.Ythckcbacmonihaa.Hand
open Go.RowKit Go.Proofs.Ythckcbacmonihaa.PWireTells Go.Proofs.YthckcbacmonihaaW.PrintWords Go.Proofs.YthckcbacmonihaaW.PrintLast Go.Proofs.YthckcbacmonihaaW.PrintMore

def getV (s : ByteArray) (a n : Int) : Int × Bool := if n < 1 then (0, false) else if 8 < n then (0, false) else if a < 0 then (0, false) else if s.size - n < a then (0, false) else (beI s a.toNat n.toNat, true)
theorem getV_no (s : ByteArray) (a n : Int) (h : n < 1 ∨ 8 < n ∨ a < 0 ∨ (1 ≤ n ∧ n ≤ 8 ∧ 0 ≤ a ∧ s.size - n < a)) : getV s a n = (0, false) := by
  unfold getV
  repeat' split
  all_goals first | rfl | omega
theorem get_c (s : ByteArray) (a n : Int) (w : World) (hs : s.size ≤ 1000000000000000) :
    Calls Try.prog 36 #[.string s, .int .i64 a, .int .i64 n] w fun e w' => e = .returned (.tuple #[.int .u64 (getV s a n).1, .bool (getV s a n).2]) ∧ Below w.heap.size w w' := by
  by_cases h : n < 1 ∨ 8 < n ∨ a < 0 ∨ (1 ≤ n ∧ n ≤ 8 ∧ 0 ≤ a ∧ s.size - n < a)
  · have e := getV_no s a n h
    rw [e]
    exact get_no s a n w hs h
  · obtain ⟨x, rfl⟩ := Int.eq_ofNat_of_zero_le (show 0 ≤ a by omega)
    obtain ⟨y, rfl⟩ := Int.eq_ofNat_of_zero_le (show 0 ≤ n by omega)
    have e : getV s x y = (beI s x y, true) := by
      unfold getV
      rw [if_neg (by omega), if_neg (by omega), if_neg (by omega), if_neg (by omega), Int.toNat_natCast, Int.toNat_natCast]
    rw [e]
    exact get_yes s x y w hs (by omega) (by omega) (by omega)
theorem beI_u64 (s : ByteArray) (a k : Nat) (h : k ≤ 8) : 0 ≤ beI s a k ∧ beI s a k ≤ 18446744073709551615 := by
  have h1 := beI_bd s a k
  have h2 := pow_mono256 h
  have e : (256 : Int) ^ 8 = 18446744073709551616 := by decide
  omega
theorem getV_u64 (s : ByteArray) (a n : Int) : 0 ≤ (getV s a n).1 ∧ (getV s a n).1 ≤ 18446744073709551615 := by
  unfold getV
  repeat' split
  all_goals first | exact beI_u64 _ _ _ (by omega) | (simp)
theorem rget_l0 (s : ByteArray) (hs : s.size ≤ 1000000000000000) (a n : Nat) (hn : n ≤ 8) (h4 : a + n ≤ s.size) : ∀ (d i k : Nat), i + d = n → d < k →
    jettisonref02_Get.l0 k s (a : Int) (n : Int) (beI s a i) (i : Int) = some (beI s a n, true) := by
  intro d
  induction d with
  | zero =>
    intro i k hi hk
    obtain ⟨k, rfl⟩ : ∃ m, k = m + 1 := ⟨k - 1, by omega⟩
    obtain rfl : i = n := by omega
    simp only [jettisonref02_Get.l0]
    rw [if_neg (by omega)]
  | succ d ih =>
    intro i k hi hk
    obtain ⟨k, rfl⟩ : ∃ m, k = m + 1 := ⟨k - 1, by omega⟩
    have hb := bt_range s ((a + i : Nat) : Int)
    have h1 := beI_72 s a i (by omega)
    have e1 : wrap64 ((a : Int) + (i : Int)) = ((a + i : Nat) : Int) := by rw [w_id (by omega) (by omega)]; omega
    have e3 : wrap64 ((i : Int) + 1) = ((i + 1 : Nat) : Int) := by rw [w_id (by omega) (by omega)]; omega
    simp only [jettisonref02_Get.l0]
    rw [if_pos (by omega), e1, if_pos (by omega), if_pos (by omega), u_id (x := bt s ((a + i : Nat) : Int)) (by omega) (by omega), u_id (x := beI s a i * 256) (by omega) (by omega), u_id (by omega) (by omega), e3]
    exact ih (i + 1) k (by omega) (by omega)
theorem rget_f (s : ByteArray) (hs : s.size ≤ 1000000000000000) (a n : Int) (ha : -9223372036854775808 ≤ a) : jettisonref02_Get.f 12 s a n = some (getV s a n) := by
  unfold jettisonref02_Get.f getV
  by_cases h1 : n < 1
  · rw [if_pos h1, if_pos h1]; rfl
  rw [if_neg h1, if_neg h1]
  by_cases h2 : 8 < n
  · rw [if_pos h2, if_pos h2]; rfl
  rw [if_neg h2, if_neg h2]
  by_cases h3 : a < 0
  · rw [if_pos h3, if_pos h3]; rfl
  rw [if_neg h3, if_neg h3]
  by_cases h4 : a > (s.size : Int)
  · rw [if_pos h4, if_pos (by omega)]; rfl
  rw [if_neg h4, w_id (by omega) (by omega)]
  by_cases h5 : (s.size : Int) - n < a
  · rw [if_pos h5, decide_eq_true (by omega)]; rfl
  rw [if_neg h5, decide_eq_false (by omega)]
  obtain ⟨x, rfl⟩ := Int.eq_ofNat_of_zero_le (show 0 ≤ a by omega)
  obtain ⟨y, rfl⟩ := Int.eq_ofNat_of_zero_le (show 0 ≤ n by omega)
  rw [Int.toNat_natCast, Int.toNat_natCast]
  exact rget_l0 s hs x y (by omega) (by omega) y 0 11 (by omega) (by omega)

theorem putV_size (n x : Int) : (putV n x).1.size ≤ 8 := by
  unfold putV
  repeat' split
  all_goals first | (rw [str_size, dg_len]; omega) | (show 0 ≤ 8; omega)
theorem rput_c (w n : Int) (h0 : 0 ≤ n) (h1 : n ≤ 18446744073709551615) (W : World) : Calls Try.prog 35 #[.int .i64 w, .int .u64 n] W fun e w' => e = .returned (.tuple #[.string (putV w n).1, .bool (putV w n).2]) ∧ Below W.heap.size W w' :=
  jettisonref02_Put.calls 12 w n _ _ W (rput_f w n h0 h1)
theorem rget_c (s : ByteArray) (a n : Int) (w : World) (hs : s.size ≤ 1000000000000000) (ha : -9223372036854775808 ≤ a) :
    Calls Try.prog 38 #[.string s, .int .i64 a, .int .i64 n] w fun e w' => e = .returned (.tuple #[.int .u64 (getV s a n).1, .bool (getV s a n).2]) ∧ Drawn0 w w' :=
  jettisonref02_Get.calls 12 s a n _ _ w (rget_f s hs a n ha)
def intV (n : Int) : ByteArray := (putV 8 (IntKind.u64.wrap n)).1
theorem wrapU (n : Int) : 0 ≤ IntKind.u64.wrap n ∧ IntKind.u64.wrap n ≤ 18446744073709551615 := by rw [IntKind.wrap_u64]; omega
theorem int_c (n : Int) (w : World) : Calls Try.prog 24 #[.int .i64 n] w fun e w' => e = .returned (.string (intV n)) ∧ Below w.heap.size w w' :=
  codec_Int.calls 12 n _ w (by unfold codec_Int.f; rw [put_f 8 _ (wrapU n).1 (wrapU n).2]; rfl)
theorem rint_c (n : Int) (w : World) : Calls Try.prog 26 #[.int .i64 n] w fun e w' => e = .returned (.string (intV n)) ∧ Below w.heap.size w w' :=
  jettisonref02_Int.calls 12 n _ w (by unfold jettisonref02_Int.f; rw [rput_f 8 _ (wrapU n).1 (wrapU n).2]; rfl)
def gintV (s : ByteArray) (a : Int) : Int × Bool := (wrap64 (getV s a 8).1, (getV s a 8).2)
theorem rgint_c (s : ByteArray) (a : Int) (w : World) (hs : s.size ≤ 1000000000000000) (ha : -9223372036854775808 ≤ a) :
    Calls Try.prog 31 #[.string s, .int .i64 a] w fun e w' => e = .returned (.tuple #[.int .i64 (gintV s a).1, .bool (gintV s a).2]) ∧ Drawn0 w w' :=
  jettisonref02_GetInt.calls 12 s a _ _ w (by unfold jettisonref02_GetInt.f; rw [rget_f s hs a 8 ha]; rfl)
set_option maxHeartbeats 1000000 in
set_option maxRecDepth 100000 in
theorem gint_c (s : ByteArray) (a : Int) (w : World) (hs : s.size ≤ 1000000000000000) :
    Calls Try.prog 37 #[.string s, .int .i64 a] w fun e w' => e = .returned (.tuple #[.int .i64 (gintV s a).1, .bool (gintV s a).2]) ∧ Below w.heap.size w w' := by
  have HB := Aside0.mk (Below.refl w.heap.size w)
  obtain ⟨Y, b, hY⟩ : ∃ Y b, getV s a 8 = (Y, b) := ⟨_, _, rfl⟩
  have hG := get_c s a 8 w hs
  rw [hY] at hG
  have HG := Aside0.mk hG
  clear hG
  have hg : gintV s a = (wrap64 Y, b) := by unfold gintV; rw [hY]
  rw [hg]
  clear hY hg
  go_enter Try.func37, Try.ntmps37
  go_wp2_with (first | (go_at_call 36; (with_reducible refine (HG.out).mono ?_); rintro e w1 ⟨rfl, hb⟩; have n0_ := Aside0.mk (below_step (by repeat (first | (with_reducible first | exact HB.out | apply below_alloc | apply pw_below_drewN | apply below_drew1) | exact HB.out)) hb); clear HB; have HB := n0_; clear n0_))
  go_ret2
  exact ⟨rfl, (by repeat (first | (with_reducible first | exact HB.out | apply below_alloc | apply pw_below_drewN | apply below_drew1) | exact HB.out))⟩
end Go.Proofs.Ythckcbacmonihaa.Hand
