/- Joined: E0, E1, E2, E3, E4, E5. -/
import Derived.Test.YtibcbeibehaeeaaPStorePlaysx0
import Derived.Test.YtibcbeibehaeeaaG0
import Derived.Test.YtibcbeibehaeeaaGZ
import Derived.OpenShut
import Derived.Test.YtibcbeibehaeeaaShelf
import Derived.Lib.Strings
import Derived.Lib.Slices
import Derived.Lib.Walk
import Derived.Lib.Builder
import Derived.Lib.AppendStr
import Derived.Laws.Externs
import Derived.Deep.RegionHeld3
/- Numbers as bytes, in plain words; package codec's Put, and the reference's Put, Get, in a closed form. -/
set_option linter.unusedVariables false
namespace Go.Proofs.Ytibcbeibehaeeaa.Hand
open Go.RowKit Go.Proofs.Ytibcbeibehaeeaa.PStorePlays Go.Proofs.YtibcbeibehaeeaaW.PrintWords Go.Proofs.YtibcbeibehaeeaaW.PrintLast Go.Proofs.YtibcbeibehaeeaaW.PrintMore

/-- The last i bytes of a number, the greatest first. -/
def dg : Nat → Int → List Int
  | 0, _ => []
  | i + 1, n => (n / 256 ^ i % 256) :: dg i n
theorem dg_len (i : Nat) (n : Int) : (dg i n).length = i := by induction i with | zero => rfl | succ i ih => simp [dg, ih]
theorem w_id {x : Int} (h0 : -9223372036854775808 ≤ x) (h1 : x ≤ 9223372036854775807) : wrap64 x = x := by unfold wrap64; omega
theorem u_id {x : Int} (h0 : 0 ≤ x) (h1 : x ≤ 18446744073709551615) : IntKind.u64.wrap x = x := by rw [IntKind.wrap_u64]; omega
theorem pow8 (i : Nat) : (2 : Int) ^ (8 * i) = 256 ^ i := by rw [Int.pow_mul]; rfl
theorem pow_pos256 (i : Nat) : 0 < (256 : Int) ^ i := Int.pow_pos (by decide)
theorem set_mid (m : Nat) (x : Int) (T : List Int) : (List.replicate (m + 1) 0 ++ T).set m x = List.replicate m 0 ++ x :: T := by
  rw [List.replicate_succ', List.append_assoc, List.set_append_right _ _ (by simp)]
  simp
def putV (w n : Int) : ByteArray × Bool := if w < 1 then (⟨#[]⟩, false) else if w > 8 then (⟨#[]⟩, false) else if n / 256 ^ w.toNat = 0 then (strOfNums (dg w.toNat n), true) else (⟨#[]⟩, false)

theorem put_l0 (n : Int) (h0 : 0 ≤ n) (h1 : n ≤ 18446744073709551615) (w : Nat) (hw : w ≤ 8) : ∀ (d i k : Nat), i + d = w → d < k →
    codec_Put.l0 k (w : Int) n (List.replicate (w - i) 0 ++ dg i n) (w : Int) (i : Int) = some (strOfNums (dg w n), true) := by
  intro d
  induction d with
  | zero =>
    intro i k hi hk
    obtain ⟨k, rfl⟩ : ∃ m, k = m + 1 := ⟨k - 1, by omega⟩
    obtain rfl : i = w := by omega
    simp only [codec_Put.l0]
    rw [if_neg (by omega), Nat.sub_self]
    rfl
  | succ d ih =>
    intro i k hi hk
    obtain ⟨k, rfl⟩ : ∃ m, k = m + 1 := ⟨k - 1, by omega⟩
    have e1 : wrap64 (8 * (i : Int)) = ((8 * i : Nat) : Int) := by rw [w_id (by omega) (by omega)]; omega
    have e2 : wrap64 (wrap64 ((w : Int) - 1) - (i : Int)) = ((w - i - 1 : Nat) : Int) := by rw [w_id (x := (w : Int) - 1) (by omega) (by omega), w_id (by omega) (by omega)]; omega
    have e3 : wrap64 ((i : Int) + 1) = ((i + 1 : Nat) : Int) := by rw [w_id (by omega) (by omega)]; omega
    have e4 : shr .u64 n ((8 * i : Nat) : Int) = n / 256 ^ i := by
      unfold shr
      rw [Int.toNat_natCast, show min (8 * i) (IntKind.u64.bits) = 8 * i from by simp [IntKind.bits]; omega, pow8]
    simp only [codec_Put.l0]
    rw [if_pos (by omega), e1, e2, e3, e4, if_pos (by omega), if_pos (by omega), if_pos (by simp [dg_len]; omega), Int.toNat_natCast]
    obtain ⟨m, hm⟩ : ∃ m, w - i = m + 1 := ⟨w - i - 1, by omega⟩
    rw [hm, Nat.add_sub_cancel, set_mid, show m = w - (i + 1) from by omega]
    exact ih (i + 1) k (by omega) (by omega)
theorem put_f (w n : Int) (h0 : 0 ≤ n) (h1 : n ≤ 18446744073709551615) : codec_Put.f 12 w n = some (putV w n) := by
  unfold codec_Put.f putV
  by_cases a : w < 1
  · rw [if_pos a, if_pos a]; rfl
  rw [if_neg a, if_neg a]
  by_cases b : w > 8
  · rw [if_pos b, if_pos b]; rfl
  rw [if_neg b, if_neg b]
  obtain ⟨m, rfl⟩ := Int.eq_ofNat_of_zero_le (show 0 ≤ w by omega)
  have key : codec_Put.j0 12 (m : Int) n false = some (strOfNums (dg m n), true) := by
    simp only [codec_Put.j0]
    rw [if_neg (by decide), if_pos (by omega), Int.toNat_natCast, if_pos (by omega)]
    have := put_l0 n h0 h1 m (by omega) m 0 11 (by omega) (by omega)
    simpa [dg] using this
  rw [Int.toNat_natCast]
  by_cases c : (m : Int) < 8
  · have e1 : wrap64 (8 * (m : Int)) = ((8 * m : Nat) : Int) := by rw [w_id (by omega) (by omega)]; omega
    have e4 : shr .u64 n ((8 * m : Nat) : Int) = n / 256 ^ m := by
      unfold shr
      rw [Int.toNat_natCast, show min (8 * m) (IntKind.u64.bits) = 8 * m from by simp [IntKind.bits]; omega, pow8]
    rw [if_pos c, e1, e4, if_pos (by omega)]
    by_cases z : n / 256 ^ m = 0
    · rw [if_pos z, z]; exact key
    · rw [if_neg z, show (n / 256 ^ m != 0) = true from by simpa using z]; rfl
  · obtain rfl : m = 8 := by omega
    rw [if_neg c, if_pos (by have : (256 : Int) ^ 8 = 18446744073709551616 := by decide
                             rw [this]; omega)]
    exact key
theorem put_c (w n : Int) (h0 : 0 ≤ n) (h1 : n ≤ 18446744073709551615) (W : World) : Calls Try.prog 62 #[.int .i64 w, .int .u64 n] W fun e w' => e = .returned (.tuple #[.string (putV w n).1, .bool (putV w n).2]) ∧ Below W.heap.size W w' :=
  codec_Put.calls 12 w n _ _ W (put_f w n h0 h1)

theorem str_cons (x : Int) (l : List Int) : strOfNums [x] ++ strOfNums l = strOfNums (x :: l) := by
  unfold strOfNums
  apply ByteArray.ext
  simp [ByteArray.data_append]
theorem str_size (l : List Int) : (strOfNums l).size = l.length := by simp [strOfNums, ByteArray.size]
theorem rput_l0 (w : Nat) (hw : w ≤ 8) (n0 : Int) (h0 : 0 ≤ n0) (h1 : n0 ≤ 18446744073709551615) : ∀ (d i k : Nat) , i + d = w → d < k →
    jettisonref02_Put.l0 k (w : Int) (n0 / 256 ^ i) (strOfNums (dg i n0)) (i : Int) = if n0 / 256 ^ w = 0 then some (strOfNums (dg w n0), true) else some (⟨#[]⟩, false) := by
  intro d
  induction d with
  | zero =>
    intro i k hi hk
    obtain ⟨k, rfl⟩ : ∃ m, k = m + 1 := ⟨k - 1, by omega⟩
    obtain rfl : i = w := by omega
    have hq : 0 ≤ n0 / 256 ^ i := Int.ediv_nonneg h0 (Int.le_of_lt (pow_pos256 i))
    simp only [jettisonref02_Put.l0]
    rw [if_neg (by omega)]
    by_cases z : n0 / 256 ^ i = 0
    · rw [if_pos z, if_neg (by omega)]
    · rw [if_neg z, if_pos (by omega)]
  | succ d ih =>
    intro i k hi hk
    obtain ⟨k, rfl⟩ : ∃ m, k = m + 1 := ⟨k - 1, by omega⟩
    have hq : 0 ≤ n0 / 256 ^ i := Int.ediv_nonneg h0 (Int.le_of_lt (pow_pos256 i))
    have hq2 : n0 / 256 ^ i ≤ n0 := Int.ediv_le_self _ h0
    have e3 : wrap64 ((i : Int) + 1) = ((i + 1 : Nat) : Int) := by rw [w_id (by omega) (by omega)]; omega
    have e5 : n0 / 256 ^ i / 256 = n0 / 256 ^ (i + 1) := by rw [Int.pow_succ, Int.ediv_ediv_of_nonneg (Int.le_of_lt (pow_pos256 i))]
    simp only [jettisonref02_Put.l0, Option.bind_some]
    rw [if_pos (by omega), if_pos (by rw [str_size, str_size, dg_len]; simp; omega), Int.tmod_eq_emod_of_nonneg hq, Int.tdiv_eq_ediv_of_nonneg hq, Int.emod_emod_of_dvd _ (Int.dvd_refl _), str_cons, e5, u_id (Int.ediv_nonneg h0 (Int.le_of_lt (pow_pos256 _))) (by have := Int.ediv_le_self (256 ^ (i + 1)) h0; omega), e3]
    exact ih (i + 1) k (by omega) (by omega)
theorem rput_f (w n : Int) (h0 : 0 ≤ n) (h1 : n ≤ 18446744073709551615) : jettisonref02_Put.f 12 w n = some (putV w n) := by
  unfold jettisonref02_Put.f putV
  by_cases a : w < 1
  · rw [if_pos a, if_pos a]; rfl
  rw [if_neg a, if_neg a]
  by_cases b : w > 8
  · rw [if_pos b, decide_eq_true b]; rfl
  rw [if_neg b, decide_eq_false b]
  obtain ⟨m, rfl⟩ := Int.eq_ofNat_of_zero_le (show 0 ≤ w by omega)
  have := rput_l0 m (by omega) n h0 h1 m 0 11 (by omega) (by omega)
  simp only [jettisonref02_Put.j0, Bool.false_eq_true, if_false, Int.toNat_natCast]
  rw [show (n / 256 ^ 0) = n from by simp] at this
  refine Eq.trans this ?_
  split <;> rfl
end Go.Proofs.Ytibcbeibehaeeaa.Hand

/- Package codec's place, Get: the walks. -/
set_option linter.unusedVariables false
namespace Go.Proofs.Ytibcbeibehaeeaa.Hand
open Go.RowKit Go.Proofs.Ytibcbeibehaeeaa.PStorePlays Go.Proofs.YtibcbeibehaeeaaW.PrintWords Go.Proofs.YtibcbeibehaeeaaW.PrintLast Go.Proofs.YtibcbeibehaeeaaW.PrintMore

/-- A piece of a string. -/
theorem piece (s : ByteArray) (a n : Nat) (h : a + n ≤ s.size) (W : World) : (Instr.slice 9 (.string s) (some (.int .i64 (a : Int))) (some (.int .i64 ((a : Int) + (n : Int)))) none).run Try.prog W = .ok (.string (s.extract a (a + n))) W := by
  rw [run_slice_string (P := Try.prog) W 9 s .i64 .i64 _ _ Try.underlying9 (by omega) (by omega) (by omega), Int.toNat_natCast, show ((a : Int) + (n : Int)).toNat = a + n from by omega]
set_option maxHeartbeats 400000 in
theorem place1_yes (s : ByteArray) (a n : Nat) (p q : Addr) (w : World) (hp : w.cell? p = some (.int .i64 n)) (hq : w.cell? q = some (.string s)) (hs : s.size ≤ 1000000000000000) (h1 : 1 ≤ n) (h2 : n ≤ 8) (h4 : a + n ≤ s.size) :
    Calls Try.prog 78 #[.int .i64 a, .pointer (some p), .pointer (some q)] w fun e w' => e = .returned (.tuple #[.string (s.extract a (a + n)), .bool true]) ∧ w = w' := by
  have b1 : (1 : Int) ≤ (n : Int) := by omega
  have b2 : (n : Int) ≤ 8 := by omega
  have b3 : (a : Int) ≤ (s.size : Int) - (n : Int) := by omega
  have hsl := piece s a n h4
  go_enter Try.func78, Try.ntmps78
  go_wp2
  go_ret2
  exact ⟨rfl, rfl⟩
set_option maxHeartbeats 400000 in
theorem place1_no (s : ByteArray) (a n : Int) (p q : Addr) (w : World) (hp : w.cell? p = some (.int .i64 n)) (hq : w.cell? q = some (.string s)) (hs : s.size ≤ 1000000000000000) (h : n < 1 ∨ 8 < n ∨ a < 0 ∨ (1 ≤ n ∧ n ≤ 8 ∧ 0 ≤ a ∧ s.size - n < a)) :
    Calls Try.prog 78 #[.int .i64 a, .pointer (some p), .pointer (some q)] w fun e w' => e = .returned (.tuple #[.string ⟨#[]⟩, .bool false]) ∧ w = w' := by
  rcases Int.lt_or_le n 1 with h1 | h1
  · go_enter Try.func78, Try.ntmps78
    go_wp2
    go_ret2
    exact ⟨rfl, rfl⟩
  rcases Int.lt_or_le 8 n with h2 | h2
  · go_enter Try.func78, Try.ntmps78
    go_wp2
    go_ret2
    exact ⟨rfl, rfl⟩
  rcases Int.lt_or_le a 0 with h3 | h3
  · go_enter Try.func78, Try.ntmps78
    go_wp2
    go_ret2
    exact ⟨rfl, rfl⟩
  · have h4 : (s.size : Int) - n < a := by omega
    clear h
    go_enter Try.func78, Try.ntmps78
    go_wp2
    go_ret2
    exact ⟨rfl, rfl⟩
/-- The number that k bytes of s from a on make. -/
def beI (s : ByteArray) (a : Nat) : Nat → Int
  | 0 => 0
  | k + 1 => beI s a k * 256 + bt s ((a + k : Nat) : Int)
theorem beI_bd (s : ByteArray) (a k : Nat) : 0 ≤ beI s a k ∧ beI s a k < 256 ^ k := by
  induction k with
  | zero => simp [beI]
  | succ k ih =>
    have := bt_range s ((a + k : Nat) : Int)
    have e : (256 : Int) ^ (k + 1) = 256 ^ k * 256 := Int.pow_succ ..
    simp only [beI]
    omega
theorem pow_mono256 {i j : Nat} (h : i ≤ j) : (256 : Int) ^ i ≤ 256 ^ j := by
  obtain ⟨d, rfl⟩ := Nat.exists_eq_add_of_le h
  rw [Int.pow_add]
  have h1 := pow_pos256 i
  have h2 := pow_pos256 d
  have h3 := Int.mul_le_mul_of_nonneg_left (show 1 ≤ (256 : Int) ^ d by omega) (Int.le_of_lt h1)
  rwa [Int.mul_one] at h3
theorem or256 (Y b : Int) (h0 : 0 ≤ Y) (h1 : Y ≤ 72057594037927935) (h2 : 0 ≤ b) (h3 : b ≤ 255) : bits .or .u64 (Y * 256) b = Y * 256 + b := by
  obtain ⟨y, rfl⟩ := Int.eq_ofNat_of_zero_le h0
  obtain ⟨c, rfl⟩ := Int.eq_ofNat_of_zero_le h2
  rw [u64_or _ _ (by omega) (by omega) (by omega) (by omega), show ((y : Int) * 256).toNat = 2 ^ 8 * y from by omega, Int.toNat_natCast, ← Nat.two_pow_add_eq_or_of_lt (by omega)]
  omega
theorem bt_extract (s B : ByteArray) (a n i : Nat) (h : s.extract a (a + n) = B) (hn : a + n ≤ s.size) (hi : i < n) : ∀ hb : i < B.size, ((B[i]'hb).toNat : Int) = bt s ((a + i : Nat) : Int) := by
  subst h
  intro hb
  rw [ByteArray.getElem_extract]
  exact bt_at s ((a + i : Nat) : Int) (by rw [Int.toNat_natCast]; omega)
theorem beI_72 (s : ByteArray) (a i : Nat) (h : i ≤ 7) : 0 ≤ beI s a i ∧ beI s a i ≤ 72057594037927935 := by
  have h1 := beI_bd s a i
  have h2 := pow_mono256 h
  have e : (256 : Int) ^ 7 = 72057594037927936 := by decide
  omega
set_option maxHeartbeats 400000 in
theorem get_yes (s : ByteArray) (a n : Nat) (w : World) (hs : s.size ≤ 1000000000000000) (h1 : 1 ≤ n) (h2 : n ≤ 8) (h4 : a + n ≤ s.size) :
    Calls Try.prog 70 #[.string s, .int .i64 a, .int .i64 n] w fun e w' => e = .returned (.tuple #[.int .u64 (beI s a n), .bool true]) ∧ Below w.heap.size w w' := by
  have HB := Aside0.mk (Below.refl w.heap.size w)
  obtain ⟨B, hB⟩ : ∃ B, s.extract a (a + n) = B := ⟨_, rfl⟩
  have hz : B.size = n := by rw [← hB, ByteArray.size_extract]; omega
  have HBe := Aside0.mk hB
  clear hB
  go_enter Try.func70, Try.ntmps70
  go_wp2_with (first | (go_at_call 76; go_in) | (go_at_call 78; (with_reducible refine (place1_yes s a n _ _ _ ?hp ?hq hs h1 h2 h4).mono ?_); (case hp => simp [go_sem]); (case hq => simp [go_sem]); rintro e w' ⟨rfl, rfl⟩; rw [HBe.out]))
  go_loop [6, 9, 20] (fun v6 v9 v20 => ∃ i : Nat, i ≤ n ∧ v20 = .int .i64 i ∧ v6 = .int .u64 (beI s a i)) (fun _ _ v => n - (intOf v).toNat)
  case atStart => exact ⟨0, by omega, rfl, rfl⟩
  case round =>
    obtain ⟨i, hi, rfl, rfl⟩ := hrel
    by_cases hlt : i < n
    · have hYb := beI_72 s a i (by omega)
      have hb := bt_range s ((a + i : Nat) : Int)
      have hBi := bt_extract s B a n i HBe.out h4 hlt
      have HS : Aside0 (beI s a (i + 1) = beI s a i * 256 + bt s ((a + i : Nat) : Int)) := ⟨rfl⟩
      have HO := Aside0.mk (or256 (beI s a i) (bt s ((a + i : Nat) : Int)) hYb.1 hYb.2 hb.1 hb.2)
      obtain ⟨hY0, hY1⟩ := hYb
      obtain ⟨hb0, hb1⟩ := hb
      generalize beI s a i = Y at *
      generalize bt s ((a + i : Nat) : Int) = b at *
      go_wp2
      go_round
      case rel => exact ⟨i + 1, by omega, by go_num, by rw [HS.out, ← HO.out]⟩
      case measure => simp [intOf]; omega
    · obtain rfl : i = n := by omega
      go_wp2
      go_ret2
      exact ⟨rfl, (by repeat (first | (with_reducible first | exact HB.out | apply below_alloc | apply pw_below_drewN | apply below_drew1) | exact HB.out))⟩
set_option maxHeartbeats 400000 in
theorem get_no (s : ByteArray) (a n : Int) (w : World) (hs : s.size ≤ 1000000000000000) (h : n < 1 ∨ 8 < n ∨ a < 0 ∨ (1 ≤ n ∧ n ≤ 8 ∧ 0 ≤ a ∧ s.size - n < a)) :
    Calls Try.prog 70 #[.string s, .int .i64 a, .int .i64 n] w fun e w' => e = .returned (.tuple #[.int .u64 0, .bool false]) ∧ Below w.heap.size w w' := by
  have HB := Aside0.mk (Below.refl w.heap.size w)
  have HH := Aside0.mk h
  clear h
  go_enter Try.func70, Try.ntmps70
  go_wp2_with (first | (go_at_call 76; go_in) | (go_at_call 78; (with_reducible refine (place1_no s a n _ _ _ ?hp ?hq hs HH.out).mono ?_); (case hp => simp [go_sem]); (case hq => simp [go_sem]); rintro e w' ⟨rfl, rfl⟩))
  go_loop [6, 9, 20] (fun v6 v9 v20 => v20 = .int .i64 0 ∧ v6 = .int .u64 0) (fun _ _ v => 0)
  case atStart => exact ⟨rfl, rfl⟩
  case round =>
    obtain ⟨rfl, rfl⟩ := hrel
    go_wp2
    go_ret2
    exact ⟨rfl, (by repeat (first | (with_reducible first | exact HB.out | apply below_alloc | apply pw_below_drewN | apply below_drew1) | exact HB.out))⟩
end Go.Proofs.Ytibcbeibehaeeaa.Hand

/- Package codec's Get, GetInt and Int in a closed form; so the reference's. -/
set_option linter.unusedVariables false
namespace Go.Proofs.Ytibcbeibehaeeaa.Hand
open Go.RowKit Go.Proofs.Ytibcbeibehaeeaa.PStorePlays Go.Proofs.YtibcbeibehaeeaaW.PrintWords Go.Proofs.YtibcbeibehaeeaaW.PrintLast Go.Proofs.YtibcbeibehaeeaaW.PrintMore

def getV (s : ByteArray) (a n : Int) : Int × Bool := if n < 1 then (0, false) else if 8 < n then (0, false) else if a < 0 then (0, false) else if s.size - n < a then (0, false) else (beI s a.toNat n.toNat, true)
theorem getV_no (s : ByteArray) (a n : Int) (h : n < 1 ∨ 8 < n ∨ a < 0 ∨ (1 ≤ n ∧ n ≤ 8 ∧ 0 ≤ a ∧ s.size - n < a)) : getV s a n = (0, false) := by
  unfold getV
  repeat' split
  all_goals first | rfl | omega
theorem get_c (s : ByteArray) (a n : Int) (w : World) (hs : s.size ≤ 1000000000000000) :
    Calls Try.prog 70 #[.string s, .int .i64 a, .int .i64 n] w fun e w' => e = .returned (.tuple #[.int .u64 (getV s a n).1, .bool (getV s a n).2]) ∧ Below w.heap.size w w' := by
  by_cases h : n < 1 ∨ 8 < n ∨ a < 0 ∨ (1 ≤ n ∧ n ≤ 8 ∧ 0 ≤ a ∧ s.size - n < a)
  · have e := getV_no s a n h
    rw [e]
    exact get_no s a n w hs h
  · obtain ⟨x, rfl⟩ := Int.eq_ofNat_of_zero_le (show 0 ≤ a by omega)
    obtain ⟨y, rfl⟩ := Int.eq_ofNat_of_zero_le (show 0 ≤ n by omega)
    have e : getV s x y = (beI s x y, true) := by
      unfold getV
      rw [if_neg (by omega), if_neg (by omega), if_neg (by omega), if_neg (by omega), Int.toNat_natCast, Int.toNat_natCast]
    rw [e]
    exact get_yes s x y w hs (by omega) (by omega) (by omega)
theorem beI_u64 (s : ByteArray) (a k : Nat) (h : k ≤ 8) : 0 ≤ beI s a k ∧ beI s a k ≤ 18446744073709551615 := by
  have h1 := beI_bd s a k
  have h2 := pow_mono256 h
  have e : (256 : Int) ^ 8 = 18446744073709551616 := by decide
  omega
theorem getV_u64 (s : ByteArray) (a n : Int) : 0 ≤ (getV s a n).1 ∧ (getV s a n).1 ≤ 18446744073709551615 := by
  unfold getV
  repeat' split
  all_goals first | exact beI_u64 _ _ _ (by omega) | (simp)
theorem rget_l0 (s : ByteArray) (hs : s.size ≤ 1000000000000000) (a n : Nat) (hn : n ≤ 8) (h4 : a + n ≤ s.size) : ∀ (d i k : Nat), i + d = n → d < k →
    jettisonref02_Get.l0 k s (a : Int) (n : Int) (beI s a i) (i : Int) = some (beI s a n, true) := by
  intro d
  induction d with
  | zero =>
    intro i k hi hk
    obtain ⟨k, rfl⟩ : ∃ m, k = m + 1 := ⟨k - 1, by omega⟩
    obtain rfl : i = n := by omega
    simp only [jettisonref02_Get.l0]
    rw [if_neg (by omega)]
  | succ d ih =>
    intro i k hi hk
    obtain ⟨k, rfl⟩ : ∃ m, k = m + 1 := ⟨k - 1, by omega⟩
    have hb := bt_range s ((a + i : Nat) : Int)
    have h1 := beI_72 s a i (by omega)
    have e1 : wrap64 ((a : Int) + (i : Int)) = ((a + i : Nat) : Int) := by rw [w_id (by omega) (by omega)]; omega
    have e3 : wrap64 ((i : Int) + 1) = ((i + 1 : Nat) : Int) := by rw [w_id (by omega) (by omega)]; omega
    simp only [jettisonref02_Get.l0]
    rw [if_pos (by omega), e1, if_pos (by omega), if_pos (by omega), u_id (x := bt s ((a + i : Nat) : Int)) (by omega) (by omega), u_id (x := beI s a i * 256) (by omega) (by omega), u_id (by omega) (by omega), e3]
    exact ih (i + 1) k (by omega) (by omega)
theorem rget_f (s : ByteArray) (hs : s.size ≤ 1000000000000000) (a n : Int) (ha : -9223372036854775808 ≤ a) : jettisonref02_Get.f 12 s a n = some (getV s a n) := by
  unfold jettisonref02_Get.f getV
  by_cases h1 : n < 1
  · rw [if_pos h1, if_pos h1]; rfl
  rw [if_neg h1, if_neg h1]
  by_cases h2 : 8 < n
  · rw [if_pos h2, if_pos h2]; rfl
  rw [if_neg h2, if_neg h2]
  by_cases h3 : a < 0
  · rw [if_pos h3, if_pos h3]; rfl
  rw [if_neg h3, if_neg h3]
  by_cases h4 : a > (s.size : Int)
  · rw [if_pos h4, if_pos (by omega)]; rfl
  rw [if_neg h4, w_id (by omega) (by omega)]
  by_cases h5 : (s.size : Int) - n < a
  · rw [if_pos h5, decide_eq_true (by omega)]; rfl
  rw [if_neg h5, decide_eq_false (by omega)]
  obtain ⟨x, rfl⟩ := Int.eq_ofNat_of_zero_le (show 0 ≤ a by omega)
  obtain ⟨y, rfl⟩ := Int.eq_ofNat_of_zero_le (show 0 ≤ n by omega)
  rw [Int.toNat_natCast, Int.toNat_natCast]
  exact rget_l0 s hs x y (by omega) (by omega) y 0 11 (by omega) (by omega)

theorem putV_size (n x : Int) : (putV n x).1.size ≤ 8 := by
  unfold putV
  repeat' split
  all_goals first | (rw [str_size, dg_len]; omega) | (show 0 ≤ 8; omega)
theorem rput_c (w n : Int) (h0 : 0 ≤ n) (h1 : n ≤ 18446744073709551615) (W : World) : Calls Try.prog 63 #[.int .i64 w, .int .u64 n] W fun e w' => e = .returned (.tuple #[.string (putV w n).1, .bool (putV w n).2]) ∧ Below W.heap.size W w' :=
  jettisonref02_Put.calls 12 w n _ _ W (rput_f w n h0 h1)
theorem rget_c (s : ByteArray) (a n : Int) (w : World) (hs : s.size ≤ 1000000000000000) (ha : -9223372036854775808 ≤ a) :
    Calls Try.prog 72 #[.string s, .int .i64 a, .int .i64 n] w fun e w' => e = .returned (.tuple #[.int .u64 (getV s a n).1, .bool (getV s a n).2]) ∧ Drawn0 w w' :=
  jettisonref02_Get.calls 12 s a n _ _ w (rget_f s hs a n ha)
def intV (n : Int) : ByteArray := (putV 8 (IntKind.u64.wrap n)).1
theorem wrapU (n : Int) : 0 ≤ IntKind.u64.wrap n ∧ IntKind.u64.wrap n ≤ 18446744073709551615 := by rw [IntKind.wrap_u64]; omega
theorem int_c (n : Int) (w : World) : Calls Try.prog 47 #[.int .i64 n] w fun e w' => e = .returned (.string (intV n)) ∧ Below w.heap.size w w' :=
  codec_Int.calls 12 n _ w (by unfold codec_Int.f; rw [put_f 8 _ (wrapU n).1 (wrapU n).2]; rfl)
theorem rint_c (n : Int) (w : World) : Calls Try.prog 50 #[.int .i64 n] w fun e w' => e = .returned (.string (intV n)) ∧ Below w.heap.size w w' :=
  jettisonref02_Int.calls 12 n _ w (by unfold jettisonref02_Int.f; rw [rput_f 8 _ (wrapU n).1 (wrapU n).2]; rfl)
def gintV (s : ByteArray) (a : Int) : Int × Bool := (wrap64 (getV s a 8).1, (getV s a 8).2)
theorem rgint_c (s : ByteArray) (a : Int) (w : World) (hs : s.size ≤ 1000000000000000) (ha : -9223372036854775808 ≤ a) :
    Calls Try.prog 60 #[.string s, .int .i64 a] w fun e w' => e = .returned (.tuple #[.int .i64 (gintV s a).1, .bool (gintV s a).2]) ∧ Drawn0 w w' :=
  jettisonref02_GetInt.calls 12 s a _ _ w (by unfold jettisonref02_GetInt.f; rw [rget_f s hs a 8 ha]; rfl)
set_option maxHeartbeats 1000000 in
set_option maxRecDepth 100000 in
theorem gint_c (s : ByteArray) (a : Int) (w : World) (hs : s.size ≤ 1000000000000000) :
    Calls Try.prog 71 #[.string s, .int .i64 a] w fun e w' => e = .returned (.tuple #[.int .i64 (gintV s a).1, .bool (gintV s a).2]) ∧ Below w.heap.size w w' := by
  have HB := Aside0.mk (Below.refl w.heap.size w)
  obtain ⟨Y, b, hY⟩ : ∃ Y b, getV s a 8 = (Y, b) := ⟨_, _, rfl⟩
  have hG := get_c s a 8 w hs
  rw [hY] at hG
  have HG := Aside0.mk hG
  clear hG
  have hg : gintV s a = (wrap64 Y, b) := by unfold gintV; rw [hY]
  rw [hg]
  clear hY hg
  go_enter Try.func71, Try.ntmps71
  go_wp2_with (first | (go_at_call 70; (with_reducible refine (HG.out).mono ?_); rintro e w1 ⟨rfl, hb⟩; have n0_ := Aside0.mk (below_step (by repeat (first | (with_reducible first | exact HB.out | apply below_alloc | apply pw_below_drewN | apply below_drew1) | exact HB.out)) hb); clear HB; have HB := n0_; clear n0_))
  go_ret2
  exact ⟨rfl, (by repeat (first | (with_reducible first | exact HB.out | apply below_alloc | apply pw_below_drewN | apply below_drew1) | exact HB.out))⟩
end Go.Proofs.Ytibcbeibehaeeaa.Hand

/- strings.Builder's writing methods: what they leave (the library's laws of a row that the call owns). -/
set_option linter.unusedVariables false
namespace Go.Proofs.Ytibcbeibehaeeaa.Hand
open Go.RowKit Go.Proofs.Ytibcbeibehaeeaa.PStorePlays Go.Proofs.YtibcbeibehaeeaaW.PrintWords Go.Proofs.YtibcbeibehaeeaaW.PrintLast Go.Proofs.YtibcbeibehaeeaaW.PrintMore

theorem infoBld : (Try.prog.info? 103).map (·.size) = some 2 := by kernel_rfl
theorem liesBld : liesAt Try.prog Try.prog.depth 103 (2 / Try.prog.cellsOf 103) 0 103 1 = true := by kernel_rfl
theorem infoU8 : (Try.prog.info? 5).map (fun i => (i.zero, i.size, i.bytes)) = some (some (.int .u8 0), 1, 1) := by kernel_rfl
set_option maxHeartbeats 1000000 in
set_option maxRecDepth 100000 in
theorem bcheck_used (b : Nat) (w : World) (h0 : w.cell? ⟨b, 0, none⟩ = some (.pointer (some ⟨b, 0, none⟩))) :
    Calls Try.prog 61 #[.pointer (some ⟨b, 0, none⟩)] w fun e w' => e = .returned (.tuple #[]) ∧ w' = w := by
  obtain ⟨j, hj, _⟩ := Option.map_eq_some_iff.1 infoBld
  go_enter Try.func61, Try.ntmps61
  go_wp2
  rw [Lib.run_neq_ptr_same w _ Try.underlying101 hj]
  go_wp2
  go_end0
  exact ⟨rfl, rfl⟩
set_option maxHeartbeats 1000000 in
set_option maxRecDepth 100000 in
theorem bcheck_fresh (b : Nat) (w : World) (h0 : w.cell? ⟨b, 0, none⟩ = some (.pointer none)) (hsh : w.shape? b = some (103, 2)) (hfz : w.frozen? ⟨b, 0, none⟩ = false) :
    Calls Try.prog 61 #[.pointer (some ⟨b, 0, none⟩)] w fun e w' => e = .returned (.tuple #[]) ∧ w' = w.setCell ⟨b, 0, none⟩ (.pointer (some ⟨b, 0, none⟩)) := by
  obtain ⟨j, hj, hjs⟩ := Option.map_eq_some_iff.1 infoBld
  go_enter Try.func61, Try.ntmps61
  go_wp2
  rw [Lib.run_to_unsafe w ⟨b, 0, none⟩ Try.underlying101 Try.underlying134 hj (by rw [hjs]; decide) hsh (Nat.zero_lt_succ 1)]
  simp only [Result.andThen]
  rw [Oper.upon_value]
  go_wp2
  rw [run_callFunc_extern Try.func73 (by kernel_rfl) (by kernel_rfl) (by kernel_rfl) (e := Extern.AbiNoEscape.same) (by kernel_rfl)]
  rw [Lib.run_noEscape]
  simp only [Result.andThen]
  rw [Oper.upon_value]
  go_wp2
  rw [Lib.run_from_unsafe w ⟨b, 0, none⟩ Try.underlying134 Try.underlying101 hj hsh liesBld]
  simp only [Result.andThen]
  rw [Oper.upon_value]
  go_wp2
  go_end0
  exact ⟨rfl, rfl⟩
theorem bcheck (B b : Nat) (bs : List Value) (w : World) (h : Lib.IsBuilder 103 5 B b bs w) :
    Calls Try.prog 61 #[.pointer (some ⟨b, 0, none⟩)] w fun e w' => e = .returned (.tuple #[]) ∧ (Lib.BuilderAt 103 5 B b (.pointer (some ⟨b, 0, none⟩)) bs w' ∧ Below B w w') := by
  rcases h with h | h
  · refine (bcheck_fresh b w h.cell0 h.shape h.frozen0).mono ?_
    rintro e w' ⟨rfl, rfl⟩
    exact ⟨rfl, h.used _, (Below.refl B w).setCell (p := ⟨b, 0, none⟩) h.1 _⟩
  · refine (bcheck_used b w h.cell0).mono ?_
    rintro e w' ⟨rfl, rfl⟩
    exact ⟨rfl, h, Below.refl B _⟩
set_option maxHeartbeats 2000000 in
set_option maxRecDepth 100000 in
theorem bwbyte (B b : Nat) (bs : List Value) (c : Int) (w : World) (h : Lib.IsBuilder 103 5 B b bs w) (hlen : bs.length + 1 ≤ 140737488355328) (hBw : B ≤ w.heap.size) :
    Calls Try.prog 45 #[.pointer (some ⟨b, 0, none⟩), .int .u8 c] w fun e w' => e = .returned .nilIface ∧ (Lib.BuilderAt 103 5 B b (.pointer (some ⟨b, 0, none⟩)) (bs ++ [.int .u8 c]) w' ∧ Below B w w') := by
  obtain ⟨i0, hi, hz0, hz1, hz2⟩ := info_parts infoU8
  go_enter Try.func45, Try.ntmps45
  go_wp2_with (go_at_call 61; refine (bcheck B b bs _ h).mono ?_)
  rintro e w1 ⟨rfl, h1, hb1⟩
  obtain ⟨hB, v, hbk, hown, hne⟩ := h1
  have c0 : w1.cell? ⟨b, 0, none⟩ = some (.pointer (some ⟨b, 0, none⟩)) := by rw [Lib.cell_of_heap hbk]; rfl
  have c1 : w1.cell? ⟨b, 1, none⟩ = some v := by rw [Lib.cell_of_heap hbk]; rfl
  go_wp2_with (at_builtin; refine wpList_append_own _ rfl _ _ 57 rfl B 5 i0 (.int .u8 0) 1 1 Try.underlying57 hi hz0 hz1 hz2 rfl (by decide) _ _ _ rfl (hown.alloc _) ⟨w1.heap.size, 0, none⟩ 1 1 [.int .u8 c] rfl rfl ?c1 ?c2 ?c3 ?c4 ?c5 ?_)
  case c1 =>
    intro j u hj
    match j, hj with
    | 0, hj => simp at hj; subst hj; simp [Addr.add]
  case c2 => intro u hu; simp at hu; subst hu; rfl
  case c3 => unfold maxLen; omega
  case c4 => omega
  case c5 => have := hb1.size; simp; omega
  intro v' w2 hown' hgrow _
  have hlt : b < w1.heap.size := by
    rcases Nat.lt_or_ge b w1.heap.size with h' | h'
    · exact h'
    · simp [Array.getElem?_eq_none h'] at hbk
  have hb2 : w2.heap[b]? = some (.cells #[.pointer (some ⟨b, 0, none⟩), v] 103 (0, 0)) := by
    rw [hgrow.block b (by simp; omega) (fun e => hne e.symm), Lib.alloc_old w1 _ b hlt]
    exact hbk
  have d0 : w2.cell? ⟨b, 0, none⟩ = some (.pointer (some ⟨b, 0, none⟩)) := by rw [Lib.cell_of_heap hb2]; rfl
  have d1 : w2.cell? ⟨b, 1, none⟩ = some v := by rw [Lib.cell_of_heap hb2]; rfl
  have f1 : w2.frozen? ⟨b, 1, none⟩ = false := Lib.frozen_of_heap hb2 1
  obtain ⟨g, cap, rfl⟩ : ∃ g cap, v' = .slice (some ⟨g, 0, none⟩) (bs.length + 1) cap := by
    rcases hown'.2 with ⟨_, h0⟩ | ⟨g, cap, cur, hv, _⟩
    · omega
    · exact ⟨g, cap, hv⟩
  go_wp2
  go_ret
  refine ⟨rfl, ?_, ?_⟩
  · exact Lib.BuilderAt.put (T := 103) (e := 5) hB hb2 (bs' := bs ++ [.int .u8 c]) (by simpa using hown') (by decide)
  · exact ((hb1.alloc (by have := hb1.size; omega) _).grown hgrow (by have := hb1.size; simp; omega) (fun k hk => (hown.lt k hk).1)).setCell (p := ⟨b, 1, none⟩) hB _
set_option maxHeartbeats 2000000 in
set_option maxRecDepth 100000 in
theorem bwstr (B b : Nat) (bs : List Value) (s : ByteArray) (w : World) (h : Lib.IsBuilder 103 5 B b bs w) (hlen : bs.length + s.size ≤ 140737488355328) (hBw : B ≤ w.heap.size) :
    Calls Try.prog 46 #[.pointer (some ⟨b, 0, none⟩), .string s] w fun e w' => e = .returned (.tuple #[.int .i64 s.size, .nilIface]) ∧ (Lib.BuilderAt 103 5 B b (.pointer (some ⟨b, 0, none⟩)) (bs ++ Lib.strCells s) w' ∧ Below B w w') := by
  obtain ⟨i0, hi, hz0, hz1, hz2⟩ := info_parts infoU8
  go_enter Try.func46, Try.ntmps46
  go_wp2_with (go_at_call 61; refine (bcheck B b bs _ h).mono ?_)
  rintro e w1 ⟨rfl, h1, hb1⟩
  obtain ⟨hB, v, hbk, hown, hne⟩ := h1
  have c0 : w1.cell? ⟨b, 0, none⟩ = some (.pointer (some ⟨b, 0, none⟩)) := by rw [Lib.cell_of_heap hbk]; rfl
  have c1 : w1.cell? ⟨b, 1, none⟩ = some v := by rw [Lib.cell_of_heap hbk]; rfl
  go_wp2_with (at_builtin; refine Lib.wpList_append_own_string _ rfl _ _ 57 9 rfl B 5 i0 Try.underlying57 Try.underlying9 hi hz0 hz1 hz2 _ _ _ rfl hown s rfl ?c3 ?c4 ?c5 ?_)
  case c3 => unfold maxLen; omega
  case c4 => omega
  case c5 => have := hb1.size; omega
  intro v' w2 hown' hgrow _
  have hlt : b < w1.heap.size := by
    rcases Nat.lt_or_ge b w1.heap.size with h' | h'
    · exact h'
    · simp [Array.getElem?_eq_none h'] at hbk
  have hb2 : w2.heap[b]? = some (.cells #[.pointer (some ⟨b, 0, none⟩), v] 103 (0, 0)) := by
    rw [hgrow.block b hlt (fun e => hne e.symm)]
    exact hbk
  have d0 : w2.cell? ⟨b, 0, none⟩ = some (.pointer (some ⟨b, 0, none⟩)) := by rw [Lib.cell_of_heap hb2]; rfl
  have d1 : w2.cell? ⟨b, 1, none⟩ = some v := by rw [Lib.cell_of_heap hb2]; rfl
  have f1 : w2.frozen? ⟨b, 1, none⟩ = false := Lib.frozen_of_heap hb2 1
  obtain ⟨ao, n', cap, rfl⟩ : ∃ ao n' cap, v' = .slice ao n' cap := by
    rcases hown'.2 with ⟨hv, _⟩ | ⟨g, cap, cur, hv, _⟩
    · exact ⟨_, _, _, hv⟩
    · exact ⟨_, _, _, hv⟩
  go_wp2
  go_ret2
  refine ⟨rfl, ?_, ?_⟩
  · exact Lib.BuilderAt.put (T := 103) (e := 5) hB hb2 (bs' := bs ++ Lib.strCells s) (by simpa [Lib.strCells_length] using hown') (by decide)
  · exact (hb1.grown hgrow (by have := hb1.size; omega) (fun k hk => (hown.lt k hk).1)).setCell (p := ⟨b, 1, none⟩) hB _
end Go.Proofs.Ytibcbeibehaeeaa.Hand

/- Package wire's Put: what it writes. -/
set_option linter.unusedVariables false
namespace Go.Proofs.Ytibcbeibehaeeaa.Hand
open Go.RowKit Go.Proofs.Ytibcbeibehaeeaa.PStorePlays Go.Proofs.YtibcbeibehaeeaaW.PrintWords Go.Proofs.YtibcbeibehaeeaaW.PrintLast Go.Proofs.YtibcbeibehaeeaaW.PrintMore
theorem old_cell {W w1 : World} (hb : Below W.heap.size W w1) (b o : Nat) (h : b < W.heap.size) : w1.cell? ⟨b, o, none⟩ = W.cell? ⟨b, o, none⟩ := hb.cell (p := ⟨b, o, none⟩) h
theorem old_froz {W w1 : World} (hb : Below W.heap.size W w1) (b o : Nat) (h : b < W.heap.size) : w1.frozen? ⟨b, o, none⟩ = W.frozen? ⟨b, o, none⟩ := hb.frozen (p := ⟨b, o, none⟩) h

theorem intV_size (n : Int) : (intV n).size = 8 := by
  have h := wrapU n
  unfold intV putV
  rw [if_neg (by decide), if_neg (by decide), if_pos (by have e : (256 : Int) ^ (8 : Int).toNat = 18446744073709551616 := by decide
                                                         rw [e]; omega), str_size, dg_len]
  rfl
/-- An event's bytes, of its first i numbers. -/
def evI (k t : Int) (l : List Int) (i : Nat) : ByteArray := (l.take i).foldl (fun s n => s ++ intV n) (strOfNums [k, (l.length : Int)] ++ intV t)
theorem fold_size (l : List Int) (s : ByteArray) : (l.foldl (fun s n => s ++ intV n) s).size = s.size + 8 * l.length := by
  induction l generalizing s with
  | nil => simp
  | cons a l ih => simp only [List.foldl_cons, ih, ByteArray.size_append, intV_size, List.length_cons]; omega
theorem evI_size (k t : Int) (l : List Int) (i : Nat) (h : i ≤ l.length) : (evI k t l i).size = 10 + 8 * i := by
  unfold evI
  rw [fold_size, ByteArray.size_append, intV_size, str_size, List.length_take]
  simp
  omega
theorem evI_succ (k t : Int) (l : List Int) (i : Nat) (h : i < l.length) : evI k t l (i + 1) = evI k t l i ++ intV (rd l (i : Int)) := by
  unfold evI rd
  rw [List.take_add_one, List.foldl_append, List.getD_eq_getElem?_getD, Int.toNat_natCast, List.getElem?_eq_getElem h]
  rfl
def bcells (s : ByteArray) : List Value := Lib.byteCells s.data.toList
theorem bcells_app (a s : ByteArray) : bcells a ++ Lib.strCells s = bcells (a ++ s) := by
  unfold bcells; rw [Lib.strCells_eq, ← Lib.byteCells_append, ByteArray.data_append, Array.toList_append]
theorem bcells_len (s : ByteArray) : (bcells s).length = s.size := by unfold bcells; rw [Lib.byteCells_length]; rfl
theorem head_cells (k m : Int) (h0 : 0 ≤ k) (h1 : k ≤ 255) (h2 : 0 ≤ m) (h3 : m ≤ 8) : ([] ++ [Value.int .u8 k] ++ [Value.int .u8 m]) = bcells (strOfNums [k, m]) := by
  unfold bcells strOfNums Lib.byteCells
  simp
  omega
theorem bat_below {B b : Nat} {p : Value} {bs : List Value} {w w1 : World} (h : Lib.BuilderAt 103 5 B b p bs w) (hb : Below w.heap.size w w1) : Lib.BuilderAt 103 5 B b p bs w1 := by
  have hl := h.lt
  obtain ⟨h1, v, h2, h3, h4⟩ := h
  exact ⟨h1, v, (hb.block b hl).trans h2, pw_own_below h3 hb, h4⟩
theorem isb_below {b : Nat} {bs : List Value} {w w1 : World} (h : Lib.IsBuilder 103 5 b b bs w) (hb : Below w.heap.size w w1) : Lib.IsBuilder 103 5 b b bs w1 := by
  rcases h with h | h
  · exact .inl (bat_below h hb)
  · exact .inr (bat_below h hb)
theorem isb_lt {b : Nat} {bs : List Value} {w : World} (h : Lib.IsBuilder 103 5 b b bs w) : b < w.heap.size := by
  rcases h with h | h
  · exact h.lt
  · exact h.lt
theorem bwb (b : Nat) (bs : List Value) (c : Int) (w : World) (h : Lib.IsBuilder 103 5 b b bs w) (hl : bs.length ≤ 1000) :
    Calls Try.prog 45 #[.pointer (some ⟨b, 0, none⟩), .int .u8 c] w fun e w' => e = .returned .nilIface ∧ Lib.IsBuilder 103 5 b b (bs ++ [.int .u8 c]) w' ∧ Below b w w' := by
  refine (bwbyte b b bs c w h (by omega) (Nat.le_of_lt (isb_lt h))).mono ?_
  rintro e w' ⟨rfl, h1, h2⟩
  exact ⟨rfl, .inr h1, h2⟩
theorem bws (b : Nat) (a s : ByteArray) (w : World) (h : Lib.IsBuilder 103 5 b b (bcells a) w) (hl : a.size + s.size ≤ 1000000000000) :
    Calls Try.prog 46 #[.pointer (some ⟨b, 0, none⟩), .string s] w fun e w' => e = .returned (.tuple #[.int .i64 s.size, .nilIface]) ∧ Lib.IsBuilder 103 5 b b (bcells (a ++ s)) w' ∧ Below b w w' := by
  refine (bwstr b b (bcells a) s w h (by rw [bcells_len]; omega) (Nat.le_of_lt (isb_lt h))).mono ?_
  rintro e w' ⟨rfl, h1, h2⟩
  rw [bcells_app] at h1
  exact ⟨rfl, .inr h1, h2⟩
theorem bstr (b : Nat) (a : ByteArray) (w : World) (h : Lib.IsBuilder 103 5 b b (bcells a) w) :
    Calls Try.prog 48 #[.pointer (some ⟨b, 0, none⟩)] w fun e w' => e = .returned (.string a) ∧ Below b w w' := by
  refine (Try.Builder_String_any b b a.data.toList w h (Nat.le_of_lt (isb_lt h))).mono ?_
  rintro e w' ⟨rfl, h1⟩
  exact ⟨rfl, h1⟩
def EvB (w : World) (g : Nat) (k t : Int) (v : Value) : Prop := w.cell? ⟨g, 0, none⟩ = some (.int .i64 k) ∧ w.cell? ⟨g, 1, none⟩ = some (.int .i64 t) ∧ w.cell? ⟨g, 2, none⟩ = some v
theorem EvB.keep {B : Nat} {w w1 : World} {g : Nat} {k t : Int} {v : Value} (h : EvB w g k t v) (hb : Below B w w1) (hg : g < B) : EvB w1 g k t v :=
  ⟨(hb.cell (p := ⟨g, 0, none⟩) hg).trans h.1, (hb.cell (p := ⟨g, 1, none⟩) hg).trans h.2.1, (hb.cell (p := ⟨g, 2, none⟩) hg).trans h.2.2⟩
theorem EvB.lt {w : World} {g : Nat} {k t : Int} {v : Value} (h : EvB w g k t v) : g < w.heap.size := World.block_lt_of_cell? _ _ h.1
theorem below_to {B N : Nat} {w0 w w1 : World} (h : Below N w0 w) (hb : Below B w w1) (hn : N ≤ B) : Below N w0 w1 := h.trans (hb.mono hn)
set_option maxHeartbeats 1000000 in
set_option maxRecDepth 100000 in
theorem wput_no (k t : Int) (l : List Int) (A : Option Addr) (c : Nat) (w : World) (hm : l.length ≤ 9223372036854775807) (h : k < 0 ∨ 255 < k ∨ 8 < l.length) :
    Calls Try.prog 32 #[.agg #[.int .i64 k, .int .i64 t, .slice A l.length c]] w fun e w' => e = .returned (.tuple #[.string ⟨#[]⟩, .bool false]) ∧ Below w.heap.size w w' := by
  have HB := Aside0.mk (Below.refl w.heap.size w)
  generalize l.length = n at h hm ⊢
  rcases Int.lt_or_le k 0 with h1 | h1
  · go_enter Try.func32, Try.ntmps32
    go_wp2
    go_ret2
    exact ⟨rfl, (by repeat (first | (with_reducible first | exact HB.out | apply below_alloc | apply pw_below_drewN | apply below_drew1) | exact HB.out))⟩
  rcases Int.lt_or_le 255 k with h2 | h2
  · go_enter Try.func32, Try.ntmps32
    go_wp2
    go_ret2
    exact ⟨rfl, (by repeat (first | (with_reducible first | exact HB.out | apply below_alloc | apply pw_below_drewN | apply below_drew1) | exact HB.out))⟩
  · have h3 : (8 : Int) < (n : Int) := by omega
    clear h
    go_enter Try.func32, Try.ntmps32
    go_wp2
    go_ret2
    exact ⟨rfl, (by repeat (first | (with_reducible first | exact HB.out | apply below_alloc | apply pw_below_drewN | apply below_drew1) | exact HB.out))⟩
set_option maxHeartbeats 1000000 in
set_option maxRecDepth 100000 in
theorem wput_yes (k t : Int) (l : List Int) (A : Option Addr) (c : Nat) (w : World) (hr : Kd.C (Kd.int .i64) w A l.length l) (h0 : 0 ≤ k) (h1 : k ≤ 255) (h2 : l.length ≤ 8) :
    Calls Try.prog 32 #[.agg #[.int .i64 k, .int .i64 t, .slice A l.length c]] w fun e w' => e = .returned (.tuple #[.string (evI k t l l.length), .bool true]) ∧ Below w.heap.size w w' := by
  have HB := Aside0.mk (Below.refl w.heap.size w)
  have HR := Aside0.mk hr
  clear hr
  have b2 : (l.length : Int) ≤ 8 := by omega
  have HBu : Aside0 (Lib.IsBuilder 103 5 (w.heap.size + 1) (w.heap.size + 1) [] ((w.alloc (.cells #[.int .i64 k, .int .i64 t, .slice A l.length c] 35)).alloc (.cells #[.pointer none, .slice none 0 0] 103))) := ⟨by
    have := Lib.fresh_isBuilder 103 5 (w.alloc (.cells #[.int .i64 k, .int .i64 t, .slice A l.length c] 35))
    simpa using this⟩
  have HE : Aside0 (EvB ((w.alloc (.cells #[.int .i64 k, .int .i64 t, .slice A l.length c] 35)).alloc (.cells #[.pointer none, .slice none 0 0] 103)) w.heap.size k t (.slice A l.length c)) := ⟨by
    refine ⟨?_, ?_, ?_⟩ <;> simp [go_sem]⟩
  have c0 : True := trivial
  have c1 : True := trivial
  have c2 : True := trivial
  go_enter Try.func32, Try.ntmps32
  go_wp2_with (first | (go_at_call 45; (with_reducible refine (bwb _ _ _ _ HBu.out (by simp)).mono ?_); rintro e w1 ⟨rfl, hbd, hb⟩; have n0_ := Aside0.mk (below_to (by repeat (first | (with_reducible first | exact HB.out | apply below_alloc | apply pw_below_drewN | apply below_drew1) | exact HB.out)) hb (by omega)); clear HB; have HB := n0_; clear n0_; have n1_ := Aside0.mk (HE.out.keep hb (by omega)); clear HE c0 c1 c2; have HE := n1_; clear n1_; clear HBu; have HBu := Aside0.mk hbd; clear hbd; clear hb; have c0 := HE.out.1; have c1 := HE.out.2.1; have c2 := HE.out.2.2) | (go_at_call 47; (with_reducible refine (int_c _ _).mono ?_); rintro e w1 ⟨rfl, hb⟩; have n0_ := Aside0.mk (below_step (by repeat (first | (with_reducible first | exact HB.out | apply below_alloc | apply pw_below_drewN | apply below_drew1) | exact HB.out)) hb); clear HB; have HB := n0_; clear n0_; have n0_ := Aside0.mk (isb_below HBu.out hb); clear HBu; have HBu := n0_; clear n0_; have n1_ := Aside0.mk (HE.out.keep hb HE.out.lt); clear HE c0 c1 c2; have HE := n1_; clear n1_; clear hb; have c0 := HE.out.1; have c1 := HE.out.2.1; have c2 := HE.out.2.2) | (go_at_call 46; (first | rw [head_cells k _ h0 h1 (by omega) b2] at HBu | skip); (with_reducible refine (bws _ _ _ _ HBu.out (by rw [str_size, intV_size]; simp)).mono ?_); rintro e w1 ⟨rfl, hbd, hb⟩; have n0_ := Aside0.mk (below_to (by repeat (first | (with_reducible first | exact HB.out | apply below_alloc | apply pw_below_drewN | apply below_drew1) | exact HB.out)) hb (by omega)); clear HB; have HB := n0_; clear n0_; have n1_ := Aside0.mk (HE.out.keep hb (by omega)); clear HE c0 c1 c2; have HE := n1_; clear n1_; clear HBu; have HBu := Aside0.mk hbd; clear hbd; clear hb; have c0 := HE.out.1; have c1 := HE.out.2.1; have c2 := HE.out.2.2))
  go_loopw [37] (fun v37 wr => ∃ i : Nat, i ≤ l.length ∧ v37 = .int .i64 i ∧ Aside0 (Below w.heap.size w wr) ∧ Aside0 (EvB wr w.heap.size k t (.slice A l.length c)) ∧ Aside0 (Lib.IsBuilder 103 5 (w.heap.size + 1) (w.heap.size + 1) (bcells (evI k t l i)) wr)) (fun v _ => l.length - (intOf v).toNat)
  case atStart => exact ⟨0, by omega, rfl, HB, HE, HBu⟩
  case round =>
    obtain ⟨i, hi, rfl, HB', HE', HBu'⟩ := hrel
    clear HB HE HBu c0 c1 c2
    have HB := HB'
    have HE := HE'
    have HBu := HBu'
    clear HB' HE' HBu'
    have c0 := HE.out.1
    have c1 := HE.out.2.1
    have c2 := HE.out.2.2
    by_cases hlt : i < l.length
    · obtain ⟨ad, hA, hcell⟩ := Kd.at_int (Kd.C_below HR.out HB.out) (i : Int) (by omega) (by omega)
      subst hA
      rw [Int.toNat_natCast] at hcell
      have hsz := evI_size k t l i hi
      have hsi := intV_size (rd l (i : Int))
      go_wp2_with (first | (go_at_call 47; (with_reducible refine (int_c _ _).mono ?_); rintro e w1 ⟨rfl, hb⟩; have n0_ := Aside0.mk (below_step (by repeat (first | (with_reducible first | exact HB.out | apply below_alloc | apply pw_below_drewN | apply below_drew1) | exact HB.out)) hb); clear HB; have HB := n0_; clear n0_; have n0_ := Aside0.mk (isb_below HBu.out hb); clear HBu; have HBu := n0_; clear n0_; have n1_ := Aside0.mk (HE.out.keep hb HE.out.lt); clear HE c0 c1 c2; have HE := n1_; clear n1_; clear hb; have c0 := HE.out.1; have c1 := HE.out.2.1; have c2 := HE.out.2.2) | (go_at_call 46; (first | rw [head_cells k _ h0 h1 (by omega) b2] at HBu | skip); (with_reducible refine (bws _ _ _ _ HBu.out (by omega)).mono ?_); rintro e w1 ⟨rfl, hbd, hb⟩; have n0_ := Aside0.mk (below_to (by repeat (first | (with_reducible first | exact HB.out | apply below_alloc | apply pw_below_drewN | apply below_drew1) | exact HB.out)) hb (by omega)); clear HB; have HB := n0_; clear n0_; have n1_ := Aside0.mk (HE.out.keep hb (by omega)); clear HE c0 c1 c2; have HE := n1_; clear n1_; clear HBu; have HBu := Aside0.mk hbd; clear hbd; clear hb; have c0 := HE.out.1; have c1 := HE.out.2.1; have c2 := HE.out.2.2))
      go_roundw
      case rel => exact ⟨i + 1, by omega, by go_num, ⟨(by repeat (first | (with_reducible first | exact HB.out | apply below_alloc | apply pw_below_drewN | apply below_drew1) | exact HB.out))⟩, HE, by rw [evI_succ k t l i hlt]; exact HBu⟩
      case measure => simp [intOf]; omega
    · obtain rfl : i = l.length := by omega
      go_wp2_with (first | (go_at_call 48; (with_reducible refine (bstr _ _ _ HBu.out).mono ?_); rintro e w1 ⟨rfl, hb⟩; have n0_ := Aside0.mk (below_to (by repeat (first | (with_reducible first | exact HB.out | apply below_alloc | apply pw_below_drewN | apply below_drew1) | exact HB.out)) hb (by omega)); clear HB; have HB := n0_; clear n0_))
      go_ret2
      exact ⟨rfl, (by repeat (first | (with_reducible first | exact HB.out | apply below_alloc | apply pw_below_drewN | apply below_drew1) | exact HB.out))⟩
end Go.Proofs.Ytibcbeibehaeeaa.Hand

/- Package wire's reader: what its steps read, and when they panic. -/
set_option linter.unusedVariables false
namespace Go.Proofs.Ytibcbeibehaeeaa.Hand
open Go.RowKit Go.Proofs.Ytibcbeibehaeeaa.PStorePlays Go.Proofs.YtibcbeibehaeeaaW.PrintWords Go.Proofs.YtibcbeibehaeeaaW.PrintLast Go.Proofs.YtibcbeibehaeeaaW.PrintMore

def bad : List PanicEntry := [{ v := .iface 39 (.int .i64 7), recovered := false }]
theorem must_yes (w : World) : Calls Try.prog 58 #[.bool true] w fun e w' => e = .returned (.tuple #[]) ∧ w = w' := by
  go_enter Try.func58, Try.ntmps58
  go_wp2
  go_end0
  exact ⟨rfl, rfl⟩
theorem must_no (w : World) : Calls Try.prog 58 #[.bool false] w fun e w' => e = .panicked bad ∧ w = w' := by
  go_enter Try.func58, Try.ntmps58
  go_wp2
  exact ⟨rfl, rfl, rfl⟩
def Rd (W : World) (g : Nat) (s : ByteArray) (a : Int) : Prop := W.cell? ⟨g, 0, none⟩ = some (.string s) ∧ W.cell? ⟨g, 1, none⟩ = some (.int .i64 a) ∧ W.frozen? ⟨g, 1, none⟩ = false
theorem Rd.lt {W : World} {g : Nat} {s : ByteArray} {a : Int} (h : Rd W g s a) : g < W.heap.size := World.block_lt_of_cell? _ _ h.1
theorem Rd.keep {W W1 : World} {g : Nat} {s : ByteArray} {a : Int} (hb : Below W.heap.size W W1) (h : Rd W g s a) : Rd W1 g s a :=
  ⟨(hb.cell (p := ⟨g, 0, none⟩) h.lt).trans h.1, (hb.cell (p := ⟨g, 1, none⟩) h.lt).trans h.2.1, (hb.frozen (p := ⟨g, 1, none⟩) h.lt).trans h.2.2⟩
theorem Rd.put {W : World} {g : Nat} {s : ByteArray} {a : Int} (h : Rd W g s a) (b : Int) : Rd (W.setCell ⟨g, 1, none⟩ (.int .i64 b)) g s b :=
  ⟨(World.cell?_setCell_other _ _ _ _ (by simp)).trans h.1, World.cell?_setCell_same _ _ _ h.2.1, (World.frozen?_setCell _ _ _ _).trans h.2.2⟩
/-- But for a number stored into block g all is as it was. -/
def Turn (g : Nat) (a : Int) (w w' : World) : Prop := ∃ W, Below w.heap.size w W ∧ w' = W.setCell ⟨g, 1, none⟩ (.int .i64 a)
theorem get_at (s : ByteArray) (a n x : Int) (b : Bool) (w : World) (hs : s.size ≤ 1000000000000000) (e : getV s a n = (x, b)) :
    Calls Try.prog 70 #[.string s, .int .i64 a, .int .i64 n] w fun e w' => e = .returned (.tuple #[.int .u64 x, .bool b]) ∧ Below w.heap.size w w' := by
  have := get_c s a n w hs; rw [e] at this; exact this
theorem gint_at (s : ByteArray) (a x : Int) (b : Bool) (w : World) (hs : s.size ≤ 1000000000000000) (e : gintV s a = (x, b)) :
    Calls Try.prog 71 #[.string s, .int .i64 a] w fun e w' => e = .returned (.tuple #[.int .i64 x, .bool b]) ∧ Below w.heap.size w w' := by
  have := gint_c s a w hs; rw [e] at this; exact this
set_option maxHeartbeats 1000000 in
set_option maxRecDepth 100000 in
theorem rbyte_yes (g : Nat) (s : ByteArray) (a x : Int) (w : World) (hs : s.size ≤ 1000000000000000) (h : Rd w g s a) (e : Aside0 (getV s a 1 = (x, true))) (x0 : 0 ≤ x) (x1 : x ≤ 255) (a0 : 0 ≤ a) (a1 : a ≤ 1000000000000000) :
    Calls Try.prog 57 #[.pointer (some ⟨g, 0, none⟩)] w fun e w' => e = .returned (.int .i64 x) ∧ Turn g (a + 1) w w' := by
  have HB := Aside0.mk (Below.refl w.heap.size w)
  have hlt := h.lt
  have HR := Aside0.mk h
  have z := h
  unfold Rd at z
  clear h
  go_enter Try.func57, Try.ntmps57
  go_wp2_with fail
  go_region_held3 (fun w' => w'.cell? ⟨g, 0, none⟩ = some (.string s) ∧ w'.cell? ⟨g, 1, none⟩ = some (.int .i64 a) ∧ w'.frozen? ⟨g, 1, none⟩ = false) (first | (exact Rd.keep hb (by assumption)) | go_keep) (first | (go_at_call 70; (with_reducible refine (get_at s a 1 x true _ hs e.out).mono ?_); rintro y w9 ⟨rfl, hb⟩; have n0_ := Aside0.mk (below_step (by repeat (first | (with_reducible first | exact HB.out | apply below_alloc | apply pw_below_drewN | apply below_drew1) | exact HB.out)) hb); clear HB; have HB := n0_; clear n0_))
  go_wp2_with (go_at_call 58; refine (must_yes _).mono ?_; rintro y w8 ⟨rfl, rfl⟩)
  go_wp2
  go_ret
  exact ⟨rfl, _, (by repeat (first | (with_reducible first | exact HB.out | apply below_alloc | apply pw_below_drewN | apply below_drew1) | exact HB.out)), rfl⟩
set_option maxHeartbeats 1000000 in
set_option maxRecDepth 100000 in
theorem rbyte_no (g : Nat) (s : ByteArray) (a x : Int) (w : World) (hs : s.size ≤ 1000000000000000) (h : Rd w g s a) (e : Aside0 (getV s a 1 = (x, false))) :
    Calls Try.prog 57 #[.pointer (some ⟨g, 0, none⟩)] w fun e w' => e = .panicked bad ∧ Below w.heap.size w w' := by
  have HB := Aside0.mk (Below.refl w.heap.size w)
  have hlt := h.lt
  have HR := Aside0.mk h
  have z := h
  unfold Rd at z
  clear h
  go_enter Try.func57, Try.ntmps57
  go_wp2_with fail
  go_region_held3 (fun w' => w'.cell? ⟨g, 0, none⟩ = some (.string s) ∧ w'.cell? ⟨g, 1, none⟩ = some (.int .i64 a) ∧ w'.frozen? ⟨g, 1, none⟩ = false) (first | (exact Rd.keep hb (by assumption)) | go_keep) (first | (go_at_call 70; (with_reducible refine (get_at s a 1 x false _ hs e.out).mono ?_); rintro y w9 ⟨rfl, hb⟩; have n0_ := Aside0.mk (below_step (by repeat (first | (with_reducible first | exact HB.out | apply below_alloc | apply pw_below_drewN | apply below_drew1) | exact HB.out)) hb); clear HB; have HB := n0_; clear n0_))
  go_wp2_with (go_at_call 58; refine (must_no _).mono ?_; rintro y w8 ⟨rfl, rfl⟩)
  exact ⟨rfl, rfl, (by repeat (first | (with_reducible first | exact HB.out | apply below_alloc | apply pw_below_drewN | apply below_drew1) | exact HB.out))⟩
set_option maxHeartbeats 1000000 in
set_option maxRecDepth 100000 in
theorem rint_yes (g : Nat) (s : ByteArray) (a x : Int) (w : World) (hs : s.size ≤ 1000000000000000) (h : Rd w g s a) (e : Aside0 (gintV s a = (x, true))) (a0 : 0 ≤ a) (a1 : a ≤ 1000000000000000) :
    Calls Try.prog 59 #[.pointer (some ⟨g, 0, none⟩)] w fun e w' => e = .returned (.int .i64 x) ∧ Turn g (a + 8) w w' := by
  have HB := Aside0.mk (Below.refl w.heap.size w)
  have hlt := h.lt
  have HR := Aside0.mk h
  have z := h
  unfold Rd at z
  clear h
  go_enter Try.func59, Try.ntmps59
  go_wp2_with fail
  go_region_held3 (fun w' => w'.cell? ⟨g, 0, none⟩ = some (.string s) ∧ w'.cell? ⟨g, 1, none⟩ = some (.int .i64 a) ∧ w'.frozen? ⟨g, 1, none⟩ = false) (first | (exact Rd.keep hb (by assumption)) | go_keep) (first | (go_at_call 71; (with_reducible refine (gint_at s a x true _ hs e.out).mono ?_); rintro y w9 ⟨rfl, hb⟩; have n0_ := Aside0.mk (below_step (by repeat (first | (with_reducible first | exact HB.out | apply below_alloc | apply pw_below_drewN | apply below_drew1) | exact HB.out)) hb); clear HB; have HB := n0_; clear n0_))
  go_wp2_with (go_at_call 58; refine (must_yes _).mono ?_; rintro y w8 ⟨rfl, rfl⟩)
  go_wp2
  go_ret
  exact ⟨rfl, _, (by repeat (first | (with_reducible first | exact HB.out | apply below_alloc | apply pw_below_drewN | apply below_drew1) | exact HB.out)), rfl⟩
set_option maxHeartbeats 1000000 in
set_option maxRecDepth 100000 in
theorem rint_no (g : Nat) (s : ByteArray) (a x : Int) (w : World) (hs : s.size ≤ 1000000000000000) (h : Rd w g s a) (e : Aside0 (gintV s a = (x, false))) :
    Calls Try.prog 59 #[.pointer (some ⟨g, 0, none⟩)] w fun e w' => e = .panicked bad ∧ Below w.heap.size w w' := by
  have HB := Aside0.mk (Below.refl w.heap.size w)
  have hlt := h.lt
  have HR := Aside0.mk h
  have z := h
  unfold Rd at z
  clear h
  go_enter Try.func59, Try.ntmps59
  go_wp2_with fail
  go_region_held3 (fun w' => w'.cell? ⟨g, 0, none⟩ = some (.string s) ∧ w'.cell? ⟨g, 1, none⟩ = some (.int .i64 a) ∧ w'.frozen? ⟨g, 1, none⟩ = false) (first | (exact Rd.keep hb (by assumption)) | go_keep) (first | (go_at_call 71; (with_reducible refine (gint_at s a x false _ hs e.out).mono ?_); rintro y w9 ⟨rfl, hb⟩; have n0_ := Aside0.mk (below_step (by repeat (first | (with_reducible first | exact HB.out | apply below_alloc | apply pw_below_drewN | apply below_drew1) | exact HB.out)) hb); clear HB; have HB := n0_; clear n0_))
  go_wp2_with (go_at_call 58; refine (must_no _).mono ?_; rintro y w8 ⟨rfl, rfl⟩)
  exact ⟨rfl, rfl, (by repeat (first | (with_reducible first | exact HB.out | apply below_alloc | apply pw_below_drewN | apply below_drew1) | exact HB.out))⟩
end Go.Proofs.Ytibcbeibehaeeaa.Hand
