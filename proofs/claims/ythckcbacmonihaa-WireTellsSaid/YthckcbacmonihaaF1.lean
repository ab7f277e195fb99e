/- Events in plain words: the reference's Put and Get; kinds; the size. -/
import Derived.Test.YthckcbacmonihaaF0
set_option linter.unusedVariables false
set_option linter.unusedSimpArgs false
namespace Go.Proofs.Ythckcbacmonihaa.Hand
open Go.RowKit Go.Proofs.Ythckcbacmonihaa.PWireTells Go.Proofs.YthckcbacmonihaaW.PrintWords Go.Proofs.YthckcbacmonihaaW.PrintLast Go.Proofs.YthckcbacmonihaaW.PrintMore

theorem rint_f (n : Int) (k : Nat) (hk : 12 ≤ k) : jettisonref02_Int.f k n = some (intV n) := by
  have h0 : jettisonref02_Int.f 12 n = some (intV n) := by unfold jettisonref02_Int.f; rw [rput_f 8 _ (wrapU n).1 (wrapU n).2]; rfl
  obtain ⟨d, rfl⟩ := Nat.exists_eq_add_of_le hk
  induction d with
  | zero => exact h0
  | succ d ih => exact jettisonref02_Int.mono _ _ _ (ih (by omega))
theorem rput05_l0 (k t : Int) (l : List Int) (hm : l.length ≤ 8) : ∀ (d i n : Nat), i + d = l.length → d + 12 < n → jettisonref05_Put.l0 n (evI k t l i) (i : Int) k t l = some (evI k t l l.length, true) := by
  intro d
  induction d with
  | zero =>
    intro i n hi hn
    obtain ⟨n, rfl⟩ : ∃ m, n = m + 1 := ⟨n - 1, by omega⟩
    obtain rfl : i = l.length := by omega
    simp only [jettisonref05_Put.l0]
    rw [if_neg (by omega)]
  | succ d ih =>
    intro i n hi hn
    obtain ⟨n, rfl⟩ : ∃ m, n = m + 1 := ⟨n - 1, by omega⟩
    have e3 : wrap64 ((i : Int) + 1) = ((i + 1 : Nat) : Int) := by rw [w_id (by omega) (by omega)]; omega
    simp only [jettisonref05_Put.l0]
    rw [if_pos (by omega), if_pos (by omega), rint_f _ n (by omega)]
    simp only [Option.bind_some]
    rw [if_pos (by rw [evI_size k t l i (by omega), intV_size]; omega), e3, ← evI_succ k t l i (by omega)]
    exact ih (i + 1) n (by omega) (by omega)
theorem rput05_f (k t : Int) (l : List Int) : jettisonref05_Put.f 30 k t l = some (putE k t l) := by
  unfold jettisonref05_Put.f
  by_cases h1 : k < 0
  · rw [if_pos h1, putE_no (.inl h1)]; rfl
  rw [if_neg h1]
  by_cases h2 : k > 255
  · rw [if_pos h2, putE_no (.inr (.inl h2))]; rfl
  rw [if_neg h2]
  by_cases h3 : (l.length : Int) > 8
  · rw [decide_eq_true h3, putE_no (.inr (.inr (by omega)))]; rfl
  rw [decide_eq_false h3, putE_yes (by omega) (by omega) (by omega)]
  simp only [jettisonref05_Put.j0]
  rw [if_neg (by simp), rint_f _ 29 (by omega)]
  simp only [Option.bind_some]
  rw [if_pos (by rw [intV_size, str_size]; simp), show (k % 256) = k from by omega, show ((l.length : Int) % 256) = (l.length : Int) from by omega]
  exact rput05_l0 k t l (by omega) l.length 0 29 (by omega) (by omega)
theorem rput05_c (k t : Int) (A : Option Addr) (c : Nat) (l : List Int) (s : ByteArray) (b : Bool) (w : World) (h1 : Kd.C (Kd.int .i64) w A l.length l) (h2 : l.length ≤ c) (h : putE k t l = (s, b)) :
    Calls Try.prog 10 #[.agg #[.int .i64 k, .int .i64 t, .slice A l.length c]] w fun e w' => e = .returned (.tuple #[.string s, .bool b]) ∧ Below w.heap.size w w' :=
  jettisonref05_Put.calls 30 k t A c l s b w h1 h2 (by rw [rput05_f, h])
theorem rsize05_c (k t : Int) (A : Option Addr) (c : Nat) (l : List Int) (n : Int) (w : World) (h1 : Kd.C (Kd.int .i64) w A l.length l) (h2 : l.length ≤ c) (h : ((putE k t l).1.size : Int) = n) :
    Calls Try.prog 17 #[.agg #[.int .i64 k, .int .i64 t, .slice A l.length c]] w fun e w' => e = .returned (.int .i64 n) ∧ Below w.heap.size w w' :=
  jettisonref05_Size.calls 30 k t A c l n w h1 h2 (by unfold jettisonref05_Size.f; rw [rput05_f, ← h]; rfl)
theorem rgint_f (s : ByteArray) (a : Int) (hs : s.size ≤ 1000000000000000) (h0 : 0 ≤ a) (h1 : a + 8 ≤ s.size) (k : Nat) (hk : 12 ≤ k) : jettisonref02_GetInt.f k s a = some (giV s a, true) := by
  have h0 : jettisonref02_GetInt.f 12 s a = some (giV s a, true) := by
    rw [← gintV_yes s a h0 h1]
    unfold jettisonref02_GetInt.f; rw [rget_f s hs a 8 (by omega)]; rfl
  obtain ⟨d, rfl⟩ := Nat.exists_eq_add_of_le hk
  induction d with
  | zero => exact h0
  | succ d ih => exact jettisonref02_GetInt.mono _ _ _ _ (ih (by omega))
theorem rget05_l0 (s : ByteArray) (hs : s.size ≤ 1000000000000000) (k t : Int) (m : Nat) (hm8 : m ≤ 8) (hb : bt s 1 = (m : Int)) (hz : s.size = 10 + 8 * m) : ∀ (d i n : Nat), i + d = m → d + 12 < n →
    jettisonref05_Get.l0 n s (i : Int) k t (evN s i) = some (k, t, evN s m, 0) := by
  intro d
  induction d with
  | zero =>
    intro i n hi hn
    obtain ⟨n, rfl⟩ : ∃ m, n = m + 1 := ⟨n - 1, by omega⟩
    obtain rfl : i = m := by omega
    simp only [jettisonref05_Get.l0]
    rw [if_pos (by omega), hb, w_id (by omega) (by omega), if_neg (by omega)]
  | succ d ih =>
    intro i n hi hn
    obtain ⟨n, rfl⟩ : ∃ m, n = m + 1 := ⟨n - 1, by omega⟩
    have e3 : wrap64 ((i : Int) + 1) = ((i + 1 : Nat) : Int) := by rw [w_id (by omega) (by omega)]; omega
    have e4 : wrap64 (10 + wrap64 (8 * (i : Int))) = 10 + 8 * (i : Int) := by rw [w_id (x := 8 * (i : Int)) (by omega) (by omega), w_id (by omega) (by omega)]
    simp only [jettisonref05_Get.l0]
    rw [if_pos (by omega), hb, w_id (x := (m : Int)) (by omega) (by omega), if_pos (by omega), e4, rgint_f s _ hs (by omega) (by omega) n (by omega)]
    simp only [Option.bind_some]
    rw [if_pos (by rw [evN_len]; omega), e3, ← evN_succ]
    exact ih (i + 1) n (by omega) (by omega)
theorem rget05_f (s : ByteArray) (hs : s.size ≤ 1000000000000000) : jettisonref05_Get.f 40 s = some (getE s) := by
  have hb := bt_range s 1
  unfold jettisonref05_Get.f
  by_cases h1 : (s.size : Int) < 10
  · rw [if_pos h1, getE_no (fun h => by unfold okE at h; omega)]; rfl
  rw [if_neg h1, if_pos (by omega)]
  by_cases h2 : bt s 1 > 8
  · rw [if_pos h2, getE_no (fun h => by unfold okE at h; omega)]; rfl
  rw [if_neg h2, w_id (x := bt s 1) (by omega) (by omega), w_id (x := 8 * bt s 1) (by omega) (by omega), w_id (by omega) (by omega)]
  by_cases h3 : (s.size : Int) = 10 + 8 * bt s 1
  · have e : ((s.size : Int) != 10 + 8 * bt s 1) = false := by simpa using h3
    rw [e, getE_yes ⟨by omega, by omega, h3⟩]
    obtain ⟨m, hm⟩ := Int.eq_ofNat_of_zero_le hb.1
    have hm' : bt s 1 = (m : Int) := hm
    simp only [jettisonref05_Get.j0]
    rw [if_neg (by simp), if_pos (by omega), rgint_f s 2 hs (by omega) (by omega) 39 (by omega)]
    simp only [Option.bind_some]
    have hb0 := bt_range s 0
    rw [w_id (x := bt s 0) (by omega) (by omega), hm', Int.toNat_natCast]
    exact rget05_l0 s hs (bt s 0) (giV s 2) m (by omega) hm' (by omega) m 0 39 (by omega) (by omega)
  · have e : ((s.size : Int) != 10 + 8 * bt s 1) = true := by simpa using h3
    rw [e, getE_no (fun h => h3 h.2.2)]; rfl
theorem rget05_c (s : ByteArray) (w : World) (hs : s.size ≤ 1000000000000000) (k t x : Int) (l : List Int) (h : getE s = (k, t, l, x)) :
    Calls Try.prog 13 #[.string s] w fun e w' => ∃ v : Value, e = .returned (.tuple #[.agg #[.int .i64 k, .int .i64 t, v], .int .i64 x]) ∧ Kd.R (Kd.int .i64) 2 w' w.heap.size (fun _ => True) v l ∧ Below w.heap.size w w' :=
  jettisonref05_Get.calls 40 s k t l x w (by rw [rget05_f s hs, h])
end Go.Proofs.Ythckcbacmonihaa.Hand
