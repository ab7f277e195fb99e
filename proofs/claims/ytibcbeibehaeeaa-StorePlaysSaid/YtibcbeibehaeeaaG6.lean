/- Joined: F0, F1, F5, F2, F3. -/
import Derived.Test.YtibcbeibehaeeaaG5
import Derived.Lib.Bytes
/- Events in plain words: what is put, got, the same, of a kind; the program's and the reference's answers are these. -/
set_option linter.unusedVariables false
set_option linter.unusedSimpArgs false
namespace Go.Proofs.Ytibcbeibehaeeaa.Hand
open Go.RowKit Go.Proofs.Ytibcbeibehaeeaa.PStorePlays Go.Proofs.YtibcbeibehaeeaaW.PrintWords Go.Proofs.YtibcbeibehaeeaaW.PrintLast Go.Proofs.YtibcbeibehaeeaaW.PrintMore

def putE (k t : Int) (l : List Int) : ByteArray × Bool := if k < 0 ∨ 255 < k ∨ 8 < l.length then (⟨#[]⟩, false) else (evI k t l l.length, true)
theorem putE_no {k t : Int} {l : List Int} (h : k < 0 ∨ 255 < k ∨ 8 < l.length) : putE k t l = (⟨#[]⟩, false) := if_pos h
theorem putE_yes {k t : Int} {l : List Int} (h0 : 0 ≤ k) (h1 : k ≤ 255) (h2 : l.length ≤ 8) : putE k t l = (evI k t l l.length, true) := if_neg (by omega)
theorem putE_size (k t : Int) (l : List Int) : (putE k t l).1.size ≤ 74 := by
  unfold putE
  split
  · exact Nat.zero_le _
  · show (evI k t l l.length).size ≤ 74
    rw [evI_size k t l l.length (Nat.le_refl _)]; omega
theorem wput_c (k t : Int) (l : List Int) (A : Option Addr) (c : Nat) (w : World) (hr : Kd.C (Kd.int .i64) w A l.length l) :
    Calls Try.prog 32 #[.agg #[.int .i64 k, .int .i64 t, .slice A l.length c]] w fun e w' => e = .returned (.tuple #[.string (putE k t l).1, .bool (putE k t l).2]) ∧ Below w.heap.size w w' := by
  by_cases h : k < 0 ∨ 255 < k ∨ 8 < l.length
  · rw [putE_no h]; exact wput_no k t l A c w hr.2.1 h
  · rw [putE_yes (by omega) (by omega) (by omega)]; exact wput_yes k t l A c w hr (by omega) (by omega) (by omega)
def okE (s : ByteArray) : Prop := 10 ≤ s.size ∧ bt s 1 ≤ 8 ∧ (s.size : Int) = 10 + 8 * bt s 1
instance (s : ByteArray) : Decidable (okE s) := by unfold okE; infer_instance
def wgetE (s : ByteArray) : Int × Int × List Int × Int := if okE s then (bt s 0, giV s 2, evN s (bt s 1).toNat, 0) else (0, 0, [], 7)
theorem getE_yes {s : ByteArray} (h : okE s) : wgetE s = (bt s 0, giV s 2, evN s (bt s 1).toNat, 0) := if_pos h
theorem getE_no {s : ByteArray} (h : ¬ okE s) : wgetE s = (0, 0, [], 7) := if_neg h
theorem wget_no (s : ByteArray) (w : World) (hs : s.size ≤ 1000000000000000) (h : ¬ okE s) :
    Calls Try.prog 40 #[.string s] w fun e w' => e = .returned (.tuple #[.agg #[.int .i64 0, .int .i64 0, .slice none 0 0], .int .i64 7]) ∧ Below w.heap.size w w' := by
  unfold okE at h
  have hb := bt_range s 1
  rcases Nat.lt_or_ge s.size 2 with h1 | h1
  · rcases Nat.lt_or_ge s.size 1 with h2 | h2
    · exact get_f1 s w hs (by omega)
    · exact get_f2 s w hs (by omega)
  rcases Int.lt_or_le 8 (bt s 1) with h2 | h2
  · exact get_f3 s w hs h1 h2
  rcases Nat.lt_or_ge s.size 10 with h3 | h3
  · exact get_f4 s w hs h1 h2 h3
  obtain ⟨m, hm⟩ := Int.eq_ofNat_of_zero_le hb.1
  have hm' : bt s 1 = (m : Int) := hm
  have h4 : s.size ≠ 10 + 8 * m := fun e => h ⟨h3, h2, by omega⟩
  rcases Nat.lt_or_ge s.size (10 + 8 * m) with h5 | h5
  · have hq : (s.size - 10) / 8 < m := by omega
    exact get_f5 s m ((s.size - 10) / 8) w hs h3 ⟨hm'⟩ (by omega) (by omega) (by omega) (fun _ => by omega) hq
  · exact get_f6 s m m w hs h3 ⟨hm'⟩ (by omega) (Nat.le_refl _) (by omega) (fun h => absurd h (Nat.lt_irrefl _)) rfl h4
theorem wget_c (s : ByteArray) (w : World) (hs : s.size ≤ 1000000000000000) (k t x : Int) (l : List Int) (h : wgetE s = (k, t, l, x)) :
    Calls Try.prog 40 #[.string s] w fun e w' => ∃ v : Value, e = .returned (.tuple #[.agg #[.int .i64 k, .int .i64 t, v], .int .i64 x]) ∧ Kd.R (Kd.int .i64) 2 w' w.heap.size (fun _ => True) v l ∧ Below w.heap.size w w' := by
  by_cases ho : okE s
  · rw [getE_yes ho] at h
    injection h with e1 h; injection h with e2 h; injection h with e3 e4
    subst e1 e2 e3 e4
    unfold okE at ho
    have hb := bt_range s 1
    obtain ⟨m, hm⟩ := Int.eq_ofNat_of_zero_le hb.1
    have hm' : bt s 1 = (m : Int) := hm
    have := wget_yes s m m w hs ho.1 ⟨hm'⟩ (by omega) (Nat.le_refl _) (by omega) (fun h => absurd h (Nat.lt_irrefl _)) rfl (by omega)
    rw [hm', Int.toNat_natCast]
    exact this
  · rw [getE_no ho] at h
    injection h with e1 h; injection h with e2 h; injection h with e3 e4
    subst e1 e2 e3 e4
    refine (wget_no s w hs ho).mono ?_
    rintro e w' ⟨rfl, hb⟩
    exact ⟨_, rfl, Kd.R_nil _ _ _ _ _, hb⟩
def sameE (k t : Int) (l : List Int) (k' t' : Int) (l' : List Int) : Bool := decide (k = k' ∧ t = t' ∧ l = l')
theorem rd_eq_all {a b : List Int} (hl : a.length = b.length) (h : ∀ i : Nat, i < a.length → rd a (i : Int) = rd b (i : Int)) : a = b := by
  refine List.ext_getElem hl fun i h1 h2 => ?_
  have := h i h1
  unfold rd at this
  rw [List.getD_eq_getElem?_getD, List.getD_eq_getElem?_getD, Int.toNat_natCast, List.getElem?_eq_getElem h1, List.getElem?_eq_getElem h2] at this
  exact this
theorem eq_l0 (a b : List Int) (hl : a.length = b.length) (hm : a.length ≤ 9223372036854775807) : ∀ (d i k : Nat), i + d = a.length → d < k → (∀ j : Nat, j < i → rd a (j : Int) = rd b (j : Int)) →
    slices_Equal_int64_int64.l0 k a b (a.length : Int) (i : Int) = some (decide (a = b)) := by
  intro d
  induction d with
  | zero =>
    intro i k hi hk hp
    obtain ⟨k, rfl⟩ : ∃ m, k = m + 1 := ⟨k - 1, by omega⟩
    simp only [slices_Equal_int64_int64.l0]
    rw [if_neg (by omega), decide_eq_true (rd_eq_all hl (fun j hj => hp j (by omega)))]
  | succ d ih =>
    intro i k hi hk hp
    obtain ⟨k, rfl⟩ : ∃ m, k = m + 1 := ⟨k - 1, by omega⟩
    have e3 : wrap64 ((i : Int) + 1) = ((i + 1 : Nat) : Int) := by rw [w_id (by omega) (by omega)]; omega
    simp only [slices_Equal_int64_int64.l0]
    rw [if_pos (by omega), if_pos (by omega), if_pos (by omega), if_pos (by omega), e3]
    by_cases he : rd a (i : Int) = rd b (i : Int)
    · rw [if_pos he]
      exact ih (i + 1) k (by omega) (by omega) (fun j hj => by
        rcases Nat.lt_or_ge j i with h1 | h1
        · exact hp j h1
        · obtain rfl : j = i := by omega
          exact he)
    · rw [if_neg he, decide_eq_false (fun h => he (by rw [h]))]
theorem wsame_f (k t : Int) (l : List Int) (k' t' : Int) (l' : List Int) (hm : l.length ≤ 9223372036854775807) : wire_Same.f (l.length + 1) k t l k' t' l' = some (sameE k t l k' t' l') := by
  unfold wire_Same.f sameE
  by_cases h1 : k = k'
  · rw [if_pos h1]
    by_cases h2 : t = t'
    · rw [if_pos h2]
      unfold slices_Equal_int64_int64.f
      by_cases h3 : l.length = l'.length
      · rw [if_pos (by omega)]
        have := eq_l0 l l' h3 hm l.length 0 (l.length + 1) (by omega) (by omega) (fun j hj => absurd hj (by omega))
        rw [show ((0 : Nat) : Int) = 0 from rfl] at this
        rw [this]
        simp [h1, h2]
      · rw [if_neg (by omega)]
        have : ¬ l = l' := fun e => h3 (by rw [e])
        simp [this]
    · rw [if_neg h2]; simp [h2]
  · rw [if_neg h1]; simp [h1]
theorem wsame_c (k t : Int) (A : Option Addr) (c : Nat) (l : List Int) (k' t' : Int) (A' : Option Addr) (c' : Nat) (l' : List Int) (b : Bool) (w : World) (h1 : Kd.C (Kd.int .i64) w A l.length l) (h2 : l.length ≤ c) (h3 : Kd.C (Kd.int .i64) w A' l'.length l') (h4 : l'.length ≤ c') (h : sameE k t l k' t' l' = b) :
    Calls Try.prog 29 #[.agg #[.int .i64 k, .int .i64 t, .slice A l.length c], .agg #[.int .i64 k', .int .i64 t', .slice A' l'.length c']] w fun e w' => e = .returned (.bool b) ∧ Below w.heap.size w w' :=
  wire_Same.calls (l.length + 1) k t A c l k' t' A' c' l' b w h1 h2 h3 h4 (by rw [wsame_f k t l k' t' l' h1.2.1, h])
theorem req_l0 (k t k' t' : Int) (a b : List Int) (hl : a.length = b.length) (hm : a.length ≤ 9223372036854775807) : ∀ (d i n : Nat), i + d = a.length → d < n → (∀ j : Nat, j < i → rd a (j : Int) = rd b (j : Int)) →
    jettisonref05_Same.l0 n (i : Int) k t a k' t' b = some (decide (a = b)) := by
  intro d
  induction d with
  | zero =>
    intro i n hi hk hp
    obtain ⟨n, rfl⟩ : ∃ m, n = m + 1 := ⟨n - 1, by omega⟩
    simp only [jettisonref05_Same.l0]
    rw [if_neg (by omega), decide_eq_true (rd_eq_all hl (fun j hj => hp j (by omega)))]
  | succ d ih =>
    intro i n hi hk hp
    obtain ⟨n, rfl⟩ : ∃ m, n = m + 1 := ⟨n - 1, by omega⟩
    have e3 : wrap64 ((i : Int) + 1) = ((i + 1 : Nat) : Int) := by rw [w_id (by omega) (by omega)]; omega
    simp only [jettisonref05_Same.l0]
    rw [if_pos (by omega), if_pos (by omega), if_pos (by omega), e3]
    by_cases he : rd a (i : Int) = rd b (i : Int)
    · rw [if_pos he]
      exact ih (i + 1) n (by omega) (by omega) (fun j hj => by
        rcases Nat.lt_or_ge j i with h1 | h1
        · exact hp j h1
        · obtain rfl : j = i := by omega
          exact he)
    · rw [if_neg he, decide_eq_false (fun h => he (by rw [h]))]
theorem rsame_f (k t : Int) (l : List Int) (k' t' : Int) (l' : List Int) (hm : l.length ≤ 9223372036854775807) : jettisonref05_Same.f (l.length + 2) k t l k' t' l' = some (sameE k t l k' t' l') := by
  unfold jettisonref05_Same.f sameE
  by_cases h1 : k = k'
  · rw [if_pos h1]
    by_cases h2 : t = t'
    · rw [if_pos h2]
      simp only [jettisonref05_Same.j0]
      by_cases h3 : l.length = l'.length
      · have e0 : ((l.length : Int) != (l'.length : Int)) = false := by simp [h3]
        rw [e0, if_neg (by simp)]
        have := req_l0 k t k' t' l l' h3 hm l.length 0 (l.length + 1) (by omega) (by omega) (fun j hj => absurd hj (by omega))
        rw [show ((0 : Nat) : Int) = 0 from rfl] at this
        rw [this]
        simp [h1, h2]
      · have e0 : ((l.length : Int) != (l'.length : Int)) = true := by simp; omega
        rw [e0, if_pos rfl]
        have : ¬ l = l' := fun e => h3 (by rw [e])
        simp [this]
    · rw [if_neg h2]; simp [h2, jettisonref05_Same.j0]
  · rw [if_neg h1]; simp [h1, jettisonref05_Same.j0]
theorem rsame_c (k t : Int) (A : Option Addr) (c : Nat) (l : List Int) (k' t' : Int) (A' : Option Addr) (c' : Nat) (l' : List Int) (b : Bool) (w : World) (h1 : Kd.C (Kd.int .i64) w A l.length l) (h2 : l.length ≤ c) (h3 : Kd.C (Kd.int .i64) w A' l'.length l') (h4 : l'.length ≤ c') (h : sameE k t l k' t' l' = b) :
    Calls Try.prog 20 #[.agg #[.int .i64 k, .int .i64 t, .slice A l.length c], .agg #[.int .i64 k', .int .i64 t', .slice A' l'.length c']] w fun e w' => e = .returned (.bool b) ∧ Below w.heap.size w w' :=
  jettisonref05_Same.calls (l.length + 2) k t A c l k' t' A' c' l' b w h1 h2 h3 h4 (by rw [rsame_f k t l k' t' l' h1.2.1, h])
end Go.Proofs.Ytibcbeibehaeeaa.Hand

/- Events in plain words: the reference's Put and Get; kinds; the size. -/
set_option linter.unusedVariables false
set_option linter.unusedSimpArgs false
namespace Go.Proofs.Ytibcbeibehaeeaa.Hand
open Go.RowKit Go.Proofs.Ytibcbeibehaeeaa.PStorePlays Go.Proofs.YtibcbeibehaeeaaW.PrintWords Go.Proofs.YtibcbeibehaeeaaW.PrintLast Go.Proofs.YtibcbeibehaeeaaW.PrintMore

theorem rint_f (n : Int) (k : Nat) (hk : 12 ≤ k) : jettisonref02_Int.f k n = some (intV n) := by
  have h0 : jettisonref02_Int.f 12 n = some (intV n) := by unfold jettisonref02_Int.f; rw [rput_f 8 _ (wrapU n).1 (wrapU n).2]; rfl
  obtain ⟨d, rfl⟩ := Nat.exists_eq_add_of_le hk
  induction d with
  | zero => exact h0
  | succ d ih => exact jettisonref02_Int.mono _ _ _ (ih (by omega))
theorem rput05_l0 (k t : Int) (l : List Int) (hm : l.length ≤ 8) : ∀ (d i n : Nat), i + d = l.length → d + 12 < n → jettisonref05_Put.l0 n (evI k t l i) (i : Int) k t l = some (evI k t l l.length, true) := by
  intro d
  induction d with
  | zero =>
    intro i n hi hn
    obtain ⟨n, rfl⟩ : ∃ m, n = m + 1 := ⟨n - 1, by omega⟩
    obtain rfl : i = l.length := by omega
    simp only [jettisonref05_Put.l0]
    rw [if_neg (by omega)]
  | succ d ih =>
    intro i n hi hn
    obtain ⟨n, rfl⟩ : ∃ m, n = m + 1 := ⟨n - 1, by omega⟩
    have e3 : wrap64 ((i : Int) + 1) = ((i + 1 : Nat) : Int) := by rw [w_id (by omega) (by omega)]; omega
    simp only [jettisonref05_Put.l0]
    rw [if_pos (by omega), if_pos (by omega), rint_f _ n (by omega)]
    simp only [Option.bind_some]
    rw [if_pos (by rw [evI_size k t l i (by omega), intV_size]; omega), e3, ← evI_succ k t l i (by omega)]
    exact ih (i + 1) n (by omega) (by omega)
theorem rput05_f (k t : Int) (l : List Int) : jettisonref05_Put.f 30 k t l = some (putE k t l) := by
  unfold jettisonref05_Put.f
  by_cases h1 : k < 0
  · rw [if_pos h1, putE_no (.inl h1)]; rfl
  rw [if_neg h1]
  by_cases h2 : k > 255
  · rw [if_pos h2, putE_no (.inr (.inl h2))]; rfl
  rw [if_neg h2]
  by_cases h3 : (l.length : Int) > 8
  · rw [decide_eq_true h3, putE_no (.inr (.inr (by omega)))]; rfl
  rw [decide_eq_false h3, putE_yes (by omega) (by omega) (by omega)]
  simp only [jettisonref05_Put.j0]
  rw [if_neg (by simp), rint_f _ 29 (by omega)]
  simp only [Option.bind_some]
  rw [if_pos (by rw [intV_size, str_size]; simp), show (k % 256) = k from by omega, show ((l.length : Int) % 256) = (l.length : Int) from by omega]
  exact rput05_l0 k t l (by omega) l.length 0 29 (by omega) (by omega)
theorem rput05_c (k t : Int) (A : Option Addr) (c : Nat) (l : List Int) (s : ByteArray) (b : Bool) (w : World) (h1 : Kd.C (Kd.int .i64) w A l.length l) (h2 : l.length ≤ c) (h : putE k t l = (s, b)) :
    Calls Try.prog 34 #[.agg #[.int .i64 k, .int .i64 t, .slice A l.length c]] w fun e w' => e = .returned (.tuple #[.string s, .bool b]) ∧ Below w.heap.size w w' :=
  jettisonref05_Put.calls 30 k t A c l s b w h1 h2 (by rw [rput05_f, h])
theorem rgint_f (s : ByteArray) (a : Int) (hs : s.size ≤ 1000000000000000) (h0 : 0 ≤ a) (h1 : a + 8 ≤ s.size) (k : Nat) (hk : 12 ≤ k) : jettisonref02_GetInt.f k s a = some (giV s a, true) := by
  have h0 : jettisonref02_GetInt.f 12 s a = some (giV s a, true) := by
    rw [← gintV_yes s a h0 h1]
    unfold jettisonref02_GetInt.f; rw [rget_f s hs a 8 (by omega)]; rfl
  obtain ⟨d, rfl⟩ := Nat.exists_eq_add_of_le hk
  induction d with
  | zero => exact h0
  | succ d ih => exact jettisonref02_GetInt.mono _ _ _ _ (ih (by omega))
theorem rget05_l0 (s : ByteArray) (hs : s.size ≤ 1000000000000000) (k t : Int) (m : Nat) (hm8 : m ≤ 8) (hb : bt s 1 = (m : Int)) (hz : s.size = 10 + 8 * m) : ∀ (d i n : Nat), i + d = m → d + 12 < n →
    jettisonref05_Get.l0 n s (i : Int) k t (evN s i) = some (k, t, evN s m, 0) := by
  intro d
  induction d with
  | zero =>
    intro i n hi hn
    obtain ⟨n, rfl⟩ : ∃ m, n = m + 1 := ⟨n - 1, by omega⟩
    obtain rfl : i = m := by omega
    simp only [jettisonref05_Get.l0]
    rw [if_pos (by omega), hb, w_id (by omega) (by omega), if_neg (by omega)]
  | succ d ih =>
    intro i n hi hn
    obtain ⟨n, rfl⟩ : ∃ m, n = m + 1 := ⟨n - 1, by omega⟩
    have e3 : wrap64 ((i : Int) + 1) = ((i + 1 : Nat) : Int) := by rw [w_id (by omega) (by omega)]; omega
    have e4 : wrap64 (10 + wrap64 (8 * (i : Int))) = 10 + 8 * (i : Int) := by rw [w_id (x := 8 * (i : Int)) (by omega) (by omega), w_id (by omega) (by omega)]
    simp only [jettisonref05_Get.l0]
    rw [if_pos (by omega), hb, w_id (x := (m : Int)) (by omega) (by omega), if_pos (by omega), e4, rgint_f s _ hs (by omega) (by omega) n (by omega)]
    simp only [Option.bind_some]
    rw [if_pos (by rw [evN_len]; omega), e3, ← evN_succ]
    exact ih (i + 1) n (by omega) (by omega)
theorem rget05_f (s : ByteArray) (hs : s.size ≤ 1000000000000000) : jettisonref05_Get.f 40 s = some (wgetE s) := by
  have hb := bt_range s 1
  unfold jettisonref05_Get.f
  by_cases h1 : (s.size : Int) < 10
  · rw [if_pos h1, getE_no (fun h => by unfold okE at h; omega)]; rfl
  rw [if_neg h1, if_pos (by omega)]
  by_cases h2 : bt s 1 > 8
  · rw [if_pos h2, getE_no (fun h => by unfold okE at h; omega)]; rfl
  rw [if_neg h2, w_id (x := bt s 1) (by omega) (by omega), w_id (x := 8 * bt s 1) (by omega) (by omega), w_id (by omega) (by omega)]
  by_cases h3 : (s.size : Int) = 10 + 8 * bt s 1
  · have e : ((s.size : Int) != 10 + 8 * bt s 1) = false := by simpa using h3
    rw [e, getE_yes ⟨by omega, by omega, h3⟩]
    obtain ⟨m, hm⟩ := Int.eq_ofNat_of_zero_le hb.1
    have hm' : bt s 1 = (m : Int) := hm
    simp only [jettisonref05_Get.j0]
    rw [if_neg (by simp), if_pos (by omega), rgint_f s 2 hs (by omega) (by omega) 39 (by omega)]
    simp only [Option.bind_some]
    have hb0 := bt_range s 0
    rw [w_id (x := bt s 0) (by omega) (by omega), hm', Int.toNat_natCast]
    exact rget05_l0 s hs (bt s 0) (giV s 2) m (by omega) hm' (by omega) m 0 39 (by omega) (by omega)
  · have e : ((s.size : Int) != 10 + 8 * bt s 1) = true := by simpa using h3
    rw [e, getE_no (fun h => h3 h.2.2)]; rfl
theorem rget05_c (s : ByteArray) (w : World) (hs : s.size ≤ 1000000000000000) (k t x : Int) (l : List Int) (h : wgetE s = (k, t, l, x)) :
    Calls Try.prog 42 #[.string s] w fun e w' => ∃ v : Value, e = .returned (.tuple #[.agg #[.int .i64 k, .int .i64 t, v], .int .i64 x]) ∧ Kd.R (Kd.int .i64) 2 w' w.heap.size (fun _ => True) v l ∧ Below w.heap.size w w' :=
  jettisonref05_Get.calls 40 s k t l x w (by rw [rget05_f s hs, h])
end Go.Proofs.Ytibcbeibehaeeaa.Hand

/- Bytes and numbers: the plain laws of chapter 2. No walk. -/
set_option linter.unusedVariables false
namespace Go.Proofs.Ytibcbeibehaeeaa.Hand
open Go.RowKit Go.Proofs.YtibcbeibehaeeaaW.PrintWords Go.Proofs.YtibcbeibehaeeaaW.PrintLast Go.Proofs.YtibcbeibehaeeaaW.PrintMore

theorem bt_nat (s : ByteArray) (j : Nat) (h : j < s.size) : bt s (j : Int) = ((s[j]'h).toNat : Int) := by
  have := bt_at s (j : Int) (by simpa using h)
  simpa using this.symm
theorem bt_left (P S : ByteArray) (j : Nat) (h : j < P.size) : bt (P ++ S) (j : Int) = bt P (j : Int) := by
  rw [bt_nat P j h, bt_nat (P ++ S) j (by rw [ByteArray.size_append]; omega), ByteArray.getElem_append_left h]
theorem bt_right (P S : ByteArray) (j : Nat) (h : j < S.size) : bt (P ++ S) ((P.size + j : Nat) : Int) = bt S (j : Int) := by
  rw [bt_nat S j h, bt_nat (P ++ S) (P.size + j) (by rw [ByteArray.size_append]; omega), ByteArray.getElem_append_right (by omega)]
  simp
theorem beI_congr (X Y : ByteArray) (a b : Nat) : ∀ k, (∀ j, j < k → bt X ((a + j : Nat) : Int) = bt Y ((b + j : Nat) : Int)) → beI X a k = beI Y b k
  | 0, _ => rfl
  | k + 1, h => by rw [beI, beI, beI_congr X Y a b k (fun j hj => h j (by omega)), h k (by omega)]
theorem beI_mid (P S Q : ByteArray) (o k : Nat) (h : o + k ≤ S.size) : beI (P ++ S ++ Q) (P.size + o) k = beI S o k := by
  refine beI_congr _ _ _ _ k fun j hj => ?_
  rw [bt_left (P ++ S) Q (P.size + o + j) (by rw [ByteArray.size_append]; omega), show P.size + o + j = P.size + (o + j) from by omega, bt_right P S (o + j) (by omega)]
theorem beI_end (P S : ByteArray) (o k : Nat) (h : o + k ≤ S.size) : beI (P ++ S) (P.size + o) k = beI S o k := by
  refine beI_congr _ _ _ _ k fun j hj => ?_
  rw [show P.size + o + j = P.size + (o + j) from by omega, bt_right P S (o + j) (by omega)]

theorem byte_of (x : Int) (h0 : 0 ≤ x) (h1 : x < 256) : ((UInt8.ofNat x.toNat).toNat : Int) = x := by
  have : (UInt8.ofNat x.toNat).toNat = x.toNat % 256 := by simp
  rw [this]; omega
theorem dg_at (n : Int) : ∀ (k j : Nat) (h : j < (dg k n).length), (dg k n)[j] = n / 256 ^ (k - 1 - j) % 256
  | k + 1, 0, _ => by simp [dg]
  | k + 1, j + 1, h => by
    simp only [dg, List.getElem_cons_succ]
    rw [dg_at n k j (by simpa [dg] using h), show k + 1 - 1 - (j + 1) = k - 1 - j from by omega]
theorem bt_dg (n : Int) (k j : Nat) (h : j < k) : bt (strOfNums (dg k n)) (j : Int) = n / 256 ^ (k - 1 - j) % 256 := by
  have hl : j < (dg k n).length := by rw [dg_len]; exact h
  rw [bt_nat _ j (by rw [str_size]; exact hl), ← dg_at n k j hl]
  have e : (strOfNums (dg k n))[j]'(by rw [str_size]; exact hl) = UInt8.ofNat ((dg k n)[j]).toNat := by
    show (((dg k n).map fun x => UInt8.ofNat x.toNat).toArray)[j]'(by simp; exact hl) = _
    simp
  rw [e, dg_at n k j hl]
  exact byte_of _ (Int.emod_nonneg _ (by decide)) (Int.emod_lt_of_pos _ (by decide))
theorem emod_split (n N : Int) (hN : 0 < N) : n % (N * 256) = n / N % 256 * N + n % N := by
  have h1 := Int.emod_nonneg n (show N ≠ 0 by omega)
  have h2 := Int.emod_lt_of_pos n hN
  have h3 := Int.emod_nonneg (n / N) (show (256 : Int) ≠ 0 by decide)
  have h4 := Int.emod_lt_of_pos (n / N) (show (0 : Int) < 256 by decide)
  have e1 := Int.mul_ediv_add_emod n N
  have e2 := Int.mul_ediv_add_emod (n / N) 256
  have e3 : n = (n / N % 256 * N + n % N) + (N * 256) * (n / N / 256) := by
    have : N * (n / N) = N * 256 * (n / N / 256) + n / N % 256 * N := by
      rw [Int.mul_assoc, Int.mul_comm (n / N % 256) N, ← Int.mul_add, e2]
    omega
  have h5 : n / N % 256 * N ≤ 255 * N := Int.mul_le_mul_of_nonneg_right (by omega) (by omega)
  have h6 : 0 ≤ n / N % 256 * N := Int.mul_nonneg h3 (by omega)
  calc n % (N * 256) = ((n / N % 256 * N + n % N) + (N * 256) * (n / N / 256)) % (N * 256) := by rw [← e3]
    _ = (n / N % 256 * N + n % N) % (N * 256) := by rw [Int.add_mul_emod_self_left]
    _ = n / N % 256 * N + n % N := Int.emod_eq_of_lt (by omega) (by omega)
theorem beI_dg (n : Int) (h0 : 0 ≤ n) (k : Nat) : ∀ j, j ≤ k → beI (strOfNums (dg k n)) 0 j = n / 256 ^ (k - j) % 256 ^ j
  | 0, _ => by simp [beI, Int.emod_one]
  | j + 1, h => by
    rw [beI, beI_dg n h0 k j (by omega), Nat.zero_add, bt_dg n k j (by omega)]
    obtain ⟨d, hd⟩ : ∃ d, k - j = d + 1 := ⟨k - j - 1, by omega⟩
    have e1 : k - 1 - j = d := by omega
    have e2 : k - (j + 1) = d := by omega
    rw [hd, e1, e2, Int.pow_succ, ← Int.ediv_ediv_of_nonneg (Int.le_of_lt (pow_pos256 d))]
    generalize n / 256 ^ d = m
    have hN := pow_pos256 j
    have a1 := Int.mul_ediv_add_emod m 256
    have a2 := Int.mul_ediv_add_emod (m / 256) (256 ^ j)
    have b1 := Int.emod_nonneg m (show (256 : Int) ≠ 0 by decide)
    have b2 := Int.emod_lt_of_pos m (show (0 : Int) < 256 by decide)
    have b3 := Int.emod_nonneg (m / 256) (show (256 : Int) ^ j ≠ 0 by omega)
    have b4 := Int.emod_lt_of_pos (m / 256) hN
    rw [Int.pow_succ]
    have e3 : m = (m / 256 % 256 ^ j * 256 + m % 256) + (256 ^ j * 256) * (m / 256 / 256 ^ j) := by
      have : 256 * (m / 256) = 256 ^ j * 256 * (m / 256 / 256 ^ j) + m / 256 % 256 ^ j * 256 := by
        rw [Int.mul_comm (256 ^ j) 256, Int.mul_assoc, Int.mul_comm (m / 256 % 256 ^ j) 256, ← Int.mul_add, a2]
      omega
    symm
    calc m % (256 ^ j * 256) = ((m / 256 % 256 ^ j * 256 + m % 256) + (256 ^ j * 256) * (m / 256 / 256 ^ j)) % (256 ^ j * 256) := by rw [← e3]
      _ = (m / 256 % 256 ^ j * 256 + m % 256) % (256 ^ j * 256) := by rw [Int.add_mul_emod_self_left]
      _ = m / 256 % 256 ^ j * 256 + m % 256 := Int.emod_eq_of_lt (by omega) (by omega)
theorem small_mod (n : Int) (h0 : 0 ≤ n) (k : Nat) (h : n / 256 ^ k = 0) : n % 256 ^ k = n := by
  have := Int.mul_ediv_add_emod n (256 ^ k)
  rw [h] at this
  omega
theorem beI_whole (n : Int) (h0 : 0 ≤ n) (k : Nat) (h : n / 256 ^ k = 0) : beI (strOfNums (dg k n)) 0 k = n := by
  rw [beI_dg n h0 k k (Nat.le_refl _), Nat.sub_self, Int.pow_zero, Int.ediv_one, small_mod n h0 k h]
/-- What is put is less, as bytes, just if the number is. -/
theorem less_dg (n m : Int) : ∀ k : Nat, Op.bytesLess ((dg k n).map fun x => UInt8.ofNat x.toNat) ((dg k m).map fun x => UInt8.ofNat x.toNat) = decide (n % 256 ^ k < m % 256 ^ k)
  | 0 => by simp [dg, Op.bytesLess, Int.emod_one]
  | k + 1 => by
    simp only [dg, List.map_cons, Op.bytesLess]
    rw [less_dg n m k, Int.pow_succ, emod_split n _ (pow_pos256 k), emod_split m _ (pow_pos256 k)]
    have hN := pow_pos256 k
    have a1 := Int.emod_nonneg n (show (256 : Int) ^ k ≠ 0 by omega)
    have a2 := Int.emod_lt_of_pos n hN
    have a3 := Int.emod_nonneg m (show (256 : Int) ^ k ≠ 0 by omega)
    have a4 := Int.emod_lt_of_pos m hN
    have b1 := Int.emod_nonneg (n / 256 ^ k) (show (256 : Int) ≠ 0 by decide)
    have b2 := Int.emod_lt_of_pos (n / 256 ^ k) (show (0 : Int) < 256 by decide)
    have b3 := Int.emod_nonneg (m / 256 ^ k) (show (256 : Int) ≠ 0 by decide)
    have b4 := Int.emod_lt_of_pos (m / 256 ^ k) (show (0 : Int) < 256 by decide)
    generalize n / 256 ^ k % 256 = x at *
    generalize m / 256 ^ k % 256 = y at *
    generalize n % 256 ^ k = r at *
    generalize m % 256 ^ k = s at *
    generalize (256 : Int) ^ k = N at *
    have cx : (UInt8.ofNat x.toNat).toNat = x.toNat := by simp; omega
    have cy : (UInt8.ofNat y.toNat).toNat = y.toNat := by simp; omega
    have lt : (UInt8.ofNat x.toNat < UInt8.ofNat y.toNat) ↔ x < y := by rw [UInt8.lt_iff_toNat_lt, cx, cy]; omega
    have eq : (UInt8.ofNat x.toNat = UInt8.ofNat y.toNat) ↔ x = y := by
      constructor
      · intro h; have := congrArg UInt8.toNat h; rw [cx, cy] at this; omega
      · rintro rfl; rfl
    rcases Int.lt_trichotomy x y with h | h | h
    · have : x * N + N ≤ y * N := by have := Int.mul_le_mul_of_nonneg_right (show x + 1 ≤ y by omega) (show 0 ≤ N by omega); rwa [Int.add_mul, Int.one_mul] at this
      simp [lt, h]; omega
    · subst h
      simp
    · have : y * N + N ≤ x * N := by have := Int.mul_le_mul_of_nonneg_right (show y + 1 ≤ x by omega) (show 0 ≤ N by omega); rwa [Int.add_mul, Int.one_mul] at this
      have n1 : ¬ x < y := by omega
      have n2 : ¬ x = y := by omega
      have l1 : decide (UInt8.ofNat x.toNat < UInt8.ofNat y.toNat) = false := decide_eq_false (mt lt.1 n1)
      have l2 : (UInt8.ofNat x.toNat == UInt8.ofNat y.toNat) = false := beq_eq_false_iff_ne.2 (mt eq.1 n2)
      rw [l1, l2]
      simp
      omega
theorem data_str (l : List Int) : (strOfNums l).toList = l.map fun x => UInt8.ofNat x.toNat := by
  rw [Lib.strOfNums_toList]; rfl
theorem less_put (n m : Int) (h0 : 0 ≤ n) (h1 : 0 ≤ m) (k : Nat) (hn : n / 256 ^ k = 0) (hm : m / 256 ^ k = 0) : Op.bytesLess (strOfNums (dg k n)).toList (strOfNums (dg k m)).toList = decide (n < m) := by
  rw [data_str, data_str, less_dg, small_mod n h0 k hn, small_mod m h1 k hm]
theorem same_put (n m : Int) (h0 : 0 ≤ n) (h1 : 0 ≤ m) (k : Nat) (hn : n / 256 ^ k = 0) (hm : m / 256 ^ k = 0) : ((strOfNums (dg k n)).toList == (strOfNums (dg k m)).toList) = decide (n = m) := by
  by_cases h : n = m
  · subst h; simp
  · rw [decide_eq_false h]
    refine beq_eq_false_iff_ne.2 fun e => h ?_
    have : strOfNums (dg k n) = strOfNums (dg k m) := by
      have e2 := e
      rw [data_str, data_str] at e2
      unfold strOfNums
      rw [e2]
    rw [← beI_whole n h0 k hn, ← beI_whole m h1 k hm, this]
end Go.Proofs.Ytibcbeibehaeeaa.Hand

/- ref, Size, Fits, kinds, refKinds. -/
set_option linter.unusedVariables false
namespace Go.Proofs.Ytibcbeibehaeeaa.Hand
open Go.RowKit Go.Proofs.Ytibcbeibehaeeaa.PStorePlays Go.Proofs.YtibcbeibehaeeaaW.PrintWords Go.Proofs.YtibcbeibehaeeaaW.PrintLast Go.Proofs.YtibcbeibehaeeaaW.PrintMore
set_option maxHeartbeats 1000000 in
set_option maxRecDepth 100000 in
theorem wsize_c (k t : Int) (A : Option Addr) (c : Nat) (l : List Int) (n : Int) (w : World) (hr : Kd.C (Kd.int .i64) w A l.length l) (h : ((putE k t l).1.size : Int) = n) :
    Calls Try.prog 28 #[.agg #[.int .i64 k, .int .i64 t, .slice A l.length c]] w fun e w' => e = .returned (.int .i64 n) ∧ Below w.heap.size w w' := by
  have HB := Aside0.mk (Below.refl w.heap.size w)
  obtain ⟨s, b, e⟩ : ∃ s b, putE k t l = (s, b) := ⟨_, _, rfl⟩
  rw [e] at h
  have hz := putE_size k t l
  rw [e] at hz
  have hP : ∀ W, Below w.heap.size w W → Calls Try.prog 32 #[.agg #[.int .i64 k, .int .i64 t, .slice A l.length c]] W fun e w' => e = .returned (.tuple #[.string s, .bool b]) ∧ Below W.heap.size W w' := by
    intro W hW
    have := wput_c k t l A c W (Kd.C_below hr hW)
    rw [e] at this
    exact this
  have HP := Aside0.mk hP
  clear hP hr e
  subst h
  dsimp only at hz
  generalize l.length = ln at *
  go_enter Try.func28, Try.ntmps28
  go_wp2_with (first | (go_at_call 32; (with_reducible refine (HP.out _ (by repeat (first | (with_reducible first | exact HB.out | apply below_alloc | apply pw_below_drewN | apply below_drew1) | exact HB.out))).mono ?_); rintro e w1 ⟨rfl, hb⟩; have n0_ := Aside0.mk (below_step (by repeat (first | (with_reducible first | exact HB.out | apply below_alloc | apply pw_below_drewN | apply below_drew1) | exact HB.out)) hb); clear HB; have HB := n0_; clear n0_))
  go_ret
  exact ⟨rfl, (by repeat (first | (with_reducible first | exact HB.out | apply below_alloc | apply pw_below_drewN | apply below_drew1) | exact HB.out))⟩

def fitsE (ls : List Nat) (k : Int) (n : Nat) : Int := if k < 0 then 5 else if (ls.length : Int) ≤ k then 5 else if n = ls.getD k.toNat 0 then 0 else 7
end Go.Proofs.Ytibcbeibehaeeaa.Hand

/- Events' bytes: what is put is got, and what is got is put as it was. No walk. -/
set_option linter.unusedVariables false
set_option linter.unusedSimpArgs false
namespace Go.Proofs.Ytibcbeibehaeeaa.Hand
open Go.RowKit Go.Proofs.Ytibcbeibehaeeaa.PStorePlays Go.Proofs.YtibcbeibehaeeaaW.PrintWords Go.Proofs.YtibcbeibehaeeaaW.PrintLast Go.Proofs.YtibcbeibehaeeaaW.PrintMore

theorem fold_app (l : List Int) (s : ByteArray) : l.foldl (fun s n => s ++ intV n) s = s ++ l.foldl (fun s n => s ++ intV n) ⟨#[]⟩ := by
  induction l generalizing s with
  | nil => exact (ByteArray.append_empty).symm
  | cons a l ih =>
    simp only [List.foldl_cons]
    rw [ih (s ++ intV a), ih (⟨#[]⟩ ++ intV a), show (⟨#[]⟩ : ByteArray) ++ intV a = intV a from ByteArray.empty_append, ByteArray.append_assoc]
def tl (l : List Int) : ByteArray := l.foldl (fun s n => s ++ intV n) ⟨#[]⟩
theorem evI_split (k t : Int) (l : List Int) (i : Nat) (h : i < l.length) : evI k t l l.length = evI k t l i ++ (intV (rd l (i : Int)) ++ tl (l.drop (i + 1))) := by
  unfold evI
  have e : l = l.take i ++ (rd l (i : Int) :: l.drop (i + 1)) := by
    conv => lhs; rw [← List.take_append_drop i l]
    congr 1
    rw [List.drop_eq_getElem_cons h]
    congr 1
    unfold rd
    rw [List.getD_eq_getElem?_getD, Int.toNat_natCast, List.getElem?_eq_getElem h]
    rfl
  conv => lhs; rw [List.take_length, e, List.foldl_append, List.foldl_cons, fold_app, ByteArray.append_assoc]
  rw [← e]
  rfl
theorem evI_zero (k t : Int) (l : List Int) : evI k t l l.length = strOfNums [k, (l.length : Int)] ++ (intV t ++ tl l) := by
  unfold evI
  rw [List.take_length, fold_app, ByteArray.append_assoc]
  rfl
theorem bt_two (k m : Int) (h0 : 0 ≤ k) (h1 : k ≤ 255) (h2 : 0 ≤ m) (h3 : m ≤ 255) : bt (strOfNums [k, m]) 0 = k ∧ bt (strOfNums [k, m]) 1 = m := by
  constructor
  · have := bt_nat (strOfNums [k, m]) 0 (by rw [str_size]; simp)
    rw [show ((0 : Nat) : Int) = 0 from rfl] at this
    rw [this]
    exact byte_of k h0 (by omega)
  · have := bt_nat (strOfNums [k, m]) 1 (by rw [str_size]; simp)
    rw [show ((1 : Nat) : Int) = 1 from rfl] at this
    rw [this]
    exact byte_of m h2 (by omega)
def I64 (x : Int) : Prop := -9223372036854775808 ≤ x ∧ x ≤ 9223372036854775807
theorem intV_eq (n : Int) : intV n = strOfNums (dg 8 (IntKind.u64.wrap n)) := by
  have h := wrapU n
  unfold intV putV
  rw [if_neg (by decide), if_neg (by decide), if_pos (by have e : (256 : Int) ^ (8 : Int).toNat = 18446744073709551616 := by decide
                                                         rw [e]; omega)]
  rfl
theorem wrap_u64 (n : Int) (h : I64 n) : wrap64 (IntKind.u64.wrap n) = n := by unfold I64 at h; rw [IntKind.wrap_u64]; unfold wrap64; omega
theorem beI_int (n : Int) : beI (intV n) 0 8 = IntKind.u64.wrap n := by
  have h := wrapU n
  rw [intV_eq]
  refine beI_whole _ h.1 8 ?_
  have e : (256 : Int) ^ 8 = 18446744073709551616 := by decide
  rw [e]; omega
theorem giV_mid (P Q : ByteArray) (n : Int) (h : I64 n) : giV (P ++ (intV n ++ Q)) (P.size : Int) = n := by
  unfold giV
  rw [← ByteArray.append_assoc, Int.toNat_natCast]
  have := beI_mid P (intV n) Q 0 8 (by rw [intV_size]; omega)
  rw [Nat.add_zero] at this
  rw [this, beI_int, wrap_u64 n h]
theorem list_of_rd {a : List Int} {m : Nat} (f : Nat → Int) (hl : a.length = m) (h : ∀ i : Nat, i < m → rd a (i : Int) = f i) : (List.range m).map f = a := by
  refine rd_eq_all (by simp [hl]) fun i hi => ?_
  simp only [List.length_map, List.length_range] at hi
  rw [h i hi]
  unfold rd
  rw [List.getD_eq_getElem?_getD, Int.toNat_natCast, List.getElem?_map, List.getElem?_range hi]
  rfl
theorem get_put (k t : Int) (l : List Int) (h0 : 0 ≤ k) (h1 : k ≤ 255) (h2 : l.length ≤ 8) (ht : I64 t) (hl : ∀ x ∈ l, I64 x) : okE (evI k t l l.length) ∧ wgetE (evI k t l l.length) = (k, t, l, 0) := by
  have hs := evI_size k t l l.length (Nat.le_refl _)
  have hh : strOfNums [k, (l.length : Int)] ++ (intV t ++ tl l) = evI k t l l.length := (evI_zero k t l).symm
  have b0 : bt (evI k t l l.length) 0 = k := by
    rw [← hh]
    have := bt_left (strOfNums [k, (l.length : Int)]) (intV t ++ tl l) 0 (by rw [str_size]; simp)
    rw [show ((0 : Nat) : Int) = 0 from rfl] at this
    rw [this]
    exact (bt_two k l.length h0 h1 (by omega) (by omega)).1
  have b1 : bt (evI k t l l.length) 1 = l.length := by
    rw [← hh]
    have := bt_left (strOfNums [k, (l.length : Int)]) (intV t ++ tl l) 1 (by rw [str_size]; simp)
    rw [show ((1 : Nat) : Int) = 1 from rfl] at this
    rw [this]
    exact (bt_two k l.length h0 h1 (by omega) (by omega)).2
  have hok : okE (evI k t l l.length) := ⟨by omega, by omega, by omega⟩
  refine ⟨hok, ?_⟩
  rw [getE_yes hok, b0, b1, Int.toNat_natCast]
  have g2 : giV (evI k t l l.length) 2 = t := by
    rw [← hh]
    exact giV_mid (strOfNums [k, (l.length : Int)]) (tl l) t ht
  have gl : evN (evI k t l l.length) l.length = l := by
    unfold evN
    refine list_of_rd _ rfl fun i hi => ?_
    rw [evI_split k t l i hi]
    have e : (10 + 8 * (i : Int)) = ((evI k t l i).size : Int) := by rw [evI_size k t l i (by omega)]; omega
    rw [e]
    refine (giV_mid (evI k t l i) _ _ (hl _ ?_)).symm
    unfold rd
    rw [List.getD_eq_getElem?_getD, Int.toNat_natCast, List.getElem?_eq_getElem hi]
    exact List.getElem_mem hi
  rw [g2, gl]
theorem giV_i64 (s : ByteArray) (a : Int) : I64 (giV s a) := by unfold giV I64 wrap64; omega
theorem evN_i64 (s : ByteArray) (m : Nat) : ∀ x ∈ evN s m, I64 x := by
  intro x hx
  unfold evN at hx
  obtain ⟨j, _, rfl⟩ := List.mem_map.1 hx
  exact giV_i64 _ _
theorem getE_i64 (s : ByteArray) (k t x : Int) (l : List Int) (h : wgetE s = (k, t, l, x)) : I64 t ∧ (∀ y ∈ l, I64 y) ∧ 0 ≤ k ∧ k ≤ 255 ∧ l.length ≤ 8 := by
  by_cases ho : okE s
  · rw [getE_yes ho] at h
    injection h with e1 h; injection h with e2 h; injection h with e3 e4
    subst e1 e2 e3 e4
    have := bt_range s 0
    have := bt_range s 1
    exact ⟨giV_i64 _ _, evN_i64 _ _, by omega, by omega, by rw [evN_len]; have := ho.2.1; omega⟩
  · rw [getE_no ho] at h
    injection h with e1 h; injection h with e2 h; injection h with e3 e4
    subst e1 e2 e3 e4
    exact ⟨⟨by decide, by decide⟩, by simp, by decide, by decide, by decide⟩
/-! ### What is got is put as it was -/
theorem ba_ext {a b : ByteArray} (hz : a.size = b.size) (h : ∀ j : Nat, j < a.size → bt a (j : Int) = bt b (j : Int)) : a = b := by
  refine ByteArray.ext (Array.ext hz fun i h1 h2 => ?_)
  have h3 := h i h1
  rw [bt_nat a i h1, bt_nat b i h2] at h3
  exact UInt8.toNat_inj.1 (by exact_mod_cast h3)
theorem beI_shift (s : ByteArray) (a j : Nat) : ∀ d : Nat, beI s a (j + d) / 256 ^ d = beI s a j
  | 0 => by simp
  | d + 1 => by
    have hb := bt_range s ((a + (j + d) : Nat) : Int)
    have h1 : beI s a (j + (d + 1)) = beI s a (j + d) * 256 + bt s ((a + (j + d) : Nat) : Int) := rfl
    rw [h1, Int.pow_succ, Int.mul_comm (256 ^ d) 256, ← Int.ediv_ediv_of_nonneg (by decide), show (beI s a (j + d) * 256 + bt s ((a + (j + d) : Nat) : Int)) / 256 = beI s a (j + d) from by omega]
    exact beI_shift s a j d
theorem u64_wrap (x : Int) (h0 : 0 ≤ x) (h1 : x ≤ 18446744073709551615) : IntKind.u64.wrap (wrap64 x) = x := by rw [IntKind.wrap_u64]; unfold wrap64; omega
theorem bt_int_giV (s : ByteArray) (a j : Nat) (h : j < 8) : bt (intV (giV s (a : Int))) (j : Int) = bt s ((a + j : Nat) : Int) := by
  have hb := beI_u64 s a 8 (by omega)
  rw [intV_eq]
  unfold giV
  rw [Int.toNat_natCast, u64_wrap _ hb.1 hb.2, bt_dg _ 8 j h]
  have e : j + 1 + (8 - 1 - j) = 8 := by omega
  have h1 := beI_shift s a (j + 1) (8 - 1 - j)
  rw [e] at h1
  rw [h1]
  have h2 : beI s a (j + 1) = beI s a j * 256 + bt s ((a + j : Nat) : Int) := rfl
  have h3 := bt_range s ((a + j : Nat) : Int)
  rw [h2]
  omega
theorem put_get (s : ByteArray) (k t : Int) (l : List Int) (h : wgetE s = (k, t, l, 0)) : evI k t l l.length = s := by
  have ho : okE s := by
    apply Classical.byContradiction
    intro ho
    rw [getE_no ho] at h
    injection h with e1 h; injection h with e2 h; injection h with e3 e4
    exact absurd e4 (by decide)
  rw [getE_yes ho] at h
  injection h with e1 h; injection h with e2 h; injection h with e3 e4
  have hb0 := bt_range s 0
  have hb1 := bt_range s 1
  obtain ⟨m, hm⟩ := Int.eq_ofNat_of_zero_le hb1.1
  have hm' : bt s 1 = (m : Int) := hm
  rw [hm', Int.toNat_natCast] at e3
  have hlen : l.length = m := by rw [← e3, evN_len]
  have ho3 := ho.2.2
  have hz : (evI k t l l.length).size = s.size := by rw [evI_size k t l l.length (Nat.le_refl _), hlen]; omega
  refine ba_ext hz fun p hp => ?_
  have hh : strOfNums [k, (l.length : Int)] ++ (intV t ++ tl l) = evI k t l l.length := (evI_zero k t l).symm
  have hk : 0 ≤ k ∧ k ≤ 255 := by omega
  have hml : (l.length : Int) ≤ 255 := by have := ho.2.1; omega
  rw [hz] at hp
  rcases Nat.lt_or_ge p 2 with h1 | h1
  · rw [← hh, bt_left _ _ p (by rw [str_size]; simpa using h1)]
    have := bt_two k l.length hk.1 hk.2 (by omega) hml
    rcases Nat.lt_or_ge p 1 with h2 | h2
    · obtain rfl : p = 0 := by omega
      exact this.1.trans e1.symm
    · obtain rfl : p = 1 := by omega
      exact this.2.trans (by rw [hlen, ← hm']; rfl)
  rcases Nat.lt_or_ge p 10 with h2 | h2
  · obtain ⟨q, rfl⟩ := Nat.exists_eq_add_of_le h1
    have := bt_right (strOfNums [k, (l.length : Int)]) (intV t ++ tl l) q (by rw [ByteArray.size_append, intV_size]; omega)
    rw [← hh]
    refine Eq.trans this ?_
    rw [bt_left _ _ q (by rw [intV_size]; omega), ← e2]
    exact bt_int_giV s 2 q (by omega)
  · have hi : (p - 10) / 8 < l.length := by omega
    generalize hie : (p - 10) / 8 = i at hi
    rw [evI_split k t l i hi]
    have hsz := evI_size k t l i (by omega)
    obtain ⟨q, hq⟩ := Nat.exists_eq_add_of_le (show (evI k t l i).size ≤ p by omega)
    subst hq
    have := bt_right (evI k t l i) (intV (rd l (i : Int)) ++ tl (l.drop (i + 1))) q (by rw [ByteArray.size_append, intV_size]; omega)
    refine Eq.trans this ?_
    rw [bt_left _ _ q (by rw [intV_size]; omega)]
    have hrd : rd l (i : Int) = giV s ((10 + 8 * i : Nat) : Int) := by
      rw [← e3]
      unfold rd evN
      rw [List.getD_eq_getElem?_getD, Int.toNat_natCast, List.getElem?_map, List.getElem?_range (by omega)]
      show giV s (10 + 8 * (i : Int)) = _
      congr 1
    rw [hrd, bt_int_giV s (10 + 8 * i) q (by omega), hsz]
end Go.Proofs.Ytibcbeibehaeeaa.Hand
