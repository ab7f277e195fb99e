/- Events in plain words: what is put, got, the same, of a kind; the program's and the reference's answers are these. -/
import Derived.Test.YthckcbacmonihaaE9
set_option linter.unusedVariables false
set_option linter.unusedSimpArgs false
namespace Go.Proofs.Ythckcbacmonihaa.Hand
open Go.RowKit Go.Proofs.Ythckcbacmonihaa.PWireTells Go.Proofs.YthckcbacmonihaaW.PrintWords Go.Proofs.YthckcbacmonihaaW.PrintLast Go.Proofs.YthckcbacmonihaaW.PrintMore

def putE (k t : Int) (l : List Int) : ByteArray × Bool := if k < 0 ∨ 255 < k ∨ 8 < l.length then (⟨#[]⟩, false) else (evI k t l l.length, true)
theorem putE_no {k t : Int} {l : List Int} (h : k < 0 ∨ 255 < k ∨ 8 < l.length) : putE k t l = (⟨#[]⟩, false) := if_pos h
theorem putE_yes {k t : Int} {l : List Int} (h0 : 0 ≤ k) (h1 : k ≤ 255) (h2 : l.length ≤ 8) : putE k t l = (evI k t l l.length, true) := if_neg (by omega)
theorem putE_size (k t : Int) (l : List Int) : (putE k t l).1.size ≤ 74 := by
  unfold putE
  split
  · exact Nat.zero_le _
  · show (evI k t l l.length).size ≤ 74
    rw [evI_size k t l l.length (Nat.le_refl _)]; omega
theorem wput_c (k t : Int) (l : List Int) (A : Option Addr) (c : Nat) (w : World) (hr : Kd.C (Kd.int .i64) w A l.length l) :
    Calls Try.prog 9 #[.agg #[.int .i64 k, .int .i64 t, .slice A l.length c]] w fun e w' => e = .returned (.tuple #[.string (putE k t l).1, .bool (putE k t l).2]) ∧ Below w.heap.size w w' := by
  by_cases h : k < 0 ∨ 255 < k ∨ 8 < l.length
  · rw [putE_no h]; exact wput_no k t l A c w hr.2.1 h
  · rw [putE_yes (by omega) (by omega) (by omega)]; exact wput_yes k t l A c w hr (by omega) (by omega) (by omega)
def okE (s : ByteArray) : Prop := 10 ≤ s.size ∧ bt s 1 ≤ 8 ∧ (s.size : Int) = 10 + 8 * bt s 1
instance (s : ByteArray) : Decidable (okE s) := by unfold okE; infer_instance
def getE (s : ByteArray) : Int × Int × List Int × Int := if okE s then (bt s 0, giV s 2, evN s (bt s 1).toNat, 0) else (0, 0, [], 7)
theorem getE_yes {s : ByteArray} (h : okE s) : getE s = (bt s 0, giV s 2, evN s (bt s 1).toNat, 0) := if_pos h
theorem getE_no {s : ByteArray} (h : ¬ okE s) : getE s = (0, 0, [], 7) := if_neg h
theorem wget_no (s : ByteArray) (w : World) (hs : s.size ≤ 1000000000000000) (h : ¬ okE s) :
    Calls Try.prog 12 #[.string s] w fun e w' => e = .returned (.tuple #[.agg #[.int .i64 0, .int .i64 0, .slice none 0 0], .int .i64 7]) ∧ Below w.heap.size w w' := by
  unfold okE at h
  have hb := bt_range s 1
  rcases Nat.lt_or_ge s.size 2 with h1 | h1
  · rcases Nat.lt_or_ge s.size 1 with h2 | h2
    · exact get_f1 s w hs (by omega)
    · exact get_f2 s w hs (by omega)
  rcases Int.lt_or_le 8 (bt s 1) with h2 | h2
  · exact get_f3 s w hs h1 h2
  rcases Nat.lt_or_ge s.size 10 with h3 | h3
  · exact get_f4 s w hs h1 h2 h3
  obtain ⟨m, hm⟩ := Int.eq_ofNat_of_zero_le hb.1
  have hm' : bt s 1 = (m : Int) := hm
  have h4 : s.size ≠ 10 + 8 * m := fun e => h ⟨h3, h2, by omega⟩
  rcases Nat.lt_or_ge s.size (10 + 8 * m) with h5 | h5
  · have hq : (s.size - 10) / 8 < m := by omega
    exact get_f5 s m ((s.size - 10) / 8) w hs h3 ⟨hm'⟩ (by omega) (by omega) (by omega) (fun _ => by omega) hq
  · exact get_f6 s m m w hs h3 ⟨hm'⟩ (by omega) (Nat.le_refl _) (by omega) (fun h => absurd h (Nat.lt_irrefl _)) rfl h4
theorem wget_c (s : ByteArray) (w : World) (hs : s.size ≤ 1000000000000000) (k t x : Int) (l : List Int) (h : getE s = (k, t, l, x)) :
    Calls Try.prog 12 #[.string s] w fun e w' => ∃ v : Value, e = .returned (.tuple #[.agg #[.int .i64 k, .int .i64 t, v], .int .i64 x]) ∧ Kd.R (Kd.int .i64) 2 w' w.heap.size (fun _ => True) v l ∧ Below w.heap.size w w' := by
  by_cases ho : okE s
  · rw [getE_yes ho] at h
    injection h with e1 h; injection h with e2 h; injection h with e3 e4
    subst e1 e2 e3 e4
    unfold okE at ho
    have hb := bt_range s 1
    obtain ⟨m, hm⟩ := Int.eq_ofNat_of_zero_le hb.1
    have hm' : bt s 1 = (m : Int) := hm
    have := wget_yes s m m w hs ho.1 ⟨hm'⟩ (by omega) (Nat.le_refl _) (by omega) (fun h => absurd h (Nat.lt_irrefl _)) rfl (by omega)
    rw [hm', Int.toNat_natCast]
    exact this
  · rw [getE_no ho] at h
    injection h with e1 h; injection h with e2 h; injection h with e3 e4
    subst e1 e2 e3 e4
    refine (wget_no s w hs ho).mono ?_
    rintro e w' ⟨rfl, hb⟩
    exact ⟨_, rfl, Kd.R_nil _ _ _ _ _, hb⟩
def sameE (k t : Int) (l : List Int) (k' t' : Int) (l' : List Int) : Bool := decide (k = k' ∧ t = t' ∧ l = l')
theorem rd_eq_all {a b : List Int} (hl : a.length = b.length) (h : ∀ i : Nat, i < a.length → rd a (i : Int) = rd b (i : Int)) : a = b := by
  refine List.ext_getElem hl fun i h1 h2 => ?_
  have := h i h1
  unfold rd at this
  rw [List.getD_eq_getElem?_getD, List.getD_eq_getElem?_getD, Int.toNat_natCast, List.getElem?_eq_getElem h1, List.getElem?_eq_getElem h2] at this
  exact this
theorem eq_l0 (a b : List Int) (hl : a.length = b.length) (hm : a.length ≤ 9223372036854775807) : ∀ (d i k : Nat), i + d = a.length → d < k → (∀ j : Nat, j < i → rd a (j : Int) = rd b (j : Int)) →
    slices_Equal_int64_int64.l0 k a b (a.length : Int) (i : Int) = some (decide (a = b)) := by
  intro d
  induction d with
  | zero =>
    intro i k hi hk hp
    obtain ⟨k, rfl⟩ : ∃ m, k = m + 1 := ⟨k - 1, by omega⟩
    simp only [slices_Equal_int64_int64.l0]
    rw [if_neg (by omega), decide_eq_true (rd_eq_all hl (fun j hj => hp j (by omega)))]
  | succ d ih =>
    intro i k hi hk hp
    obtain ⟨k, rfl⟩ : ∃ m, k = m + 1 := ⟨k - 1, by omega⟩
    have e3 : wrap64 ((i : Int) + 1) = ((i + 1 : Nat) : Int) := by rw [w_id (by omega) (by omega)]; omega
    simp only [slices_Equal_int64_int64.l0]
    rw [if_pos (by omega), if_pos (by omega), if_pos (by omega), if_pos (by omega), e3]
    by_cases he : rd a (i : Int) = rd b (i : Int)
    · rw [if_pos he]
      exact ih (i + 1) k (by omega) (by omega) (fun j hj => by
        rcases Nat.lt_or_ge j i with h1 | h1
        · exact hp j h1
        · obtain rfl : j = i := by omega
          exact he)
    · rw [if_neg he, decide_eq_false (fun h => he (by rw [h]))]
theorem wsame_f (k t : Int) (l : List Int) (k' t' : Int) (l' : List Int) (hm : l.length ≤ 9223372036854775807) : wire_Same.f (l.length + 1) k t l k' t' l' = some (sameE k t l k' t' l') := by
  unfold wire_Same.f sameE
  by_cases h1 : k = k'
  · rw [if_pos h1]
    by_cases h2 : t = t'
    · rw [if_pos h2]
      unfold slices_Equal_int64_int64.f
      by_cases h3 : l.length = l'.length
      · rw [if_pos (by omega)]
        have := eq_l0 l l' h3 hm l.length 0 (l.length + 1) (by omega) (by omega) (fun j hj => absurd hj (by omega))
        rw [show ((0 : Nat) : Int) = 0 from rfl] at this
        rw [this]
        simp [h1, h2]
      · rw [if_neg (by omega)]
        have : ¬ l = l' := fun e => h3 (by rw [e])
        simp [this]
    · rw [if_neg h2]; simp [h2]
  · rw [if_neg h1]; simp [h1]
theorem wsame_c (k t : Int) (A : Option Addr) (c : Nat) (l : List Int) (k' t' : Int) (A' : Option Addr) (c' : Nat) (l' : List Int) (b : Bool) (w : World) (h1 : Kd.C (Kd.int .i64) w A l.length l) (h2 : l.length ≤ c) (h3 : Kd.C (Kd.int .i64) w A' l'.length l') (h4 : l'.length ≤ c') (h : sameE k t l k' t' l' = b) :
    Calls Try.prog 18 #[.agg #[.int .i64 k, .int .i64 t, .slice A l.length c], .agg #[.int .i64 k', .int .i64 t', .slice A' l'.length c']] w fun e w' => e = .returned (.bool b) ∧ Below w.heap.size w w' :=
  wire_Same.calls (l.length + 1) k t A c l k' t' A' c' l' b w h1 h2 h3 h4 (by rw [wsame_f k t l k' t' l' h1.2.1, h])
theorem req_l0 (k t k' t' : Int) (a b : List Int) (hl : a.length = b.length) (hm : a.length ≤ 9223372036854775807) : ∀ (d i n : Nat), i + d = a.length → d < n → (∀ j : Nat, j < i → rd a (j : Int) = rd b (j : Int)) →
    jettisonref05_Same.l0 n (i : Int) k t a k' t' b = some (decide (a = b)) := by
  intro d
  induction d with
  | zero =>
    intro i n hi hk hp
    obtain ⟨n, rfl⟩ : ∃ m, n = m + 1 := ⟨n - 1, by omega⟩
    simp only [jettisonref05_Same.l0]
    rw [if_neg (by omega), decide_eq_true (rd_eq_all hl (fun j hj => hp j (by omega)))]
  | succ d ih =>
    intro i n hi hk hp
    obtain ⟨n, rfl⟩ : ∃ m, n = m + 1 := ⟨n - 1, by omega⟩
    have e3 : wrap64 ((i : Int) + 1) = ((i + 1 : Nat) : Int) := by rw [w_id (by omega) (by omega)]; omega
    simp only [jettisonref05_Same.l0]
    rw [if_pos (by omega), if_pos (by omega), if_pos (by omega), e3]
    by_cases he : rd a (i : Int) = rd b (i : Int)
    · rw [if_pos he]
      exact ih (i + 1) n (by omega) (by omega) (fun j hj => by
        rcases Nat.lt_or_ge j i with h1 | h1
        · exact hp j h1
        · obtain rfl : j = i := by omega
          exact he)
    · rw [if_neg he, decide_eq_false (fun h => he (by rw [h]))]
theorem rsame_f (k t : Int) (l : List Int) (k' t' : Int) (l' : List Int) (hm : l.length ≤ 9223372036854775807) : jettisonref05_Same.f (l.length + 2) k t l k' t' l' = some (sameE k t l k' t' l') := by
  unfold jettisonref05_Same.f sameE
  by_cases h1 : k = k'
  · rw [if_pos h1]
    by_cases h2 : t = t'
    · rw [if_pos h2]
      simp only [jettisonref05_Same.j0]
      by_cases h3 : l.length = l'.length
      · have e0 : ((l.length : Int) != (l'.length : Int)) = false := by simp [h3]
        rw [e0, if_neg (by simp)]
        have := req_l0 k t k' t' l l' h3 hm l.length 0 (l.length + 1) (by omega) (by omega) (fun j hj => absurd hj (by omega))
        rw [show ((0 : Nat) : Int) = 0 from rfl] at this
        rw [this]
        simp [h1, h2]
      · have e0 : ((l.length : Int) != (l'.length : Int)) = true := by simp; omega
        rw [e0, if_pos rfl]
        have : ¬ l = l' := fun e => h3 (by rw [e])
        simp [this]
    · rw [if_neg h2]; simp [h2, jettisonref05_Same.j0]
  · rw [if_neg h1]; simp [h1, jettisonref05_Same.j0]
theorem rsame_c (k t : Int) (A : Option Addr) (c : Nat) (l : List Int) (k' t' : Int) (A' : Option Addr) (c' : Nat) (l' : List Int) (b : Bool) (w : World) (h1 : Kd.C (Kd.int .i64) w A l.length l) (h2 : l.length ≤ c) (h3 : Kd.C (Kd.int .i64) w A' l'.length l') (h4 : l'.length ≤ c') (h : sameE k t l k' t' l' = b) :
    Calls Try.prog 14 #[.agg #[.int .i64 k, .int .i64 t, .slice A l.length c], .agg #[.int .i64 k', .int .i64 t', .slice A' l'.length c']] w fun e w' => e = .returned (.bool b) ∧ Below w.heap.size w w' :=
  jettisonref05_Same.calls (l.length + 2) k t A c l k' t' A' c' l' b w h1 h2 h3 h4 (by rw [rsame_f k t l k' t' l' h1.2.1, h])
end Go.Proofs.Ythckcbacmonihaa.Hand
