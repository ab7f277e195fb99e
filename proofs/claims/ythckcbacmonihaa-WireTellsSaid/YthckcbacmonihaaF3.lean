/- Events' bytes: what is put is got, and what is got is put as it was. No walk. -/
import Derived.Test.YthckcbacmonihaaF2
set_option linter.unusedVariables false
set_option linter.unusedSimpArgs false
namespace Go.Proofs.Ythckcbacmonihaa.Hand
open Go.RowKit Go.Proofs.Ythckcbacmonihaa.PWireTells Go.Proofs.YthckcbacmonihaaW.PrintWords Go.Proofs.YthckcbacmonihaaW.PrintLast Go.Proofs.YthckcbacmonihaaW.PrintMore

theorem fold_app (l : List Int) (s : ByteArray) : l.foldl (fun s n => s ++ intV n) s = s ++ l.foldl (fun s n => s ++ intV n) ⟨#[]⟩ := by
  induction l generalizing s with
  | nil => exact (ByteArray.append_empty).symm
  | cons a l ih =>
    simp only [List.foldl_cons]
    rw [ih (s ++ intV a), ih (⟨#[]⟩ ++ intV a), show (⟨#[]⟩ : ByteArray) ++ intV a = intV a from ByteArray.empty_append, ByteArray.append_assoc]
def tl (l : List Int) : ByteArray := l.foldl (fun s n => s ++ intV n) ⟨#[]⟩
theorem evI_split (k t : Int) (l : List Int) (i : Nat) (h : i < l.length) : evI k t l l.length = evI k t l i ++ (intV (rd l (i : Int)) ++ tl (l.drop (i + 1))) := by
  unfold evI
  have e : l = l.take i ++ (rd l (i : Int) :: l.drop (i + 1)) := by
    conv => lhs; rw [← List.take_append_drop i l]
    congr 1
    rw [List.drop_eq_getElem_cons h]
    congr 1
    unfold rd
    rw [List.getD_eq_getElem?_getD, Int.toNat_natCast, List.getElem?_eq_getElem h]
    rfl
  conv => lhs; rw [List.take_length, e, List.foldl_append, List.foldl_cons, fold_app, ByteArray.append_assoc]
  rw [← e]
  rfl
theorem evI_zero (k t : Int) (l : List Int) : evI k t l l.length = strOfNums [k, (l.length : Int)] ++ (intV t ++ tl l) := by
  unfold evI
  rw [List.take_length, fold_app, ByteArray.append_assoc]
  rfl
theorem bt_two (k m : Int) (h0 : 0 ≤ k) (h1 : k ≤ 255) (h2 : 0 ≤ m) (h3 : m ≤ 255) : bt (strOfNums [k, m]) 0 = k ∧ bt (strOfNums [k, m]) 1 = m := by
  constructor
  · have := bt_nat (strOfNums [k, m]) 0 (by rw [str_size]; simp)
    rw [show ((0 : Nat) : Int) = 0 from rfl] at this
    rw [this]
    exact byte_of k h0 (by omega)
  · have := bt_nat (strOfNums [k, m]) 1 (by rw [str_size]; simp)
    rw [show ((1 : Nat) : Int) = 1 from rfl] at this
    rw [this]
    exact byte_of m h2 (by omega)
def I64 (x : Int) : Prop := -9223372036854775808 ≤ x ∧ x ≤ 9223372036854775807
theorem intV_eq (n : Int) : intV n = strOfNums (dg 8 (IntKind.u64.wrap n)) := by
  have h := wrapU n
  unfold intV putV
  rw [if_neg (by decide), if_neg (by decide), if_pos (by have e : (256 : Int) ^ (8 : Int).toNat = 18446744073709551616 := by decide
                                                         rw [e]; omega)]
  rfl
theorem wrap_u64 (n : Int) (h : I64 n) : wrap64 (IntKind.u64.wrap n) = n := by unfold I64 at h; rw [IntKind.wrap_u64]; unfold wrap64; omega
theorem beI_int (n : Int) : beI (intV n) 0 8 = IntKind.u64.wrap n := by
  have h := wrapU n
  rw [intV_eq]
  refine beI_whole _ h.1 8 ?_
  have e : (256 : Int) ^ 8 = 18446744073709551616 := by decide
  rw [e]; omega
theorem giV_mid (P Q : ByteArray) (n : Int) (h : I64 n) : giV (P ++ (intV n ++ Q)) (P.size : Int) = n := by
  unfold giV
  rw [← ByteArray.append_assoc, Int.toNat_natCast]
  have := beI_mid P (intV n) Q 0 8 (by rw [intV_size]; omega)
  rw [Nat.add_zero] at this
  rw [this, beI_int, wrap_u64 n h]
theorem list_of_rd {a : List Int} {m : Nat} (f : Nat → Int) (hl : a.length = m) (h : ∀ i : Nat, i < m → rd a (i : Int) = f i) : (List.range m).map f = a := by
  refine rd_eq_all (by simp [hl]) fun i hi => ?_
  simp only [List.length_map, List.length_range] at hi
  rw [h i hi]
  unfold rd
  rw [List.getD_eq_getElem?_getD, Int.toNat_natCast, List.getElem?_map, List.getElem?_range hi]
  rfl
theorem get_put (k t : Int) (l : List Int) (h0 : 0 ≤ k) (h1 : k ≤ 255) (h2 : l.length ≤ 8) (ht : I64 t) (hl : ∀ x ∈ l, I64 x) : okE (evI k t l l.length) ∧ getE (evI k t l l.length) = (k, t, l, 0) := by
  have hs := evI_size k t l l.length (Nat.le_refl _)
  have hh : strOfNums [k, (l.length : Int)] ++ (intV t ++ tl l) = evI k t l l.length := (evI_zero k t l).symm
  have b0 : bt (evI k t l l.length) 0 = k := by
    rw [← hh]
    have := bt_left (strOfNums [k, (l.length : Int)]) (intV t ++ tl l) 0 (by rw [str_size]; simp)
    rw [show ((0 : Nat) : Int) = 0 from rfl] at this
    rw [this]
    exact (bt_two k l.length h0 h1 (by omega) (by omega)).1
  have b1 : bt (evI k t l l.length) 1 = l.length := by
    rw [← hh]
    have := bt_left (strOfNums [k, (l.length : Int)]) (intV t ++ tl l) 1 (by rw [str_size]; simp)
    rw [show ((1 : Nat) : Int) = 1 from rfl] at this
    rw [this]
    exact (bt_two k l.length h0 h1 (by omega) (by omega)).2
  have hok : okE (evI k t l l.length) := ⟨by omega, by omega, by omega⟩
  refine ⟨hok, ?_⟩
  rw [getE_yes hok, b0, b1, Int.toNat_natCast]
  have g2 : giV (evI k t l l.length) 2 = t := by
    rw [← hh]
    exact giV_mid (strOfNums [k, (l.length : Int)]) (tl l) t ht
  have gl : evN (evI k t l l.length) l.length = l := by
    unfold evN
    refine list_of_rd _ rfl fun i hi => ?_
    rw [evI_split k t l i hi]
    have e : (10 + 8 * (i : Int)) = ((evI k t l i).size : Int) := by rw [evI_size k t l i (by omega)]; omega
    rw [e]
    refine (giV_mid (evI k t l i) _ _ (hl _ ?_)).symm
    unfold rd
    rw [List.getD_eq_getElem?_getD, Int.toNat_natCast, List.getElem?_eq_getElem hi]
    exact List.getElem_mem hi
  rw [g2, gl]
theorem giV_i64 (s : ByteArray) (a : Int) : I64 (giV s a) := by unfold giV I64 wrap64; omega
theorem evN_i64 (s : ByteArray) (m : Nat) : ∀ x ∈ evN s m, I64 x := by
  intro x hx
  unfold evN at hx
  obtain ⟨j, _, rfl⟩ := List.mem_map.1 hx
  exact giV_i64 _ _
theorem getE_i64 (s : ByteArray) (k t x : Int) (l : List Int) (h : getE s = (k, t, l, x)) : I64 t ∧ (∀ y ∈ l, I64 y) ∧ 0 ≤ k ∧ k ≤ 255 ∧ l.length ≤ 8 := by
  by_cases ho : okE s
  · rw [getE_yes ho] at h
    injection h with e1 h; injection h with e2 h; injection h with e3 e4
    subst e1 e2 e3 e4
    have := bt_range s 0
    have := bt_range s 1
    exact ⟨giV_i64 _ _, evN_i64 _ _, by omega, by omega, by rw [evN_len]; have := ho.2.1; omega⟩
  · rw [getE_no ho] at h
    injection h with e1 h; injection h with e2 h; injection h with e3 e4
    subst e1 e2 e3 e4
    exact ⟨⟨by decide, by decide⟩, by simp, by decide, by decide, by decide⟩
/-! ### What is got is put as it was -/
theorem ba_ext {a b : ByteArray} (hz : a.size = b.size) (h : ∀ j : Nat, j < a.size → bt a (j : Int) = bt b (j : Int)) : a = b := by
  refine ByteArray.ext (Array.ext hz fun i h1 h2 => ?_)
  have h3 := h i h1
  rw [bt_nat a i h1, bt_nat b i h2] at h3
  exact UInt8.toNat_inj.1 (by exact_mod_cast h3)
theorem beI_shift (s : ByteArray) (a j : Nat) : ∀ d : Nat, beI s a (j + d) / 256 ^ d = beI s a j
  | 0 => by simp
  | d + 1 => by
    have hb := bt_range s ((a + (j + d) : Nat) : Int)
    have h1 : beI s a (j + (d + 1)) = beI s a (j + d) * 256 + bt s ((a + (j + d) : Nat) : Int) := rfl
    rw [h1, Int.pow_succ, Int.mul_comm (256 ^ d) 256, ← Int.ediv_ediv_of_nonneg (by decide), show (beI s a (j + d) * 256 + bt s ((a + (j + d) : Nat) : Int)) / 256 = beI s a (j + d) from by omega]
    exact beI_shift s a j d
theorem u64_wrap (x : Int) (h0 : 0 ≤ x) (h1 : x ≤ 18446744073709551615) : IntKind.u64.wrap (wrap64 x) = x := by rw [IntKind.wrap_u64]; unfold wrap64; omega
theorem bt_int_giV (s : ByteArray) (a j : Nat) (h : j < 8) : bt (intV (giV s (a : Int))) (j : Int) = bt s ((a + j : Nat) : Int) := by
  have hb := beI_u64 s a 8 (by omega)
  rw [intV_eq]
  unfold giV
  rw [Int.toNat_natCast, u64_wrap _ hb.1 hb.2, bt_dg _ 8 j h]
  have e : j + 1 + (8 - 1 - j) = 8 := by omega
  have h1 := beI_shift s a (j + 1) (8 - 1 - j)
  rw [e] at h1
  rw [h1]
  have h2 : beI s a (j + 1) = beI s a j * 256 + bt s ((a + j : Nat) : Int) := rfl
  have h3 := bt_range s ((a + j : Nat) : Int)
  rw [h2]
  omega
theorem put_get (s : ByteArray) (k t : Int) (l : List Int) (h : getE s = (k, t, l, 0)) : evI k t l l.length = s := by
  have ho : okE s := by
    apply Classical.byContradiction
    intro ho
    rw [getE_no ho] at h
    injection h with e1 h; injection h with e2 h; injection h with e3 e4
    exact absurd e4 (by decide)
  rw [getE_yes ho] at h
  injection h with e1 h; injection h with e2 h; injection h with e3 e4
  have hb0 := bt_range s 0
  have hb1 := bt_range s 1
  obtain ⟨m, hm⟩ := Int.eq_ofNat_of_zero_le hb1.1
  have hm' : bt s 1 = (m : Int) := hm
  rw [hm', Int.toNat_natCast] at e3
  have hlen : l.length = m := by rw [← e3, evN_len]
  have ho3 := ho.2.2
  have hz : (evI k t l l.length).size = s.size := by rw [evI_size k t l l.length (Nat.le_refl _), hlen]; omega
  refine ba_ext hz fun p hp => ?_
  have hh : strOfNums [k, (l.length : Int)] ++ (intV t ++ tl l) = evI k t l l.length := (evI_zero k t l).symm
  have hk : 0 ≤ k ∧ k ≤ 255 := by omega
  have hml : (l.length : Int) ≤ 255 := by have := ho.2.1; omega
  rw [hz] at hp
  rcases Nat.lt_or_ge p 2 with h1 | h1
  · rw [← hh, bt_left _ _ p (by rw [str_size]; simpa using h1)]
    have := bt_two k l.length hk.1 hk.2 (by omega) hml
    rcases Nat.lt_or_ge p 1 with h2 | h2
    · obtain rfl : p = 0 := by omega
      exact this.1.trans e1.symm
    · obtain rfl : p = 1 := by omega
      exact this.2.trans (by rw [hlen, ← hm']; rfl)
  rcases Nat.lt_or_ge p 10 with h2 | h2
  · obtain ⟨q, rfl⟩ := Nat.exists_eq_add_of_le h1
    have := bt_right (strOfNums [k, (l.length : Int)]) (intV t ++ tl l) q (by rw [ByteArray.size_append, intV_size]; omega)
    rw [← hh]
    refine Eq.trans this ?_
    rw [bt_left _ _ q (by rw [intV_size]; omega), ← e2]
    exact bt_int_giV s 2 q (by omega)
  · have hi : (p - 10) / 8 < l.length := by omega
    generalize hie : (p - 10) / 8 = i at hi
    rw [evI_split k t l i hi]
    have hsz := evI_size k t l i (by omega)
    obtain ⟨q, hq⟩ := Nat.exists_eq_add_of_le (show (evI k t l i).size ≤ p by omega)
    subst hq
    have := bt_right (evI k t l i) (intV (rd l (i : Int)) ++ tl (l.drop (i + 1))) q (by rw [ByteArray.size_append, intV_size]; omega)
    refine Eq.trans this ?_
    rw [bt_left _ _ q (by rw [intV_size]; omega)]
    have hrd : rd l (i : Int) = giV s ((10 + 8 * i : Nat) : Int) := by
      rw [← e3]
      unfold rd evN
      rw [List.getD_eq_getElem?_getD, Int.toNat_natCast, List.getElem?_map, List.getElem?_range (by omega)]
      show giV s (10 + 8 * (i : Int)) = _
      congr 1
    rw [hrd, bt_int_giV s (10 + 8 * i) q (by omega), hsz]
end Go.Proofs.Ythckcbacmonihaa.Hand
