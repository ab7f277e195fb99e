/- slices.Insert at a row of ints, as one contract over rows. -/
import Derived.Test.YtdnpfnoobjbanaaHI
set_option linter.unusedVariables false
set_option linter.unusedSimpArgs false
namespace Go.Proofs.Ytdnpfnoobjbanaa.Hand
open Go.RowKit Go.Proofs.Ytdnpfnoobjbanaa.PArenaPlays Go.Proofs.YtdnpfnoobjbanaaW.PrintWords Go.Proofs.YtdnpfnoobjbanaaW.PrintLast Go.Proofs.YtdnpfnoobjbanaaW.PrintMore

theorem blk_setCells {b t : Nat} : ∀ (vs : List Value) (o : Nat) (w : World) (cs : Array Value), w.heap[b]? = some (.cells cs t (0, 0)) → ∃ cs', (w.setCells b o vs).heap[b]? = some (.cells cs' t (0, 0)) ∧ cs'.size = cs.size ∧ ∀ j, cs'[j]? = if o ≤ j ∧ j < o + vs.length ∧ j < cs.size then vs[j - o]? else cs[j]?
  | [], o, w, cs, h => ⟨cs, h, rfl, fun j => by rw [if_neg (by simp only [List.length_nil]; omega)]⟩
  | v :: r, o, w, cs, h => by
    obtain ⟨cs', h1, h2, h3⟩ := blk_setCells r (o + 1) _ _ (blk_set h o v)
    refine ⟨cs', h1, by rw [h2, Array.size_setIfInBounds], fun j => ?_⟩
    rw [h3 j, Array.size_setIfInBounds]
    by_cases hj : j = o
    · subst hj
      rw [if_neg (by omega)]
      by_cases hs : j < cs.size
      · rw [if_pos ⟨Nat.le_refl _, by simp only [List.length_cons]; omega, hs⟩, Nat.sub_self, Array.getElem?_setIfInBounds_self_of_lt hs, List.getElem?_cons_zero]
      · rw [if_neg (by omega), Array.getElem?_eq_none (by rw [Array.size_setIfInBounds]; omega), Array.getElem?_eq_none (by omega)]
    · rw [Array.getElem?_setIfInBounds_ne (fun e => hj e.symm)]
      by_cases hc : o ≤ j ∧ j < o + (v :: r).length ∧ j < cs.size
      · simp only [List.length_cons] at hc
        rw [if_pos (show o + 1 ≤ j ∧ j < o + 1 + r.length ∧ j < cs.size by omega), if_pos (show o ≤ j ∧ j < o + (v :: r).length ∧ j < cs.size by simp only [List.length_cons]; omega), show j - o = (j - (o + 1)) + 1 by omega, List.getElem?_cons_succ]
      · simp only [List.length_cons] at hc
        rw [if_neg (show ¬ (o + 1 ≤ j ∧ j < o + 1 + r.length ∧ j < cs.size) by omega), if_neg (show ¬ (o ≤ j ∧ j < o + (v :: r).length ∧ j < cs.size) by simp only [List.length_cons]; omega)]
theorem grown_setCells (b : Nat) : ∀ (vs : List Value) (o : Nat) (w : World), w.grownBy (w.setCells b o vs) (some b)
  | [], _, _ => ⟨rfl, rfl, rfl, Nat.le_refl _, fun _ _ _ => rfl⟩
  | v :: r, o, w => by
    have h := grown_setCells b r (o + 1) (w.setCell ⟨b, o, none⟩ v)
    have h0 := (Below.refl b w).setCell (p := ⟨b, o, none⟩) (Nat.le_refl b) v
    exact ⟨h.os.trans h0.os, h.tape.trans h0.tape, h.output.trans h0.output, Nat.le_trans h0.size h.size, fun k hk hne =>
      (h.block k (Nat.lt_of_lt_of_le hk h0.size) hne).trans (Below.heap_setCell w ⟨b, o, none⟩ v k (fun e => hne (by rw [e])))⟩
theorem grown_of {W W1 : World} (hb : Below W.heap.size W W1) (r : Option Nat) : W.grownBy W1 r := ⟨hb.os, hb.tape, hb.output, hb.size, fun k hk _ => hb.block k hk⟩
theorem Q_mk {W : World} {b t off n cap g : Nat} {cur : Array Value} {xs : List Int} (hb : W.heap[b]? = some (.cells cur t (0, 0))) (hg : g ≤ b) (hn : xs.length = n) (hc : n ≤ cap) (hm : off + cap ≤ maxLen) (hs : cur.size = off + cap)
    (hx : ∀ j, j < n → cur[off + j]? = (xs[j]?).map (Value.int .i64)) : (Kd.int .i64).Q t W g (fun _ => True) (.slice (some ⟨b, off, none⟩) n cap) xs := by
  subst hn
  refine ⟨fun _ _ => trivial, encs (Value.int .i64) xs, ⟨by rw [encs_length]; exact (Nat.mul_one _).symm, .inr ⟨b, off, cap, cur, ?_, hg, hb, hc, hm, ?_, ?_⟩⟩, Kd.reps_scalar xs⟩
  · rw [show off * (Kd.int .i64).sz = off from Nat.mul_one _]
  · rw [show (off + cap) * (Kd.int .i64).sz = off + cap from Nat.mul_one _]; exact hs
  · rw [show off * (Kd.int .i64).sz = off from Nat.mul_one _, show xs.length * (Kd.int .i64).sz = xs.length from Nat.mul_one _]
    refine List.ext_getElem? (fun j => ?_)
    rw [List.getElem?_take]
    by_cases hj : j < xs.length
    · rw [if_pos hj, List.getElem?_drop, Array.getElem?_toList, hx j hj, encs, List.getElem?_map]
    · rw [if_neg hj, List.getElem?_eq_none (by rw [encs_length]; omega)]
theorem Q_un {W : World} {t g : Nat} {v : Value} {xs : List Int} (h : (Kd.int .i64).Q t W g (fun _ => True) v xs) :
    (xs = [] ∧ ∃ A, v = .slice A 0 0 ∧ ∀ a, A = some a → g ≤ a.block ∧ ∃ cur, W.heap[a.block]? = some (.cells cur t (0, 0))) ∨ ∃ b off cap cur, v = .slice (some ⟨b, off, none⟩) xs.length cap ∧ g ≤ b ∧ W.heap[b]? = some (.cells cur t (0, 0)) ∧ xs.length ≤ cap ∧ off + cap ≤ maxLen ∧ cur.size = off + cap ∧ ∀ j, j < xs.length → cur[off + j]? = (xs[j]?).map (Value.int .i64) := by
  obtain ⟨_, inner, ho, hr⟩ := h
  obtain rfl := Kd.reps_encs hr
  obtain ⟨hl, ⟨h0, A, hv, ha⟩ | ⟨b, off, cap, cur, hv, hg, hb, hc, hm, hs, hx⟩⟩ := ho
  · exact .inl ⟨List.length_eq_zero_iff.1 h0, A, hv, ha⟩
  · rw [show off * (Kd.int .i64).sz = off from Nat.mul_one _] at hv hx
    rw [show (off + cap) * (Kd.int .i64).sz = off + cap from Nat.mul_one _] at hs
    rw [show xs.length * (Kd.int .i64).sz = xs.length from Nat.mul_one _] at hx
    refine .inr ⟨b, off, cap, cur, hv, hg, hb, hc, hm, hs, fun j hj => ?_⟩
    have e := congrArg (fun l => l[j]?) hx
    simp only [List.getElem?_take, List.getElem?_drop, Array.getElem?_toList, if_pos hj, encs, List.getElem?_map] at e
    exact e
end Go.Proofs.Ytdnpfnoobjbanaa.Hand
