/- Rows of intervals of one's own; slices.Insert as one contract; slices.Clone. -/
import Derived.Test.YtoidaakmmnlhgaaKE
set_option linter.unusedVariables false
set_option linter.unusedSimpArgs false
namespace Go.Proofs.Ytoidaakmmnlhgaa.Hand
open Go.Lib Go.Shelf Go.RowKit Go.Proofs.YtoidaakmmnlhgaaW.PrintWords Go.Proofs.YtoidaakmmnlhgaaW.PrintLast Go.Proofs.YtoidaakmmnlhgaaW.PrintMore
def flatI : List Iv → List Value
  | [] => []
  | x :: r => .int .i64 x.1 :: .int .i64 x.2 :: flatI r
theorem flat_len : ∀ L : List Iv, (flatI L).length = L.length * 2
  | [] => rfl
  | x :: r => by simp only [flatI, List.length_cons, flat_len r]; omega
theorem flat_app : ∀ L M : List Iv, flatI (L ++ M) = flatI L ++ flatI M
  | [], _ => rfl
  | x :: r, M => by simp only [List.cons_append, flatI, flat_app r M]
theorem flat_drop : ∀ (L : List Iv) (i : Nat), (flatI L).drop (i * 2) = flatI (L.drop i)
  | L, 0 => by rw [Nat.zero_mul, List.drop_zero, List.drop_zero]
  | [], i + 1 => by simp [flatI]
  | x :: r, i + 1 => by rw [show (i + 1) * 2 = i * 2 + 1 + 1 by omega]; exact flat_drop r i
theorem flat_take : ∀ (L : List Iv) (i : Nat), (flatI L).take (i * 2) = flatI (L.take i)
  | L, 0 => by rw [Nat.zero_mul, List.take_zero, List.take_zero]; rfl
  | [], i + 1 => by simp [flatI]
  | x :: r, i + 1 => by
    rw [show (i + 1) * 2 = i * 2 + 1 + 1 by omega]
    show _ = flatI (x :: r.take i)
    simp only [flatI, List.take_succ_cons, flat_take r i]
theorem flat_one : ∀ L : List Iv, ∀ v ∈ flatI L, v.oneCell' = true
  | [], v, h => by cases h
  | x :: r, v, h => by
    simp only [flatI, List.mem_cons] at h
    rcases h with rfl | rfl | h
    · rfl
    · rfl
    · exact flat_one r v h
theorem flat_at : ∀ (L : List Iv) (k : Nat) (x : Iv), L[k]? = some x → (flatI L)[k * 2]? = some (.int .i64 x.1) ∧ (flatI L)[k * 2 + 1]? = some (.int .i64 x.2)
  | y :: r, 0, x, h => by
    rw [List.getElem?_cons_zero] at h
    cases h
    exact ⟨rfl, rfl⟩
  | y :: r, k + 1, x, h => by
    rw [List.getElem?_cons_succ] at h
    obtain ⟨h1, h2⟩ := flat_at r k x h
    rw [show (k + 1) * 2 = k * 2 + 1 + 1 by omega]
    exact ⟨h1, h2⟩
  | [], k, x, h => by simp at h
theorem flat_of (L : List Iv) (j : Nat) (u : Value) (h : (flatI L)[j]? = some u) : ∃ x, L[j / 2]? = some x ∧ [Value.int .i64 x.1, .int .i64 x.2][j % 2]? = some u := by
  have hj := (List.getElem?_eq_some_iff.1 h).1
  rw [flat_len] at hj
  have hk : j / 2 < L.length := by omega
  refine ⟨L[j / 2], List.getElem?_eq_getElem hk, ?_⟩
  obtain ⟨h1, h2⟩ := flat_at L (j / 2) _ (List.getElem?_eq_getElem hk)
  rcases Nat.mod_two_eq_zero_or_one j with e | e
  · rw [e]
    rw [show j / 2 * 2 = j by omega, h] at h1
    exact h1.symm
  · rw [e]
    rw [show j / 2 * 2 + 1 = j by omega, h] at h2
    exact h2.symm
theorem flat_cells {W : World} {ad : Addr} {n : Nat} {L : List Iv} (h : Kd.C kI W (some ad) n L) : ∀ j u, (flatI L)[j]? = some u → W.cell? (ad.add j) = some u := by
  intro j u hj
  obtain ⟨x, hx, hu⟩ := flat_of L j u hj
  have hk := (List.getElem?_eq_some_iff.1 hx).1
  obtain ⟨ad', e, hr⟩ := h.2.2 (by have := h.1; omega)
  have e' := Option.some.inj e
  subst e'
  obtain ⟨cs, hl, hK, hc⟩ := hr (j / 2) x hx
  obtain ⟨c1, c2, rfl, k1, k2⟩ := hK
  obtain rfl : c1 = [.int .i64 x.1] := k1
  obtain rfl : c2 = [.int .i64 x.2] := k2
  have := hc (j % 2) u hu
  rw [show j / 2 * kI.sz + j % 2 = j from by rw [show kI.sz = 2 from rfl]; omega] at this
  exact this
def insI (L : List Iv) (i : Nat) (x : Iv) : List Iv := L.take i ++ x :: L.drop i
theorem insI_len (L : List Iv) (i : Nat) (x : Iv) (hi : i ≤ L.length) : (insI L i x).length = L.length + 1 := by simp [insI]; omega
theorem flat_ins (L : List Iv) (i : Nat) (x : Iv) (hi : i ≤ L.length) (j : Nat) : (flatI (insI L i x))[j]? = if j < i * 2 then (flatI L)[j]? else if j < i * 2 + 2 then [Value.int .i64 x.1, .int .i64 x.2][j - i * 2]? else (flatI L)[j - 2]? := by
  have ht : (flatI (L.take i)).length = i * 2 := by rw [flat_len, List.length_take, Nat.min_eq_left hi]
  rw [insI, flat_app, show flatI (x :: L.drop i) = [Value.int .i64 x.1, .int .i64 x.2] ++ flatI (L.drop i) from rfl]
  by_cases h1 : j < i * 2
  · rw [if_pos h1, List.getElem?_append_left (by omega), ← flat_take, List.getElem?_take, if_pos h1]
  · rw [if_neg h1, List.getElem?_append_right (by omega), ht]
    by_cases h2 : j < i * 2 + 2
    · rw [if_pos h2, List.getElem?_append_left (by simp only [List.length_cons, List.length_nil]; omega)]
    · rw [if_neg h2, List.getElem?_append_right (by simp only [List.length_cons, List.length_nil]; omega), ← flat_drop, List.getElem?_drop]
      congr 1
      simp only [List.length_cons, List.length_nil]
      omega
/-- A row of intervals at a block of its own. -/
def RowI (w : World) (g c : Nat) (L : List Iv) : Prop := ∃ cur : Array Value, w.heap[g]? = some (.cells cur 43 (0, 0)) ∧ cur.size = c * 2 ∧ L.length ≤ c ∧ c ≤ 9223372036854775807 ∧ ∀ j, j < L.length * 2 → cur[j]? = (flatI L)[j]?
theorem RowI.lt {w : World} {g c : Nat} {L : List Iv} (h : RowI w g c L) : g < w.heap.size := by
  obtain ⟨cur, hb, _⟩ := h
  exact blk_lt hb
theorem RowI.below {w w1 : World} {g c : Nat} {L : List Iv} (h : RowI w g c L) (hb : Below w.heap.size w w1) : RowI w1 g c L := by
  obtain ⟨cur, h1, h2⟩ := h
  exact ⟨cur, blk_below h1 hb, h2⟩
theorem RowI.C {w : World} {g c : Nat} {L : List Iv} (h : RowI w g c L) : Kd.C kI w (some ⟨g, 0, none⟩) L.length L := by
  obtain ⟨cur, hb, hs, hc, hm, hx⟩ := h
  refine ⟨rfl, by omega, fun h0 => ⟨_, rfl, fun k x hk => ⟨[.int .i64 x.1, .int .i64 x.2], rfl, ⟨_, _, rfl, rfl, rfl⟩, fun j u hj => ?_⟩⟩⟩
  have hkl := (List.getElem?_eq_some_iff.1 hk).1
  obtain ⟨f1, f2⟩ := flat_at L k x hk
  rw [Addr.add_lit, Nat.zero_add, show kI.sz = 2 from rfl, blk_cell hb]
  rcases j with _ | _ | j
  · rw [Nat.add_zero, hx _ (by omega), f1]; exact hj
  · rw [hx _ (by omega), f2]; exact hj
  · simp at hj
theorem blk_setCells {b t : Nat} : ∀ (vs : List Value) (o : Nat) (w : World) (cs : Array Value), w.heap[b]? = some (.cells cs t (0, 0)) → ∃ cs', (w.setCells b o vs).heap[b]? = some (.cells cs' t (0, 0)) ∧ cs'.size = cs.size ∧ ∀ j, cs'[j]? = if o ≤ j ∧ j < o + vs.length ∧ j < cs.size then vs[j - o]? else cs[j]?
  | [], o, w, cs, h => ⟨cs, h, rfl, fun j => by rw [if_neg (by simp only [List.length_nil]; omega)]⟩
  | v :: r, o, w, cs, h => by
    obtain ⟨cs', h1, h2, h3⟩ := blk_setCells r (o + 1) _ _ (blk_set h o v)
    refine ⟨cs', h1, by rw [h2, Array.size_setIfInBounds], fun j => ?_⟩
    rw [h3 j, Array.size_setIfInBounds]
    by_cases hj : j = o
    · subst hj
      rw [if_neg (by omega)]
      by_cases hs : j < cs.size
      · rw [if_pos ⟨Nat.le_refl _, by simp only [List.length_cons]; omega, hs⟩, Nat.sub_self, Array.getElem?_setIfInBounds_self_of_lt hs, List.getElem?_cons_zero]
      · rw [if_neg (by omega), Array.getElem?_eq_none (by rw [Array.size_setIfInBounds]; omega), Array.getElem?_eq_none (by omega)]
    · rw [Array.getElem?_setIfInBounds_ne (fun e => hj e.symm)]
      by_cases hc : o ≤ j ∧ j < o + (v :: r).length ∧ j < cs.size
      · simp only [List.length_cons] at hc
        rw [if_pos (show o + 1 ≤ j ∧ j < o + 1 + r.length ∧ j < cs.size by omega), if_pos (show o ≤ j ∧ j < o + (v :: r).length ∧ j < cs.size by simp only [List.length_cons]; omega), show j - o = (j - (o + 1)) + 1 by omega, List.getElem?_cons_succ]
      · simp only [List.length_cons] at hc
        rw [if_neg (show ¬ (o + 1 ≤ j ∧ j < o + 1 + r.length ∧ j < cs.size) by omega), if_neg (show ¬ (o ≤ j ∧ j < o + (v :: r).length ∧ j < cs.size) by simp only [List.length_cons]; omega)]
theorem below_setCells' {B b : Nat} {a : World} (hb : B ≤ b) : ∀ (vs : List Value) (o : Nat) {w : World}, Below B a w → Below B a (w.setCells b o vs)
  | [], _, _, h => h
  | v :: r, o, _, h => below_setCells' hb r (o + 1) (h.setCell (p := ⟨b, o, none⟩) hb v)
theorem zsize2 (n : Nat) : (Builtin.zeroCells (Value.agg #[.int .i64 0, .int .i64 0]).cells n).size = n * 2 := by
  rw [size_zeroCells]
  rfl
section
variable {W : World} {g c : Nat} {L : List Iv}
/-- The row's block as one word of cells. -/
theorem RowI.mk {cur : Array Value} (hb : W.heap[g]? = some (.cells cur 43 (0, 0))) (hs : cur.size = c * 2) (hc : L.length ≤ c) (hm : c ≤ 9223372036854775807) (h : ∀ j, j < L.length * 2 → cur[j]? = (flatI L)[j]?) : RowI W g c L := ⟨cur, hb, hs, hc, hm, h⟩
end
end Go.Proofs.Ytoidaakmmnlhgaa.Hand
