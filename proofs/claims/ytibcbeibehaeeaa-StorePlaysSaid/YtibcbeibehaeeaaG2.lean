/- Joined: HI, HJ, HK, HL, HM, HR, HT. -/
import Derived.Shelf.Spec.SlicesInsert
import Derived.Shelf.Spec.SlicesInsertGrow
import Derived.Test.YtibcbeibehaeeaaG1
import Derived.Shelf.Slices.SearchI
import Derived.Shelf.Slices.Empties
import Derived.Ground.Names2Prog
import Derived.Test.YtibcbeibehaeeaaO0
/- slices.Insert at []int, laid at this seat from the shelf. -/
set_option linter.unusedVariables false
set_option linter.unusedSimpArgs false
namespace Go.Proofs
open Go.Shelf
def Try.lays221_ren : Go.Shelf.Ren := ⟨fun | 21 => 54 | 27 => 68 | 28 => 69 | 35 => 75 | 39 => 77 | n => n, fun | 22 => 61 | 3 => 3 | 4 => 4 | 0 => 0 | n => n, fun | n => n⟩
theorem Try.lays221 : Go.Proofs.Lays2.n21 Try.prog Try.lays221_ren := {
  mixed := by kernel_rfl
  f21 := Try.func54.trans (congrArg some (by kernel_rfl))
  f27 := Try.func68.trans (congrArg some (by kernel_rfl))
  f28 := Try.func69.trans (congrArg some (by kernel_rfl))
  f35 := Try.func75.trans (congrArg some (by kernel_rfl))
  f39 := Try.func77.trans (congrArg some (by kernel_rfl))
  t0 := Try.underlying0
  a0 := Try.isAgg0
  z0 := Try.sizeOf0
  v0 := Try.zeroValue0
  t3 := Try.underlying3
  a3 := Try.isAgg3
  z3 := Try.sizeOf3
  v3 := Try.zeroValue3
  t4 := Try.underlying4
  a4 := Try.isAgg4
  z4 := Try.sizeOf4
  v4 := Try.zeroValue4
  t22 := Try.underlying61
  a22 := Try.isAgg61
  z22 := Try.sizeOf61
  v22 := Try.zeroValue61
  i3 := by kernel_rfl }
end Go.Proofs

/- slices.Insert at a row of ints, as one contract over rows. -/
set_option linter.unusedVariables false
set_option linter.unusedSimpArgs false
namespace Go.Proofs.Ytibcbeibehaeeaa.Hand
open Go.RowKit Go.Proofs.Ytibcbeibehaeeaa.PStorePlays Go.Proofs.YtibcbeibehaeeaaW.PrintWords Go.Proofs.YtibcbeibehaeeaaW.PrintLast Go.Proofs.YtibcbeibehaeeaaW.PrintMore

theorem blk_setCells {b t : Nat} : ∀ (vs : List Value) (o : Nat) (w : World) (cs : Array Value), w.heap[b]? = some (.cells cs t (0, 0)) → ∃ cs', (w.setCells b o vs).heap[b]? = some (.cells cs' t (0, 0)) ∧ cs'.size = cs.size ∧ ∀ j, cs'[j]? = if o ≤ j ∧ j < o + vs.length ∧ j < cs.size then vs[j - o]? else cs[j]?
  | [], o, w, cs, h => ⟨cs, h, rfl, fun j => by rw [if_neg (by simp only [List.length_nil]; omega)]⟩
  | v :: r, o, w, cs, h => by
    obtain ⟨cs', h1, h2, h3⟩ := blk_setCells r (o + 1) _ _ (blk_set h o v)
    refine ⟨cs', h1, by rw [h2, Array.size_setIfInBounds], fun j => ?_⟩
    rw [h3 j, Array.size_setIfInBounds]
    by_cases hj : j = o
    · subst hj
      rw [if_neg (by omega)]
      by_cases hs : j < cs.size
      · rw [if_pos ⟨Nat.le_refl _, by simp only [List.length_cons]; omega, hs⟩, Nat.sub_self, Array.getElem?_setIfInBounds_self_of_lt hs, List.getElem?_cons_zero]
      · rw [if_neg (by omega), Array.getElem?_eq_none (by rw [Array.size_setIfInBounds]; omega), Array.getElem?_eq_none (by omega)]
    · rw [Array.getElem?_setIfInBounds_ne (fun e => hj e.symm)]
      by_cases hc : o ≤ j ∧ j < o + (v :: r).length ∧ j < cs.size
      · simp only [List.length_cons] at hc
        rw [if_pos (show o + 1 ≤ j ∧ j < o + 1 + r.length ∧ j < cs.size by omega), if_pos (show o ≤ j ∧ j < o + (v :: r).length ∧ j < cs.size by simp only [List.length_cons]; omega), show j - o = (j - (o + 1)) + 1 by omega, List.getElem?_cons_succ]
      · simp only [List.length_cons] at hc
        rw [if_neg (show ¬ (o + 1 ≤ j ∧ j < o + 1 + r.length ∧ j < cs.size) by omega), if_neg (show ¬ (o ≤ j ∧ j < o + (v :: r).length ∧ j < cs.size) by simp only [List.length_cons]; omega)]
theorem grown_setCells (b : Nat) : ∀ (vs : List Value) (o : Nat) (w : World), w.grownBy (w.setCells b o vs) (some b)
  | [], _, _ => ⟨rfl, rfl, rfl, Nat.le_refl _, fun _ _ _ => rfl⟩
  | v :: r, o, w => by
    have h := grown_setCells b r (o + 1) (w.setCell ⟨b, o, none⟩ v)
    have h0 := (Below.refl b w).setCell (p := ⟨b, o, none⟩) (Nat.le_refl b) v
    exact ⟨h.os.trans h0.os, h.tape.trans h0.tape, h.output.trans h0.output, Nat.le_trans h0.size h.size, fun k hk hne =>
      (h.block k (Nat.lt_of_lt_of_le hk h0.size) hne).trans (Below.heap_setCell w ⟨b, o, none⟩ v k (fun e => hne (by rw [e])))⟩
theorem grown_of {W W1 : World} (hb : Below W.heap.size W W1) (r : Option Nat) : W.grownBy W1 r := ⟨hb.os, hb.tape, hb.output, hb.size, fun k hk _ => hb.block k hk⟩
theorem Q_mk {W : World} {b t off n cap g : Nat} {cur : Array Value} {xs : List Int} (hb : W.heap[b]? = some (.cells cur t (0, 0))) (hg : g ≤ b) (hn : xs.length = n) (hc : n ≤ cap) (hm : off + cap ≤ maxLen) (hs : cur.size = off + cap)
    (hx : ∀ j, j < n → cur[off + j]? = (xs[j]?).map (Value.int .i64)) : (Kd.int .i64).Q t W g (fun _ => True) (.slice (some ⟨b, off, none⟩) n cap) xs := by
  subst hn
  refine ⟨fun _ _ => trivial, encs (Value.int .i64) xs, ⟨by rw [encs_length]; exact (Nat.mul_one _).symm, .inr ⟨b, off, cap, cur, ?_, hg, hb, hc, hm, ?_, ?_⟩⟩, Kd.reps_scalar xs⟩
  · rw [show off * (Kd.int .i64).sz = off from Nat.mul_one _]
  · rw [show (off + cap) * (Kd.int .i64).sz = off + cap from Nat.mul_one _]; exact hs
  · rw [show off * (Kd.int .i64).sz = off from Nat.mul_one _, show xs.length * (Kd.int .i64).sz = xs.length from Nat.mul_one _]
    refine List.ext_getElem? (fun j => ?_)
    rw [List.getElem?_take]
    by_cases hj : j < xs.length
    · rw [if_pos hj, List.getElem?_drop, Array.getElem?_toList, hx j hj, encs, List.getElem?_map]
    · rw [if_neg hj, List.getElem?_eq_none (by rw [encs_length]; omega)]
theorem Q_un {W : World} {t g : Nat} {v : Value} {xs : List Int} (h : (Kd.int .i64).Q t W g (fun _ => True) v xs) :
    (xs = [] ∧ ∃ A, v = .slice A 0 0 ∧ ∀ a, A = some a → g ≤ a.block ∧ ∃ cur, W.heap[a.block]? = some (.cells cur t (0, 0))) ∨ ∃ b off cap cur, v = .slice (some ⟨b, off, none⟩) xs.length cap ∧ g ≤ b ∧ W.heap[b]? = some (.cells cur t (0, 0)) ∧ xs.length ≤ cap ∧ off + cap ≤ maxLen ∧ cur.size = off + cap ∧ ∀ j, j < xs.length → cur[off + j]? = (xs[j]?).map (Value.int .i64) := by
  obtain ⟨_, inner, ho, hr⟩ := h
  obtain rfl := Kd.reps_encs hr
  obtain ⟨hl, ⟨h0, A, hv, ha⟩ | ⟨b, off, cap, cur, hv, hg, hb, hc, hm, hs, hx⟩⟩ := ho
  · exact .inl ⟨List.length_eq_zero_iff.1 h0, A, hv, ha⟩
  · rw [show off * (Kd.int .i64).sz = off from Nat.mul_one _] at hv hx
    rw [show (off + cap) * (Kd.int .i64).sz = off + cap from Nat.mul_one _] at hs
    rw [show xs.length * (Kd.int .i64).sz = xs.length from Nat.mul_one _] at hx
    refine .inr ⟨b, off, cap, cur, hv, hg, hb, hc, hm, hs, fun j hj => ?_⟩
    have e := congrArg (fun l => l[j]?) hx
    simp only [List.getElem?_take, List.getElem?_drop, Array.getElem?_toList, if_pos hj, encs, List.getElem?_map] at e
    exact e
end Go.Proofs.Ytibcbeibehaeeaa.Hand

/- slices.Insert at a row of ints, as one contract over rows. -/
set_option linter.unusedVariables false
set_option linter.unusedSimpArgs false
namespace Go.Proofs.Ytibcbeibehaeeaa.Hand
open Go.RowKit Go.Proofs.Ytibcbeibehaeeaa.PStorePlays Go.Proofs.YtibcbeibehaeeaaW.PrintWords Go.Proofs.YtibcbeibehaeeaaW.PrintLast Go.Proofs.YtibcbeibehaeeaaW.PrintMore

def insAt (fs : List Int) (i : Nat) (x : Int) : List Int := fs.take i ++ x :: fs.drop i
theorem insAt_len (fs : List Int) (i : Nat) (x : Int) (hi : i ≤ fs.length) : (insAt fs i x).length = fs.length + 1 := by simp [insAt]; omega
theorem insAt_get (fs : List Int) (i : Nat) (x : Int) (hi : i ≤ fs.length) (j : Nat) : (insAt fs i x)[j]? = if j < i then fs[j]? else if j = i then some x else fs[j - 1]? := by
  rw [insAt]
  by_cases h1 : j < i
  · rw [if_pos h1, List.getElem?_append_left (by rw [List.length_take]; omega), List.getElem?_take, if_pos h1]
  · rw [if_neg h1, List.getElem?_append_right (by rw [List.length_take]; omega), List.length_take, Nat.min_eq_left hi]
    by_cases h2 : j = i
    · rw [if_pos h2, h2, Nat.sub_self, List.getElem?_cons_zero]
    · rw [if_neg h2, show j - i = (j - 1 - i) + 1 by omega, List.getElem?_cons_succ, List.getElem?_drop, show i + (j - 1 - i) = j - 1 by omega]
theorem insAt_end (fs : List Int) (x : Int) : insAt fs fs.length x = fs ++ [x] := by simp [insAt]
section
variable {W : World} {g : Nat} {fs : List Int} {x : Int} {vb : Nat}
theorem vs_reads (hvb : W.heap[vb]? = some (.cells #[.int .i64 x] 3 (0, 0))) : ∀ j v, [Value.int .i64 x][j]? = some v → W.cell? ⟨vb, 0 + j, none⟩ = some v := by
  intro j v hj
  rw [blk_cell hvb, Nat.zero_add]
  simpa using hj
theorem vs_one (x : Int) : ∀ v ∈ [Value.int .i64 x], v.oneCell' = true := by
  intro v hv
  rw [List.mem_singleton.1 hv]
  rfl
theorem fs_one (fs : List Int) : ∀ v ∈ fs.map (Value.int .i64), v.oneCell' = true := by
  intro v hv
  obtain ⟨y, _, rfl⟩ := List.mem_map.1 hv
  rfl
theorem zsize (n : Nat) : (Builtin.zeroCells (Value.int .i64 0).cells n).size = n := by rw [size_zeroCells]; exact Nat.mul_one n
/-- At the end, no room: a new row. -/
theorem ins_end_grow (base : Option Addr) (c : Nat) (hl : fs.length ≤ 4096) (hgw : g ≤ W.heap.size) (hc : fs.length ≤ c) (hr : c < fs.length + 1) (hnil : base = none → fs.length = 0)
    (hcs : ∀ a, base = some a → ∀ j v, (fs.map (Value.int .i64))[j]? = some v → W.cell? (a.add j) = some v) (hvb : W.heap[vb]? = some (.cells #[.int .i64 x] 3 (0, 0))) (row : Option Nat) :
    Calls Try.prog 54 #[.slice base fs.length c, .int .i64 (fs.length : Int), .slice (some ⟨vb, 0, none⟩) 1 1] W fun e w' => ∃ v', e = .returned v' ∧ (Kd.int .i64).Q 3 w' g (fun _ => True) v' (insAt fs fs.length x) ∧ W.grownBy w' row := by
  refine (Any2.slices_Insert_int_end_grow Try.lays221 base fs.length c vb 0 1 1 (fs.map (Value.int .i64)) [.int .i64 x] W (by omega) hc hr (by omega) (by rw [List.length_map]) rfl hnil hcs (vs_reads hvb) (vs_one x)).mono ?_
  rintro e w' ⟨rfl, rfl⟩
  have hG := grownCap_ge W (fs.length + 1) c 3
  have hM := grownCap_le_maxLen W (fs.length + 1) c 3 (by unfold maxLen; omega)
  refine ⟨_, rfl, Q_mk (off := 0) (blk_new' rfl) hgw (by rw [insAt_len _ _ _ (Nat.le_refl _)]) hG (by rw [Nat.zero_add]; exact hM) ?_ (fun j hj => ?_), grown_of (below_alloc (below_drew (Below.refl _ _)) _) _⟩
  · rw [Array.size_append, zsize, List.size_toArray, List.length_append, List.length_map, List.length_singleton]
    show fs.length + 1 + (grownCap W (fs.length + 1) c 3 - (fs.length + 1)) = 0 + grownCap W (fs.length + 1) c 3
    omega
  · rw [Nat.zero_add, Array.getElem?_append_left (by rw [List.size_toArray, List.length_append, List.length_map]; exact hj), List.getElem?_toArray, insAt_end]
    have e : fs.map (Value.int .i64) ++ [.int .i64 x] = (fs ++ [x]).map (Value.int .i64) := by simp
    rw [e, List.getElem?_map]
theorem below_setCells' {B b : Nat} {a : World} (hb : B ≤ b) : ∀ (vs : List Value) (o : Nat) {w : World}, Below B a w → Below B a (w.setCells b o vs)
  | [], _, _, h => h
  | v :: r, o, _, h => below_setCells' hb r (o + 1) (h.setCell (p := ⟨b, o, none⟩) hb v)
/-- In place: the row's cells behind what is written. -/
theorem Q_in {b off cap i : Nat} {cur : Array Value} (hb : W.heap[b]? = some (.cells cur 3 (0, 0))) (hg : g ≤ b) (hi : i ≤ fs.length) (hc : fs.length + 1 ≤ cap) (hm : off + cap ≤ maxLen) (hs : cur.size = off + cap)
    (hx : ∀ j, j < fs.length → cur[off + j]? = (fs[j]?).map (Value.int .i64)) :
    (Kd.int .i64).Q 3 ((W.setCells b (off + (i + 1)) ((fs.map (Value.int .i64)).drop i)).setCells b (off + i) [.int .i64 x]) g (fun _ => True) (.slice (some ⟨b, off, none⟩) (fs.length + 1) cap) (insAt fs i x) := by
  obtain ⟨c1, h1, s1, g1⟩ := blk_setCells ((fs.map (Value.int .i64)).drop i) (off + (i + 1)) W cur hb
  obtain ⟨c2, h2, s2, g2⟩ := blk_setCells [Value.int .i64 x] (off + i) _ c1 h1
  have hdl : ((fs.map (Value.int .i64)).drop i).length = fs.length - i := by rw [List.length_drop, List.length_map]
  refine Q_mk h2 hg (insAt_len _ _ _ hi) hc hm (by rw [s2, s1, hs]) (fun j hj => ?_)
  rw [g2, insAt_get _ _ _ hi, s1, hs]
  by_cases e1 : j = i
  · subst e1
    rw [if_pos (show off + j ≤ off + j ∧ off + j < off + j + [Value.int .i64 x].length ∧ off + j < off + cap by simp only [List.length_singleton]; omega), Nat.sub_self, if_neg (Nat.lt_irrefl _), if_pos rfl]
    rfl
  · rw [if_neg (show ¬ (off + i ≤ off + j ∧ off + j < off + i + [Value.int .i64 x].length ∧ off + j < off + cap) by simp only [List.length_singleton]; omega), g1, hdl, hs]
    by_cases e2 : j < i
    · rw [if_neg (show ¬ (off + (i + 1) ≤ off + j ∧ off + j < off + (i + 1) + (fs.length - i) ∧ off + j < off + cap) by omega), if_pos e2]
      exact hx j (by omega)
    · rw [if_pos (show off + (i + 1) ≤ off + j ∧ off + j < off + (i + 1) + (fs.length - i) ∧ off + j < off + cap by omega), if_neg e2, if_neg e1, List.getElem?_drop, List.getElem?_map, show i + (off + j - (off + (i + 1))) = j - 1 by omega]
theorem grown2 (b o o' : Nat) (vs vs' : List Value) (w : World) : w.grownBy ((w.setCells b o vs).setCells b o' vs') (some b) := by
  have h1 := grown_setCells b vs o w
  have h2 := grown_setCells b vs' o' (w.setCells b o vs)
  exact ⟨h2.os.trans h1.os, h2.tape.trans h1.tape, h2.output.trans h1.output, Nat.le_trans h1.size h2.size, fun k hk hne => (h2.block k (Nat.lt_of_lt_of_le hk h1.size) hne).trans (h1.block k hk hne)⟩
theorem grown_drew {w1 : World} {row : Option Nat} (h : W.drew.grownBy w1 row) : W.grownBy w1 row := ⟨h.os, h.tape, h.output, h.size, h.block⟩
/-- A row at an address of its own: Insert, every case. -/
theorem ins_row {b off cap i : Nat} {cur : Array Value} (hb : W.heap[b]? = some (.cells cur 3 (0, 0))) (hg : g ≤ b) (hi : i ≤ fs.length) (hc : fs.length ≤ cap) (hm : off + cap ≤ maxLen) (hs : cur.size = off + cap)
    (hx : ∀ j, j < fs.length → cur[off + j]? = (fs[j]?).map (Value.int .i64)) (hl : fs.length ≤ 4096) (hvb : W.heap[vb]? = some (.cells #[.int .i64 x] 3 (0, 0))) (hne : vb ≠ b) :
    Calls Try.prog 54 #[.slice (some ⟨b, off, none⟩) fs.length cap, .int .i64 (i : Int), .slice (some ⟨vb, 0, none⟩) 1 1] W fun e w' => ∃ v', e = .returned v' ∧ (Kd.int .i64).Q 3 w' g (fun _ => True) v' (insAt fs i x) ∧ W.grownBy w' (some b) := by
  have hgw : g ≤ W.heap.size := Nat.le_trans hg (Nat.le_of_lt (blk_lt hb))
  have hcs : ∀ j v, (fs.map (Value.int .i64))[j]? = some v → W.cell? ⟨b, off + j, none⟩ = some v := fun j v hj => by
    have hjl := (List.getElem?_eq_some_iff.1 hj).1
    rw [List.length_map] at hjl
    rw [blk_cell hb, hx j hjl, ← List.getElem?_map]
    exact hj
  have hm' : maxLen = 9223372036854775807 := rfl
  by_cases hr : cap < fs.length + 1
  · by_cases he : i = fs.length
    · subst he
      exact ins_end_grow (some ⟨b, off, none⟩) cap hl hgw hc hr (fun e => by cases e) (fun a ha j v hj => by cases ha; rw [Addr.add_lit]; exact hcs j v hj) hvb _
    · refine (Any2.slices_Insert_int_grow Try.lays221 b off fs.length cap i vb 0 1 1 (fs.map (Value.int .i64)) [.int .i64 x] W (by omega) (by omega) hc hr (by omega) (by rw [List.length_map]) rfl hcs (vs_reads hvb) (fs_one fs) (vs_one x)).mono ?_
      rintro e w' ⟨rfl, rfl⟩
      have hG := grownCap_ge W (fs.length + 1) cap 3
      have hM := grownCap_le_maxLen W (fs.length + 1) cap 3 (by unfold maxLen; omega)
      have hi2 : i < fs.length := by omega
      have b0 := blk_drew (blk_new W (.cells (((fs.map (Value.int .i64)).take i).toArray ++ Builtin.zeroCells (Value.int .i64 0).cells (fs.length + 1 - i) ++ Builtin.zeroCells (Value.int .i64 0).cells (grownCap W (fs.length + 1) cap 3 - (fs.length + 1))) 3))
      have htk : (((fs.map (Value.int .i64)).take i).toArray).size = i := by rw [List.size_toArray, List.length_take, List.length_map]; omega
      obtain ⟨c1, h1, s1, g1⟩ := blk_setCells [Value.int .i64 x] i _ _ b0
      obtain ⟨c2, h2, s2, g2⟩ := blk_setCells ((fs.map (Value.int .i64)).drop i) (i + 1) _ c1 (blk_drew h1)
      have hdl : ((fs.map (Value.int .i64)).drop i).length = fs.length - i := by rw [List.length_drop, List.length_map]
      rw [Array.size_append, Array.size_append, zsize, zsize, htk] at s1
      have s1' : c1.size = grownCap W (fs.length + 1) cap 3 := by rw [s1]; omega
      refine ⟨_, rfl, Q_mk (off := 0) h2 hgw (insAt_len _ _ _ hi) hG (by rw [Nat.zero_add]; exact hM) (by rw [s2, s1', Nat.zero_add]; rfl) (fun j hj => ?_), ?_⟩
      · rw [Nat.zero_add, g2, insAt_get _ _ _ hi, hdl, s1']
        by_cases e1 : j < i
        · rw [if_neg (show ¬ (i + 1 ≤ j ∧ j < i + 1 + (fs.length - i) ∧ j < grownCap W (fs.length + 1) cap 3) by omega), g1, if_neg (by simp only [List.length_singleton]; omega), if_pos e1,
            Array.getElem?_append_left (by rw [Array.size_append, htk]; omega), Array.getElem?_append_left (by rw [htk]; exact e1), List.getElem?_toArray, List.getElem?_take, if_pos e1, List.getElem?_map]
        · by_cases e2 : j = i
          · rw [if_neg (show ¬ (i + 1 ≤ j ∧ j < i + 1 + (fs.length - i) ∧ j < grownCap W (fs.length + 1) cap 3) by omega), g1, Array.size_append, Array.size_append, zsize, zsize, htk,
              if_pos (by simp only [List.length_singleton]; omega), if_neg e1, if_pos e2, e2, Nat.sub_self]
            rfl
          · rw [if_pos (show i + 1 ≤ j ∧ j < i + 1 + (fs.length - i) ∧ j < grownCap W (fs.length + 1) cap 3 by omega), if_neg e1, if_neg e2, List.getElem?_drop, List.getElem?_map, show i + (j - (i + 1)) = j - 1 by omega]
      · refine grown_of ?_ _
        have k0 : Below W.heap.size W (W.alloc (.cells (((fs.map (Value.int .i64)).take i).toArray ++ Builtin.zeroCells (Value.int .i64 0).cells (fs.length + 1 - i) ++ Builtin.zeroCells (Value.int .i64 0).cells (grownCap W (fs.length + 1) cap 3 - (fs.length + 1))) 3)).drew := below_drew (below_alloc (Below.refl _ _) _)
        exact below_setCells' (Nat.le_refl _) _ _ (below_drew (below_setCells' (Nat.le_refl _) _ _ k0))
  · have hsp : ∀ j, j < fs.length + 1 → (W.cell? ⟨b, off + j, none⟩).isSome = true := fun j hj => by
      rw [blk_cell hb, Array.getElem?_eq_getElem (by omega)]
      rfl
    by_cases he : i = fs.length
    · subst he
      refine (Any2.slices_Insert_int_end_room Try.lays221 b off fs.length cap vb 0 1 1 [.int .i64 x] W (by omega) (by omega) (by omega) rfl (fun j hj => by rw [Nat.add_assoc]; exact hsp _ (by omega)) (fun j _ => blk_frozen hb _) (vs_reads hvb) (vs_one x)).mono ?_
      rintro e w' ⟨rfl, rfl⟩
      have q := Q_in (x := x) hb hg (Nat.le_refl fs.length) (by omega) hm hs hx
      have e0 : (fs.map (Value.int .i64)).drop fs.length = [] := by rw [List.drop_eq_nil_iff, List.length_map]; exact Nat.le_refl _
      rw [e0] at q
      exact ⟨_, rfl, q, grown_setCells b _ _ W⟩
    · refine (Any2.slices_Insert_int_shift Try.lays221 b off fs.length cap i vb 0 1 1 (fs.map (Value.int .i64)) [.int .i64 x] W (by omega) (by omega) (by omega) (by omega) hne (by rw [List.length_map]) rfl hcs hsp (fun j _ => blk_frozen hb _) (vs_reads hvb) (fs_one fs) (vs_one x)
        3 3 1 (off + cap) (by simp [World.shape?, hvb]) (by simp [World.shape?, hb, hs]) (by omega) (blk_frozen hvb _) (blk_frozen hvb _)).mono ?_
      rintro e w' ⟨rfl, rfl⟩
      exact ⟨_, rfl, Q_in (W := W.drew) hb hg hi (by omega) hm hs hx, grown_drew (grown2 b _ _ _ _ W.drew)⟩
end
end Go.Proofs.Ytibcbeibehaeeaa.Hand

/- slices.Insert and slices.BinarySearch at a row of ints: one contract each. The layings began as the kit's lay-plain text. -/
set_option linter.unusedVariables false
set_option linter.unusedSimpArgs false
namespace Go.Proofs
open Go.Shelf
def Try.laysNm225_ren : Go.Shelf.Ren := ⟨fun | 25 => 53 | 31 => 66 | 32 => 67 | 37 => 74 | n => n, fun | 22 => 61 | 3 => 3 | 4 => 4 | 40 => 38 | 0 => 0 | n => n, fun | n => n⟩
theorem Try.laysNm225 : Go.Proofs.Lays2.n25 Try.prog Try.laysNm225_ren := {
  mixed := by kernel_rfl
  f25 := Try.func53.trans (congrArg some (by kernel_rfl))
  f31 := Try.func66.trans (congrArg some (by kernel_rfl))
  f32 := Try.func67.trans (congrArg some (by kernel_rfl))
  f37 := Try.func74.trans (congrArg some (by kernel_rfl))
  t0 := Try.underlying0
  a0 := Try.isAgg0
  z0 := Try.sizeOf0
  v0 := Try.zeroValue0
  t3 := Try.underlying3
  a3 := Try.isAgg3
  z3 := Try.sizeOf3
  v3 := Try.zeroValue3
  t4 := Try.underlying4
  a4 := Try.isAgg4
  z4 := Try.sizeOf4
  v4 := Try.zeroValue4
  t22 := Try.underlying61
  a22 := Try.isAgg61
  z22 := Try.sizeOf61
  v22 := Try.zeroValue61
  t40 := Try.underlying38
  a40 := Try.isAgg38
  z40 := Try.sizeOf38
  v40 := Try.zeroValue38 }
open Go.RowKit Go.Lib in
theorem Try.slices_BinarySearch_int (b off n c : Nat) (zs : List Int) (x : Int) (w : World) (hz : n ≤ zs.length) (hbig : n < 4611686018427387904) (hc : ∀ j, j < zs.length → w.cell? ⟨b, off + j, none⟩ = some (.int .i64 (zs.getD j 0))) (hs : (zs.take n).Pairwise (· ≤ ·)) :
    Calls Try.prog 53 #[.slice (some ⟨b, off, none⟩) n c, .int .i64 x] w fun e w' => e = .returned (.tuple #[.int .i64 ((zs.take n).countP (· < x) : Nat), .bool ((zs.take n).contains x)]) ∧ ∃ q, w' = w.drewN q := Any.slices_BinarySearch_int Try.laysNm225 b off n c zs x w hz hbig hc hs
open Go.RowKit Go.Lib in
theorem Try.slices_BinarySearch_int_empty (a : Option Addr) (c : Nat) (x : Int) (w : World) :
    Calls Try.prog 53 #[.slice a 0 c, .int .i64 x] w fun e w' => e = .returned (.tuple #[.int .i64 0, .bool false]) ∧ w' = w := Any.slices_BinarySearch_int_empty Try.laysNm225 a c x w
end Go.Proofs
namespace Go.Proofs.Ytibcbeibehaeeaa.Hand
open Go.RowKit Go.Proofs.Ytibcbeibehaeeaa.PStorePlays Go.Proofs.YtibcbeibehaeeaaW.PrintWords Go.Proofs.YtibcbeibehaeeaaW.PrintLast Go.Proofs.YtibcbeibehaeeaaW.PrintMore
section
variable {W : World} {g : Nat} {fs : List Int} {x : Int} {vb : Nat} {v : Value}
/-- slices.Insert at a row of ints. -/
theorem ins_c (h : (Kd.int .i64).Q 3 W g (fun _ => True) v fs) (i : Nat) (hi : i ≤ fs.length) (hl : fs.length ≤ 4096) (hgw : g ≤ W.heap.size) (hvb : W.heap[vb]? = some (.cells #[.int .i64 x] 3 (0, 0))) (hne : some vb ≠ v.ownBlock) :
    Calls Try.prog 54 #[v, .int .i64 (i : Int), .slice (some ⟨vb, 0, none⟩) 1 1] W fun e w' => ∃ v', e = .returned v' ∧ (Kd.int .i64).Q 3 w' g (fun _ => True) v' (insAt fs i x) ∧ W.grownBy w' v.ownBlock := by
  rcases Q_un h with ⟨rfl, A, rfl, hA⟩ | ⟨b, off, cap, cur, rfl, hg, hb, hc, hm, hs, hx⟩
  · obtain rfl : i = 0 := by simpa using hi
    exact ins_end_grow (fs := []) A 0 (by simp) hgw (by simp) (by simp) (fun _ => rfl) (fun a _ j v hj => by simp at hj) hvb _
  · exact ins_row hb hg hi hc hm hs hx hl hvb (fun e => hne (by rw [e]; rfl))
/-- slices.BinarySearch at a row of ints that are sorted. -/
theorem bs_c (h : (Kd.int .i64).Q 3 W g (fun _ => True) v fs) (hso : fs.Pairwise (· ≤ ·)) (hl : fs.length ≤ 4096) (x : Int) :
    Calls Try.prog 53 #[v, .int .i64 x] W fun e w' => e = .returned (.tuple #[.int .i64 (fs.countP (· < x) : Nat), .bool (fs.contains x)]) ∧ ∃ q, w' = W.drewN q := by
  rcases Q_un h with ⟨rfl, A, rfl, hA⟩ | ⟨b, off, cap, cur, rfl, hg, hb, hc, hm, hs, hx⟩
  · exact (Try.slices_BinarySearch_int_empty A 0 x W).mono (by rintro e w' ⟨rfl, rfl⟩; exact ⟨rfl, 0, rfl⟩)
  · have k := Try.slices_BinarySearch_int b off fs.length cap fs x W (Nat.le_refl _) (by omega) (fun j hj => by
      rw [blk_cell hb, hx j hj, List.getElem?_eq_getElem hj, List.getD_eq_getElem?_getD, List.getElem?_eq_getElem hj]
      rfl) (by rw [List.take_length]; exact hso)
    rw [List.take_length] at k
    exact k
end
end Go.Proofs.Ytibcbeibehaeeaa.Hand

/- Package arena: Free, Fits. -/
set_option linter.unusedVariables false
set_option linter.unusedSimpArgs false
namespace Go.Proofs.Ytibcbeibehaeeaa.Hand
open Go.RowKit Go.Proofs.Ytibcbeibehaeeaa.PStorePlays Go.Proofs.YtibcbeibehaeeaaW.PrintWords Go.Proofs.YtibcbeibehaeeaaW.PrintLast Go.Proofs.YtibcbeibehaeeaaW.PrintMore
set_option maxHeartbeats 2000000 in
set_option maxRecDepth 100000 in
theorem afree_yes {W : World} {g : Nat} {cap lim chg : Int} {bv fv : Value} {bs : List S114} {fs : List Int} (h : Ar W g cap lim chg bv bs fv fs) (i : Nat) (gen : Int) (hl : bs.length ≤ 4096) (hn : Lives bs i gen) (fx : Int) (hfx : (bk bs i).f1 = fx) (gen' cx : Int) (hgen' : IntKind.u32.wrap (gen + 1) = gen') (hcx : IntKind.i64.wrap (chg - fx) = cx) (hso : fs.Pairwise (· ≤ ·)) (hfl : fs.length ≤ 4096) :
    Calls Try.prog 37 #[.pointer (some ⟨g, 0, none⟩), .agg #[.int .u32 (i : Int), .int .u32 gen]] W fun e w' => e = .returned (.bool true) ∧ ∃ fv', Ar w' g cap lim cx bv (bs.set i ⟨gen', 0, ⟨#[]⟩⟩) fv' (insAt fs (fs.countP (· < (i : Int))) i) ∧ Fr g W w' := by
  have HFX := Aside0.mk hfx
  obtain ⟨hi, hd, hg⟩ := hn
  obtain ⟨gb, cb, hbv, hcc, hff, hne, hlt2, hge, csb, hcb⟩ := h.elem i hi
  have e2 := hcc 2 _ rfl
  have e1 := hcc 1 _ rfl
  have e0 := hcc 0 _ rfl
  rw [Nat.add_zero, hg] at e0
  rw [hfx] at e1
  have HCB := Aside0.mk hcb
  have HN := Aside0.mk (And.intro hi (And.intro hd hg))
  have il : (i : Int) ≤ 4096 := by omega
  clear hcc hff hcb hfx hd hg
  subst hbv
  have HSO := Aside0.mk hso
  clear hso
  have HB := Aside0.mk (Below.refl W.heap.size W)
  have h5 := h.1
  obtain ⟨Af, cf, rfl, hfl2⟩ := h.fval
  have q0 := blk_cell h5 0
  have q1 := blk_cell h5 1
  have q2 := blk_cell h5 2
  have q3 := blk_cell h5 3
  have q4 := blk_cell h5 4
  have f1 := blk_frozen h5 1
  have f2 := blk_frozen h5 2
  have f3 := blk_frozen h5 3
  have f4 := blk_frozen h5 4
  have hlt := h.lt
  simp only [List.getElem?_toArray, List.getElem?_cons_zero, List.getElem?_cons_succ] at q0 q1 q2 q3 q4
  have H := Aside0.mk h
  clear h h5
  go_enter Try.func37, Try.ntmps37
  go_wp2_with (first | (go_at_call 52; (with_reducible refine (find_yes (H.out.below (by repeat (first | (with_reducible first | exact HB.out | apply below_alloc | apply pw_below_drewN | apply below_drew1) | exact HB.out))) i gen HN.out.1 hl HN.out.2.1 HN.out.2.2 gb cb rfl).mono ?_); rintro e w1 ⟨rfl, hb⟩; have B4 := Aside0.mk (blk_below (o := .cells #[.int .u32 (i : Int), .int .u32 gen] 79 (0, 0)) (g := W.heap.size) (by repeat (first | (with_reducible refine blk_drewN ?_ _) | (with_reducible refine blk_drew ?_) | exact blk_new' (by first | rfl | simp) | (with_reducible refine blk_alloc ?_ _))) hb); have n0_ := Aside0.mk (below_step (by repeat (first | (with_reducible first | exact HB.out | apply below_alloc | apply pw_below_drewN | apply below_drew1) | exact HB.out)) hb); clear HB; have HB := n0_; clear n0_; have HA := Aside0.mk (H.out.below HB.out); have z0 := pw_cell_below HB.out e0; have z1 := pw_cell_below HB.out e1; have z2 := pw_cell_below HB.out e2; have BB := blk_below HCB.out HB.out; have zf0 := blk_frozen BB (i * 3); have zf1 := blk_frozen BB (i * 3 + 1); have zf2 := blk_frozen BB (i * 3 + 2); have lb := blk_lt BB; clear q0 q1 q2 q3 q4 f1 f2 f3 f4 hlt e0 e1 e2; have q2 := blk_cell HA.out.1 2; have q4 := blk_cell HA.out.1 4; have f2 := blk_frozen HA.out.1 2; have f4 := blk_frozen HA.out.1 4; have hlt := HA.out.lt; have y0 := blk_cell B4.out 0; have y1 := blk_cell B4.out 1; have y4 := blk_lt B4.out; simp only [List.getElem?_toArray, List.getElem?_cons_zero, List.getElem?_cons_succ] at q2 q4 y0 y1; have x1 : W.heap.size ≠ g := blk_ne B4.out HA.out.1 (by decide); have x2 : W.heap.size ≠ gb := blk_ne B4.out BB (by decide); have x3 : gb ≠ g := blk_ne BB HA.out.1 (by decide); have x4 : g ≠ gb := (fun e => x3 e.symm); have x5 : g ≠ W.heap.size := (fun e => x1 e.symm); have x6 : gb ≠ W.heap.size := (fun e => x2 e.symm); have HBB := Aside0.mk BB; clear BB hb))
  go_region_law (fail)
  all_goals go_wp2
  all_goals have A1 := HA.out.put 2 (.int .i64 cx) rfl HA.out.2.1 HA.out.2.2
  all_goals have A2 := A1.bput i hi rfl 0 (by decide) (.int .u32 gen') ⟨gen', fx, (bk bs i).f2⟩ (by rw [HFX.out]; rfl)
  all_goals have hb2 : bk (bs.set i ⟨gen', fx, (bk bs i).f2⟩) i = ⟨gen', fx, (bk bs i).f2⟩ := by simp [bk, hi]
  all_goals have A3 := A2.1.bput i (by simpa using hi) (gb := gb) (cb := cb) (by rw [List.length_set]) 1 (by decide) (.int .i64 0) ⟨gen', 0, (bk bs i).f2⟩ (by rw [hb2]; rfl)
  all_goals rw [List.set_set] at A3
  all_goals have hb3 : bk (bs.set i ⟨gen', 0, (bk bs i).f2⟩) i = ⟨gen', 0, (bk bs i).f2⟩ := by simp [bk, hi]
  all_goals have A4 := A3.1.bput i (by simpa using hi) (gb := gb) (cb := cb) (by rw [List.length_set]) 2 (by decide) (.string ⟨#[]⟩) ⟨gen', 0, ⟨#[]⟩⟩ (by rw [hb3]; rfl)
  all_goals rw [List.set_set] at A4
  all_goals have F4 := ((((Fr.of_below HB.out).trans (HA.out.fr 2 (.int .i64 cx))).trans A2.2).trans A3.2).trans A4.2
  all_goals have B5 := blk_far (p := ⟨gb, i * 3 + 2, none⟩) (blk_far (p := ⟨gb, i * 3 + 1, none⟩) (blk_far (p := ⟨gb, i * 3 + 0, none⟩) (blk_far (p := ⟨g, 2, none⟩) B4.out x1 (.int .i64 cx)) x2 (.int .u32 gen')) x2 (.int .i64 0)) x2 (.string ⟨#[]⟩)
  all_goals clear q2 q4 f2 f4 hlt y0 y1 y4 z0 z1 z2 zf0 zf1 zf2 lb HBB A1 A2 A3
  all_goals rw [Nat.add_zero] at A4 F4 B5
  all_goals generalize ((((w1.setCell ⟨g, 2, none⟩ (.int .i64 cx)).setCell ⟨gb, i * 3, none⟩ (.int .u32 gen')).setCell ⟨gb, i * 3 + 1, none⟩ (.int .i64 0)).setCell ⟨gb, i * 3 + 2, none⟩ (.string ⟨#[]⟩)) = WX at A4 F4 B5 ⊢
  all_goals have AX := Aside0.mk A4.1
  all_goals have hltx := AX.out.lt
  all_goals have y4 := blk_lt B5
  all_goals have FX := Aside0.mk F4
  all_goals have BX := Aside0.mk B5
  all_goals clear A4 F4 B5 HA HB B4
  all_goals have q4 := blk_cell AX.out.1 4
  all_goals have y0 := blk_cell BX.out 0
  all_goals have y1 := blk_cell BX.out 1
  all_goals have f4 := blk_frozen AX.out.1 4
  all_goals simp only [List.getElem?_toArray, List.getElem?_cons_zero, List.getElem?_cons_succ] at q4 y0 y1
  all_goals have hwi : IntKind.i64.wrap (i : Int) = (i : Int) := IntWalk.i64_in _ ⟨by omega, by omega⟩
  all_goals go_quiet ((go_at_call 53; (try simp only [hwi]); exact (Calls.mono (bs_c (g := g) (Kd.Q_drewN AX.out.2.2 _) HSO.out hfl (i : Int)) (by rintro e w9 ⟨rfl, m, rfl⟩; exact ⟨rfl, _, by rw [World.drewN_drewN, Nat.add_assoc]⟩))))
  all_goals go_wp2
  all_goals have hCW : Below WX.heap.size WX ((WX.drewN (1 + nq + 1)).alloc (.cells #[.int .i64 (i : Int)] 3)) := (by repeat (first | (with_reducible first | exact Below.refl _ _ | apply below_alloc | apply pw_below_drewN | apply below_drew1 | apply below_drew) | exact Below.refl _ _))
  all_goals have AY := Aside0.mk (Ar.below AX.out hCW)
  all_goals have FY := Aside0.mk (FX.out.trans (Fr.of_below hCW))
  all_goals have qy := blk_cell AY.out.1 4
  all_goals have yy := blk_cell (blk_below BX.out hCW) 0
  all_goals simp only [List.getElem?_toArray, List.getElem?_cons_zero, List.getElem?_cons_succ] at qy yy
  all_goals clear hCW
  all_goals go_region_law ((refine goes_ Try.func54 (by kernel_rfl) rfl #[.slice Af fs.length cf, .int .i64 (fs.countP (· < (i : Int)) : Nat), .slice (some ⟨WX.heap.size, 0, none⟩) 1 1] (by rfl) rfl rfl (by simp only [List.map_toArray, List.map_cons, List.map_nil]; rfl) ?_; refine (ins_c (g := g) (vb := WX.heap.size) (x := (i : Int)) AY.out.2.2 (fs.countP (· < (i : Int))) List.countP_le_length hfl (Nat.le_of_lt AY.out.lt) (blk_new' rfl) (fun e => absurd (Kd.Q_lt AX.out.2.2 _ e.symm) (Nat.lt_irrefl _))).mono ?_; rintro e w9 ⟨v9, rfl, hQ, hG⟩; refine ⟨_, rfl, ?_⟩; obtain ⟨A9, c9, e9, _⟩ := Kd.Q_slice hQ; subst e9; have l9 := Nat.lt_of_lt_of_le AY.out.lt hG.size; have K9 := Aside0.mk (blk_grown AY.out.1 hG (Kd.Q_ne AY.out.2.2 AY.out.1 (by decide))); have R9 := Aside0.mk (Kd.R_over' AY.out.2.1 (Kd.Q_typed AY.out.2.2) (by decide) hG); have F9 := Aside0.mk (FY.out.trans (Fr.grown hG AY.out.fown)); have Q9 := Aside0.mk hQ; clear q4 f4 y0 y1 hQ hG; have q4 := blk_cell K9.out 4; have f4 := blk_frozen K9.out 4; simp only [List.getElem?_toArray, List.getElem?_cons_zero, List.getElem?_cons_succ] at q4))
  all_goals go_wp2
  all_goals go_ret
  all_goals exact ⟨rfl, _, Ar.mk' K9.out 4 _ rfl R9.out Q9.out, F9.out.trans (Fr.set K9.out (.inl rfl) (Nat.le_refl g) 4 _)⟩
set_option maxHeartbeats 1000000 in
set_option maxRecDepth 100000 in
theorem afree_no {W : World} {g : Nat} {cap lim chg : Int} {bv fv : Value} {bs : List S114} {fs : List Int} (h : Ar W g cap lim chg bv bs fv fs) (i : Nat) (gen : Int) (hl : bs.length ≤ 4096) (hi : i ≤ 4294967295) (hn : ¬ Lives bs i gen) :
    Calls Try.prog 37 #[.pointer (some ⟨g, 0, none⟩), .agg #[.int .u32 (i : Int), .int .u32 gen]] W fun e w' => e = .returned (.bool false) ∧ Below W.heap.size W w' := by
  have HB := Aside0.mk (Below.refl W.heap.size W)
  have h5 := h.1
  obtain ⟨Ab, cb, rfl⟩ := h.bval
  obtain ⟨Af, cf, rfl, hfl⟩ := h.fval
  have q0 := blk_cell h5 0
  have q1 := blk_cell h5 1
  have q2 := blk_cell h5 2
  have q3 := blk_cell h5 3
  have q4 := blk_cell h5 4
  have f1 := blk_frozen h5 1
  have f2 := blk_frozen h5 2
  have f3 := blk_frozen h5 3
  have f4 := blk_frozen h5 4
  have hlt := h.lt
  simp only [List.getElem?_toArray, List.getElem?_cons_zero, List.getElem?_cons_succ] at q0 q1 q2 q3 q4
  have H := Aside0.mk h
  clear h h5
  have HN := Aside0.mk hn
  clear hn
  go_enter Try.func37, Try.ntmps37
  go_wp2_with (first | (go_at_call 52; (with_reducible refine (find_no (H.out.below (by repeat (first | (with_reducible first | exact HB.out | apply below_alloc | apply pw_below_drewN | apply below_drew1) | exact HB.out))) i gen hl hi HN.out).mono ?_); rintro e w1 ⟨rfl, hb⟩; have n0_ := Aside0.mk (below_step (by repeat (first | (with_reducible first | exact HB.out | apply below_alloc | apply pw_below_drewN | apply below_drew1) | exact HB.out)) hb); clear HB; have HB := n0_; clear n0_))
  go_ret
  exact ⟨rfl, (by repeat (first | (with_reducible first | exact HB.out | apply below_alloc | apply pw_below_drewN | apply below_drew1) | exact HB.out))⟩
end Go.Proofs.Ytibcbeibehaeeaa.Hand

/- Rows of handles; ArenaSlots: its walk. -/
set_option linter.unusedVariables false
set_option linter.unusedSimpArgs false
namespace Go.Proofs.Ytibcbeibehaeeaa.Hand
open Go.RowKit Go.Proofs.Ytibcbeibehaeeaa.PStorePlays Go.Proofs.YtibcbeibehaeeaaW.PrintWords Go.Proofs.YtibcbeibehaeeaaW.PrintLast Go.Proofs.YtibcbeibehaeeaaW.PrintMore
theorem infoH : (Try.prog.info? 79).map (fun i => (i.zero, i.size, i.bytes)) = some (some (.agg #[.int .u32 0, .int .u32 0]), 2, 8) := by kernel_rfl
def kH : Kd (Int × Int) := Kd.pair (Kd.int .u32) (Kd.int .u32)
/-- A row of handles. -/
def HRow (W : World) (base : Nat) (v : Value) (xs : List (Int × Int)) : Prop := kH.R 79 W base (fun _ => True) v xs
section
variable {W W1 : World} {g base : Nat} {v : Value} {xs : List (Int × Int)}
theorem HRow.none_ (W : World) (base : Nat) : HRow W base (.slice none 0 0) [] := Kd.R_nil _ _ _ _ _
theorem HRow.below (h : HRow W base v xs) (hb : Below W.heap.size W W1) : HRow W1 base v xs := Kd.R_below h hb
theorem HRow.fr (h : HRow W base v xs) (hF : Fr g W W1) : HRow W1 base v xs := hF.row h (by
  intro q hq
  have : q = 79 := by simpa [kH, Kd.pair, Kd.int, Kd.scalar] using hq
  subst this
  unfold AT; decide)
theorem HRow.typed (h : HRow W base v xs) : ∀ k, v.ownBlock = some k → ∃ cells, W.heap[k]? = some (.cells cells 79 (0, 0)) := Kd.R_typed h
theorem HRow.slice (h : HRow W base v xs) : ∃ A c, v = .slice A xs.length c := Kd.R_slice h
theorem HRow.addr (h : HRow W base v xs) (h0 : 0 < xs.length) : ∃ gb cb, v = .slice (some ⟨gb, 0, none⟩) xs.length cb := by
  obtain ⟨inner, ho⟩ := Kd.R_own h
  obtain ⟨gb, cb, e, _, _⟩ := ho.form h0
  exact ⟨gb, cb, e⟩
theorem HRow.at_ {gb n cb : Nat} (h : HRow W base (.slice (some ⟨gb, 0, none⟩) n cb) xs) (i : Nat) (hi : i < n) (p q : Int) (hp : xs.getD i (0, 0) = (p, q)) : W.cell? ⟨gb, i * 2, none⟩ = some (.int .u32 p) ∧ W.cell? ⟨gb, i * 2 + 1, none⟩ = some (.int .u32 q) ∧ gb < W.heap.size := by
  obtain ⟨c, hc, hM, hcc, hff⟩ := Kd.R_elem h (0, 0) (i : Int) (by omega) (by omega)
  rw [Int.toNat_natCast] at hM hcc
  rw [hp] at hM
  obtain ⟨_, _, rfl, rfl, rfl⟩ := hM
  have e0 := hcc 0 _ rfl
  have e1 := hcc 1 _ rfl
  obtain ⟨cells, hcl⟩ := HRow.typed h gb rfl
  exact ⟨e0, e1, blk_lt hcl⟩
end
/-- Another row, of none of its types, has been written: the arena is as it was. -/
theorem Ar.over {W W1 : World} {g : Nat} {cap lim chg : Int} {bv fv v : Value} {bs : List S114} {fs : List Int} {e' : Nat} (h : Ar W g cap lim chg bv bs fv fs) (hty : ∀ k, v.ownBlock = some k → ∃ cells, W.heap[k]? = some (.cells cells e' (0, 0))) (hq : ¬ AT e') (hg : W.grownBy W1 v.ownBlock) : Ar W1 g cap lim chg bv bs fv fs := by
  refine ⟨blk_grown h.1 hg ?_, Kd.R_over' h.2.1 hty ?_ hg, Kd.Q_over' h.2.2 hty ?_ hg⟩
  · intro e
    obtain ⟨cells, hc⟩ := hty g e.symm
    have h1 := h.1
    rw [hc] at h1
    injection h1 with h1
    injection h1 with _ e
    exact hq (.inl e)
  · intro q hq' e
    subst e
    exact hq (by
      have : q = 114 := by simpa [k114, Kd.iso, Kd.pair, Kd.int, Kd.string, Kd.scalar] using hq'
      exact .inr (.inl this))
  · intro q hq' e
    subst e
    exact hq (by
      have : q = 3 := by simpa [Kd.int, Kd.scalar] using hq'
      exact .inr (.inr this))
/-- The handles of so many blocks, none of which was freed. -/
def hxs (n : Nat) : List (Int × Int) := (List.range n).map (fun j : Nat => ((j : Int), (1 : Int)))
theorem hxs_succ (n : Nat) : hxs (n + 1) = hxs n ++ [((n : Int), 1)] := by simp [hxs, List.range_succ]
theorem hxs_len (n : Nat) : (hxs n).length = n := by simp [hxs]
theorem hxs_get (n k : Nat) (hk : k < n) : (hxs n).getD k (0, 0) = ((k : Int), 1) := by simp [hxs, hk]
theorem bk_rep (n k : Nat) (x : S114) (h : k < n) : bk (List.replicate n x) k = x := by simp [bk, h]
theorem bk_set (bs : List S114) (k : Nat) (x : S114) (h : k < bs.length) : bk (bs.set k x) k = x := by simp [bk, h]
theorem lives_rep (n k : Nat) (x : S114) (gen : Int) (h : k < n) (hx : 0 < x.f1) (hg : x.f0 = gen) : Lives (List.replicate n x) k gen := ⟨by rw [List.length_replicate]; exact h, by rw [bk_rep _ _ _ h]; exact hx, by rw [bk_rep _ _ _ h]; exact hg⟩
theorem live_at {W : World} {g : Nat} {cap lim chg : Int} {bv fv : Value} {bs : List S114} {fs : List Int} (h : Ar W g cap lim chg bv bs fv fs) (hb : bs.length ≤ 4096) (hf : fs.length ≤ 4096) (n : Int) (hn : (bs.length : Int) - (fs.length : Int) = n) : Calls Try.prog 30 #[.pointer (some ⟨g, 0, none⟩)] W fun e w' => e = .returned (.int .i64 n) ∧ Below W.heap.size W w' := by
  subst hn
  exact live_c h hb hf
/-- An empty text in a new slot, where all slots are so. -/
theorem alloc_rep {W : World} {g : Nat} {cap lim : Int} {bv fv : Value} (i : Nat) (h : Ar W g cap lim (16 * (i : Int)) bv (List.replicate i ⟨1, 16, ⟨#[]⟩⟩) fv []) (hi : i < 4096) (hl : 16 * (i : Int) + 16 ≤ lim) :
    Calls Try.prog 33 #[.pointer (some ⟨g, 0, none⟩), .string ⟨#[]⟩] W fun e w' => e = .returned (.tuple #[.agg #[.int .u32 (i : Int), .int .u32 1], .int .i64 0]) ∧ ∃ bv' fv', Ar w' g cap lim (16 * ((i + 1 : Nat) : Int)) bv' (List.replicate (i + 1) ⟨1, 16, ⟨#[]⟩⟩) fv' [] ∧ Fr g W w' := by
  refine (alloc_new h ⟨#[]⟩ 16 (by decide) (by decide) hl (by decide) (by decide) (by omega) (by omega) (by simpa using hi)).mono ?_
  rintro e w' ⟨rfl, bv', fv', hA, hF⟩
  rw [List.length_replicate]
  refine ⟨rfl, bv', fv', ?_, hF⟩
  rw [show (16 * ((i + 1 : Nat) : Int)) = 16 * (i : Int) + 16 by omega, List.replicate_succ']
  exact hA
end Go.Proofs.Ytibcbeibehaeeaa.Hand

/- Arenas, all told: the free slots and the sum are told by the blocks. -/
set_option linter.unusedVariables false
set_option linter.unusedSimpArgs false
namespace Go.Proofs.Ytibcbeibehaeeaa.Hand
open Go.RowKit Go.Proofs.Ytibcbeibehaeeaa.PStorePlays Go.Proofs.YtibcbeibehaeeaaW.PrintWords Go.Proofs.YtibcbeibehaeeaaW.PrintLast Go.Proofs.YtibcbeibehaeeaaW.PrintMore

/-- The slots that are free, from slot k on. -/
def freeFrom : Nat → List S114 → List Int
  | _, [] => []
  | k, b :: r => if b.f1 ≤ 0 then (k : Int) :: freeFrom (k + 1) r else freeFrom (k + 1) r
def freeOf (bs : List S114) : List Int := freeFrom 0 bs
def sumOf : List S114 → Int
  | [] => 0
  | b :: r => b.f1 + sumOf r
/-- How many blocks live. -/
def liveOf : List S114 → Nat
  | [] => 0
  | b :: r => (if b.f1 ≤ 0 then 0 else 1) + liveOf r
structure Good (bs : List S114) : Prop where
  len : bs.length ≤ 4096
  ok : ∀ b ∈ bs, 0 ≤ b.f1 ∧ b.f1 ≤ 1024
theorem freeFrom_app : ∀ (a b : List S114) (k : Nat), freeFrom k (a ++ b) = freeFrom k a ++ freeFrom (k + a.length) b
  | [], b, k => by simp [freeFrom]
  | x :: r, b, k => by
    have := freeFrom_app r b (k + 1)
    simp only [List.cons_append, freeFrom, this, List.length_cons]
    rw [show k + 1 + r.length = k + (r.length + 1) by omega]
    split <;> simp
theorem sumOf_app : ∀ (a b : List S114), sumOf (a ++ b) = sumOf a + sumOf b
  | [], b => by simp [sumOf]
  | x :: r, b => by
    have := sumOf_app r b
    simp only [List.cons_append, sumOf, this]
    omega
theorem liveOf_app : ∀ (a b : List S114), liveOf (a ++ b) = liveOf a + liveOf b
  | [], b => by simp [liveOf]
  | x :: r, b => by
    have := liveOf_app r b
    simp only [List.cons_append, liveOf, this]
    omega
theorem live_free : ∀ (a : List S114) (k : Nat), (freeFrom k a).length + liveOf a = a.length
  | [], k => rfl
  | x :: r, k => by
    have := live_free r (k + 1)
    simp only [freeFrom, liveOf, List.length_cons]
    split
    · simp only [List.length_cons]; omega
    · omega
theorem freeFrom_bd : ∀ (a : List S114) (k : Nat), ∀ x ∈ freeFrom k a, (k : Int) ≤ x ∧ x < k + a.length
  | [], k, x, h => by simp [freeFrom] at h
  | b :: r, k, x, h => by
    have ih := freeFrom_bd r (k + 1)
    simp only [freeFrom] at h
    simp only [List.length_cons]
    split at h
    · rcases List.mem_cons.1 h with rfl | h
      · omega
      · have := ih x h; omega
    · have := ih x h; omega
theorem freeFrom_sorted : ∀ (a : List S114) (k : Nat), (freeFrom k a).Pairwise (· ≤ ·)
  | [], k => List.Pairwise.nil
  | b :: r, k => by
    have ih := freeFrom_sorted r (k + 1)
    simp only [freeFrom]
    split
    · refine List.Pairwise.cons (fun x hx => ?_) ih
      have := freeFrom_bd r (k + 1) x hx
      omega
    · exact ih
theorem free_len (bs : List S114) : (freeOf bs).length ≤ bs.length := by
  have := live_free bs 0
  unfold freeOf
  omega
theorem sumOf_bd : ∀ (a : List S114), (∀ b ∈ a, 0 ≤ b.f1 ∧ b.f1 ≤ 1024) → 0 ≤ sumOf a ∧ sumOf a ≤ 1024 * a.length
  | [], _ => by simp [sumOf]
  | b :: r, h => by
    have ih := sumOf_bd r (fun x hx => h x (List.mem_cons_of_mem _ hx))
    have := h b List.mem_cons_self
    simp only [sumOf, List.length_cons]
    omega
theorem Good.sum {bs : List S114} (h : Good bs) : 0 ≤ sumOf bs ∧ sumOf bs ≤ 4194304 := by
  have := sumOf_bd bs h.ok
  have := h.len
  omega
/-- A slot in the midst. -/
theorem split_at (bs : List S114) (i : Nat) (hi : i < bs.length) : ∃ a c, bs = a ++ bk bs i :: c ∧ a.length = i ∧ ∀ x, bs.set i x = a ++ x :: c := by
  have e1 : bs = bs.take i ++ bk bs i :: bs.drop (i + 1) := by
    have : bk bs i = bs[i] := by simp [bk, hi]
    rw [this, ← List.drop_eq_getElem_cons hi, List.take_append_drop]
  refine ⟨bs.take i, bs.drop (i + 1), e1, by simp; omega, fun x => ?_⟩
  rw [List.set_eq_take_append_cons_drop, if_pos hi]
theorem sum_set (bs : List S114) (i : Nat) (hi : i < bs.length) (x : S114) : sumOf (bs.set i x) = sumOf bs - (bk bs i).f1 + x.f1 := by
  obtain ⟨a, c, h1, h2, h3⟩ := split_at bs i hi
  rw [h3 x]
  have : sumOf bs = sumOf (a ++ bk bs i :: c) := by rw [← h1]
  rw [this, sumOf_app, sumOf_app]
  simp only [sumOf]
  omega
theorem live_set (bs : List S114) (i : Nat) (hi : i < bs.length) (x : S114) : (liveOf (bs.set i x) : Int) = liveOf bs - (if (bk bs i).f1 ≤ 0 then 0 else 1) + (if x.f1 ≤ 0 then 0 else 1) := by
  obtain ⟨a, c, h1, h2, h3⟩ := split_at bs i hi
  rw [h3 x]
  have : liveOf bs = liveOf (a ++ bk bs i :: c) := by rw [← h1]
  rw [this, liveOf_app, liveOf_app]
  simp only [liveOf]
  split <;> split <;> omega
theorem free_head {bs : List S114} {i : Int} {r : List Int} (h : freeOf bs = i :: r) : ∃ n : Nat, i = (n : Int) ∧ n < bs.length ∧ (bk bs n).f1 ≤ 0 ∧ (∀ j, j < n → 0 < (bk bs j).f1) ∧ ∀ x : S114, 0 < x.f1 → freeOf (bs.set n x) = r := by
  have key : ∀ (a : List S114) (k : Nat), freeFrom k a = i :: r → ∃ n : Nat, i = ((k + n : Nat) : Int) ∧ n < a.length ∧ (bk a n).f1 ≤ 0 ∧ (∀ j, j < n → 0 < (bk a j).f1) ∧ ∀ x : S114, 0 < x.f1 → freeFrom k (a.set n x) = r := by
    intro a
    induction a with
    | nil => intro k h; simp [freeFrom] at h
    | cons b t ih =>
      intro k h
      simp only [freeFrom] at h
      split at h
      · rename_i hb
        injection h with h1 h2
        refine ⟨0, by simpa using h1.symm, by simp, by simpa [bk] using hb, fun j hj => by omega, fun x hx => ?_⟩
        simp only [List.set_cons_zero, freeFrom]
        rw [if_neg (by omega)]
        exact h2
      · rename_i hb
        obtain ⟨n, e, h1, h2, h3, h4⟩ := ih (k + 1) h
        refine ⟨n + 1, by rw [e]; congr 1; omega, by simpa using h1, by simpa [bk] using h2, fun j hj => ?_, fun x hx => ?_⟩
        · cases j with
          | zero => simp [bk]; omega
          | succ j => have := h3 j (by omega); simpa [bk] using this
        · simp only [List.set_cons_succ, freeFrom]
          rw [if_neg hb]
          exact h4 x hx
  obtain ⟨n, e, h1⟩ := key bs 0 h
  rw [Nat.zero_add] at e
  exact ⟨n, e, h1⟩
theorem free_nil {bs : List S114} (h : freeOf bs = []) : ∀ j, j < bs.length → 0 < (bk bs j).f1 := by
  have key : ∀ (a : List S114) (k : Nat), freeFrom k a = [] → ∀ j, j < a.length → 0 < (bk a j).f1 := by
    intro a
    induction a with
    | nil => intro k h j hj; simp at hj
    | cons b t ih =>
      intro k h j hj
      simp only [freeFrom] at h
      split at h
      · simp at h
      · cases j with
        | zero => simp [bk]; omega
        | succ j => have := ih (k + 1) h j (by simpa using hj); simpa [bk] using this
  exact key bs 0 h
theorem free_snoc {bs : List S114} (h : freeOf bs = []) (x : S114) (hx : 0 < x.f1) : freeOf (bs ++ [x]) = [] := by
  unfold freeOf at *
  rw [freeFrom_app, h]
  simp only [freeFrom]
  rw [if_neg (by omega)]
  rfl
theorem countP_all {l : List Int} {x : Int} (h : ∀ y ∈ l, y < x) : l.countP (· < x) = l.length := by
  rw [List.countP_eq_length]
  intro y hy
  simpa using h y hy
theorem countP_none {l : List Int} {x : Int} (h : ∀ y ∈ l, x ≤ y) : l.countP (· < x) = 0 := by
  rw [List.countP_eq_zero]
  intro y hy
  have := h y hy
  simp; omega
theorem free_set (bs : List S114) (i : Nat) (hi : i < bs.length) (hl : 0 < (bk bs i).f1) (x : S114) (hx : x.f1 ≤ 0) : freeOf (bs.set i x) = insAt (freeOf bs) ((freeOf bs).countP (· < (i : Int))) i := by
  obtain ⟨a, c, h1, h2, h3⟩ := split_at bs i hi
  have e : freeOf bs = freeFrom 0 a ++ freeFrom (i + 1) c := by
    have : freeOf bs = freeOf (a ++ bk bs i :: c) := by rw [← h1]
    rw [this]
    unfold freeOf
    rw [freeFrom_app, h2]
    simp only [freeFrom, Nat.zero_add]
    rw [if_neg (by omega)]
  have b1 : ∀ y ∈ freeFrom 0 a, y < (i : Int) := fun y hy => by have := freeFrom_bd a 0 y hy; omega
  have b2 : ∀ y ∈ freeFrom (i + 1) c, (i : Int) ≤ y := fun y hy => by have := freeFrom_bd c (i + 1) y hy; omega
  rw [h3 x, e, List.countP_append, countP_all b1, countP_none b2]
  unfold freeOf insAt
  rw [freeFrom_app, h2]
  simp only [freeFrom, Nat.zero_add, Nat.add_zero]
  rw [if_pos hx]
  simp
theorem free_same (bs : List S114) (i : Nat) (hi : i < bs.length) (x : S114) (hx : x.f1 = (bk bs i).f1) : freeOf (bs.set i x) = freeOf bs := by
  obtain ⟨a, c, h1, h2, h3⟩ := split_at bs i hi
  have : freeOf bs = freeOf (a ++ bk bs i :: c) := by rw [← h1]
  rw [h3 x, this]
  unfold freeOf
  rw [freeFrom_app, freeFrom_app]
  simp only [freeFrom, hx]
theorem bk_mem {bs : List S114} {i : Nat} (hi : i < bs.length) : bk bs i ∈ bs := by
  have : bk bs i = bs[i] := by simp [bk, hi]
  rw [this]
  exact List.getElem_mem hi
theorem Good.set {bs : List S114} (h : Good bs) (i : Nat) (x : S114) (h0 : 0 ≤ x.f1) (h1 : x.f1 ≤ 1024) : Good (bs.set i x) :=
  ⟨by rw [List.length_set]; exact h.len, fun b hb => by
    rcases List.mem_or_eq_of_mem_set hb with hb | rfl
    · exact h.ok b hb
    · exact ⟨h0, h1⟩⟩
theorem Good.snoc {bs : List S114} (h : Good bs) (x : S114) (hl : bs.length < 4096) (h0 : 0 ≤ x.f1) (h1 : x.f1 ≤ 1024) : Good (bs ++ [x]) :=
  ⟨by simp; omega, fun b hb => by
    rcases List.mem_append.1 hb with hb | hb
    · exact h.ok b hb
    · obtain rfl := List.mem_singleton.1 hb
      exact ⟨h0, h1⟩⟩
theorem Good.nil : Good [] := ⟨by simp, fun b hb => by simp at hb⟩

/-! What an arena's methods come to. -/
/-- The slot, the generation, the error. -/
def allocE (lim : Int) (bs : List S114) (n : Nat) : Int × Int × Int :=
  if fit (n : Int) = false then (0, 0, 1)
  else if lim < sumOf bs + rnd (n : Int) then (0, 0, 9)
  else match freeOf bs with
    | i :: _ => (i, (bk bs i.toNat).f0, 0)
    | [] => if bs.length = 4096 then (0, 0, 11) else ((bs.length : Int), 1, 0)
def allocB (lim : Int) (bs : List S114) (s : ByteArray) : List S114 :=
  if fit (s.size : Int) = false then bs
  else if lim < sumOf bs + rnd (s.size : Int) then bs
  else match freeOf bs with
    | i :: _ => bs.set i.toNat ⟨(bk bs i.toNat).f0, rnd (s.size : Int), s⟩
    | [] => if bs.length = 4096 then bs else bs ++ [⟨1, rnd (s.size : Int), s⟩]
def livesB (bs : List S114) (i : Nat) (gen : Int) : Bool := decide (i < bs.length) && (decide (0 < (bk bs i).f1) && ((bk bs i).f0 == gen))
theorem lives_iff (bs : List S114) (i : Nat) (gen : Int) : livesB bs i gen = true ↔ Lives bs i gen := by
  unfold livesB Lives; simp
theorem lives_not (bs : List S114) (i : Nat) (gen : Int) : livesB bs i gen = false ↔ ¬ Lives bs i gen := by
  rw [← lives_iff]; simp
def getE (bs : List S114) (i : Nat) (gen : Int) : ByteArray := if livesB bs i gen then (bk bs i).f2 else ⟨#[]⟩
def putO (bs : List S114) (i : Nat) (gen : Int) (s : ByteArray) : Bool := livesB bs i gen && decide ((s.size : Int) ≤ (bk bs i).f1)
def putB (bs : List S114) (i : Nat) (gen : Int) (s : ByteArray) : List S114 := if putO bs i gen s then bs.set i ⟨(bk bs i).f0, (bk bs i).f1, s⟩ else bs
def freeB (bs : List S114) (i : Nat) (gen : Int) : List S114 := if livesB bs i gen then bs.set i ⟨IntKind.u32.wrap (gen + 1), 0, ⟨#[]⟩⟩ else bs
def limE (cap : Int) (bs : List S114) (n : Int) : Int := if n < 0 ∨ cap < n then 1 else if n < sumOf bs then 9 else 0
def limL (cap lim : Int) (bs : List S114) (n : Int) : Int := if n < 0 ∨ cap < n then lim else if n < sumOf bs then lim else n
def fitsB (lim : Int) (bs : List S114) (l : List Int) : Bool := (sumV l).2 && decide (sumOf bs + (sumV l).1 ≤ lim)
/-- An arena with such blocks. -/
def AX (W : World) (g : Nat) (cap lim : Int) (bs : List S114) : Prop := ∃ bv fv, Ar W g cap lim (sumOf bs) bv bs fv (freeOf bs)
section
variable {W W1 : World} {g : Nat} {cap lim : Int} {bs : List S114}
theorem AX.below (h : AX W g cap lim bs) (hb : Below W.heap.size W W1) : AX W1 g cap lim bs := by
  obtain ⟨bv, fv, h⟩ := h
  exact ⟨bv, fv, h.below hb⟩
theorem AX.lt (h : AX W g cap lim bs) : g < W.heap.size := by
  obtain ⟨bv, fv, h⟩ := h
  exact h.lt
theorem AX.over {v : Value} {e' : Nat} (h : AX W g cap lim bs) (hty : ∀ k, v.ownBlock = some k → ∃ cells, W.heap[k]? = some (.cells cells e' (0, 0))) (hq : ¬ AT e') (hg : W.grownBy W1 v.ownBlock) : AX W1 g cap lim bs := by
  obtain ⟨bv, fv, h⟩ := h
  exact ⟨bv, fv, h.over hty hq hg⟩
theorem AX.other {b q : Nat} {cs : Array Value} (h : AX W g cap lim bs) (hb : W.heap[b]? = some (.cells cs q (0, 0))) (hq : ¬ AT q) (j : Nat) (v : Value) : AX (W.setCell ⟨b, j, none⟩ v) g cap lim bs := by
  obtain ⟨bv, fv, h⟩ := h
  exact ⟨bv, fv, h.other hb hq j v⟩
theorem x_charged (h : AX W g cap lim bs) : Calls Try.prog 25 #[.pointer (some ⟨g, 0, none⟩)] W fun e w' => e = .returned (.int .i64 (sumOf bs)) ∧ Below W.heap.size W w' := by
  obtain ⟨bv, fv, h⟩ := h
  exact charged_c h
theorem x_limit (h : AX W g cap lim bs) : Calls Try.prog 31 #[.pointer (some ⟨g, 0, none⟩)] W fun e w' => e = .returned (.int .i64 lim) ∧ Below W.heap.size W w' := by
  obtain ⟨bv, fv, h⟩ := h
  exact limit_c h
theorem x_live (h : AX W g cap lim bs) (hg : Good bs) : Calls Try.prog 30 #[.pointer (some ⟨g, 0, none⟩)] W fun e w' => e = .returned (.int .i64 (liveOf bs : Int)) ∧ Below W.heap.size W w' := by
  obtain ⟨bv, fv, h⟩ := h
  have hf := free_len bs
  have hl := hg.len
  refine (live_c h hl (by omega)).mono ?_
  rintro e w' ⟨rfl, hb⟩
  have := live_free bs 0
  unfold freeOf
  rw [show (bs.length : Int) - ((freeFrom 0 bs).length : Int) = (liveOf bs : Int) by omega]
  exact ⟨rfl, hb⟩
theorem x_new (n : Int) (w : World) (h0 : 0 ≤ n) (h1 : n ≤ 16777216) : Calls Try.prog 8 #[.int .i64 n] w fun e w' => e = .returned (.pointer (some ⟨w.heap.size, 0, none⟩)) ∧ AX w' w.heap.size n n [] ∧ Below w.heap.size w w' := by
  refine (anew_yes n w h0 h1).mono ?_
  rintro e w' ⟨rfl, hA, hb⟩
  exact ⟨rfl, ⟨_, _, hA⟩, hb⟩
theorem x_get (h : AX W g cap lim bs) (hg : Good bs) (i : Nat) (gen : Int) (hi : i ≤ 4294967295) : Calls Try.prog 39 #[.pointer (some ⟨g, 0, none⟩), .agg #[.int .u32 (i : Int), .int .u32 gen]] W fun e w' => e = .returned (.tuple #[.string (getE bs i gen), .bool (livesB bs i gen)]) ∧ Below W.heap.size W w' := by
  obtain ⟨bv, fv, h⟩ := h
  cases hl : livesB bs i gen
  · refine (aget_no h i gen hg.len hi ((lives_not _ _ _).1 hl)).mono ?_
    rintro e w' ⟨rfl, hb⟩
    unfold getE
    rw [hl]
    exact ⟨rfl, hb⟩
  · refine (aget_yes h i gen hg.len ((lives_iff _ _ _).1 hl) _ rfl _ rfl).mono ?_
    rintro e w' ⟨rfl, hb⟩
    unfold getE
    rw [hl]
    exact ⟨rfl, hb⟩
theorem x_free (h : AX W g cap lim bs) (hg : Good bs) (i : Nat) (gen : Int) (hi : i ≤ 4294967295) : Calls Try.prog 37 #[.pointer (some ⟨g, 0, none⟩), .agg #[.int .u32 (i : Int), .int .u32 gen]] W fun e w' => e = .returned (.bool (livesB bs i gen)) ∧ AX w' g cap lim (freeB bs i gen) ∧ Fr g W w' := by
  obtain ⟨bv, fv, h⟩ := h
  unfold freeB
  cases hl : livesB bs i gen
  · refine (afree_no h i gen hg.len hi ((lives_not _ _ _).1 hl)).mono ?_
    rintro e w' ⟨rfl, hb⟩
    exact ⟨rfl, ⟨bv, fv, h.below hb⟩, Fr.of_below hb⟩
  · have hL := (lives_iff _ _ _).1 hl
    have hS := hg.sum
    have hO := hg.ok _ (bk_mem hL.1)
    have hfl := free_len bs
    have hlen := hg.len
    refine (afree_yes h i gen hg.len hL _ rfl (IntKind.u32.wrap (gen + 1)) (sumOf bs - (bk bs i).f1) rfl (IntWalk.i64_in _ (by omega)) (freeFrom_sorted bs 0) (by omega)).mono ?_
    rintro e w' ⟨rfl, fv', hA, hF⟩
    refine ⟨rfl, ⟨bv, fv', ?_⟩, hF⟩
    rw [if_pos rfl, sum_set bs i hL.1, free_set bs i hL.1 hL.2.1 _ (Int.le_refl 0), Int.add_zero]
    exact hA
theorem x_alloc (h : AX W g cap lim bs) (hg : Good bs) (s : ByteArray) : Calls Try.prog 33 #[.pointer (some ⟨g, 0, none⟩), .string s] W fun e w' => e = .returned (.tuple #[.agg #[.int .u32 (allocE lim bs s.size).1, .int .u32 (allocE lim bs s.size).2.1], .int .i64 (allocE lim bs s.size).2.2]) ∧ AX w' g cap lim (allocB lim bs s) ∧ Fr g W w' := by
  obtain ⟨bv, fv, h⟩ := h
  have hS := hg.sum
  have hr := rnd_le (s.size : Int)
  have hlen := hg.len
  unfold allocE allocB
  cases hf : fit (s.size : Int)
  · refine (alloc_arg h s _ _ rfl hf rfl).mono ?_
    rintro e w' ⟨rfl, hb⟩
    exact ⟨rfl, ⟨bv, fv, h.below hb⟩, Fr.of_below hb⟩
  · have hn1 : ¬ (true = false) := by simp
    rw [if_neg hn1, if_neg hn1]
    by_cases hl : lim < sumOf bs + rnd (s.size : Int)
    · refine (alloc_budget h s _ _ rfl hf rfl hl hr.1 hr.2 hS.1 (by omega)).mono ?_
      rintro e w' ⟨rfl, hb⟩
      rw [if_pos hl, if_pos hl]
      exact ⟨rfl, ⟨bv, fv, h.below hb⟩, Fr.of_below hb⟩
    · rw [if_neg hl, if_neg hl]
      have hr16 : 0 < rnd (s.size : Int) := by
        unfold fit at hf
        simp at hf
        have := rnd_facts (s.size : Int) (by omega) (by omega)
        omega
      cases hfr : freeOf bs with
      | nil =>
        rw [hfr] at h
        by_cases h4 : bs.length = 4096
        · refine (alloc_full h s _ _ rfl hf rfl (by omega) hr.1 hr.2 hS.1 (by omega) h4).mono ?_
          rintro e w' ⟨rfl, hb⟩
          simp only [h4, if_true]
          refine ⟨trivial, ⟨bv, fv, ?_⟩, Fr.of_below hb⟩
          rw [hfr]
          exact h.below hb
        · refine (alloc_new h s _ rfl hf (by omega) hr.1 hr.2 hS.1 (by omega) (by omega)).mono ?_
          rintro e w' ⟨rfl, bv', fv', hA, hF⟩
          simp only [h4, if_false]
          refine ⟨trivial, ⟨bv', fv', ?_⟩, hF⟩
          rw [free_snoc hfr _ hr16, sumOf_app]
          simpa [sumOf] using hA
      | cons i r =>
        rw [hfr] at h
        obtain ⟨n, rfl, hn, hz, hlo, hset⟩ := free_head hfr
        refine (alloc_free h s _ rfl hf (by omega) hr.1 hr.2 hS.1 (by omega) hlen hn _ rfl).mono ?_
        rintro e w' ⟨rfl, bv', fv', hA, hF⟩
        simp only [Int.toNat_natCast]
        refine ⟨trivial, ⟨bv', fv', ?_⟩, hF⟩
        rw [hset _ hr16, sum_set bs n hn]
        have hO := hg.ok _ (bk_mem hn)
        rw [show (bk bs n).f1 = 0 by omega, Int.sub_zero]
        exact hA
end
theorem allocB_good {lim : Int} {bs : List S114} (h : Good bs) (s : ByteArray) : Good (allocB lim bs s) := by
  have hr := rnd_le (s.size : Int)
  have hl := h.len
  unfold allocB
  split
  · exact h
  · split
    · exact h
    · split
      · exact h.set _ _ hr.1 hr.2
      · split
        · exact h
        · exact h.snoc _ (by omega) hr.1 hr.2
theorem putB_good {bs : List S114} (h : Good bs) (i : Nat) (gen : Int) (s : ByteArray) : Good (putB bs i gen s) := by
  unfold putB putO
  split
  · rename_i hp
    simp only [Bool.and_eq_true, livesB, decide_eq_true_eq] at hp
    have := h.ok _ (bk_mem hp.1.1)
    exact h.set _ _ this.1 this.2
  · exact h
theorem freeB_good {bs : List S114} (h : Good bs) (i : Nat) (gen : Int) : Good (freeB bs i gen) := by
  unfold freeB
  split
  · exact h.set _ _ (Int.le_refl 0) (show (0 : Int) ≤ 1024 by decide)
  · exact h
end Go.Proofs.Ytibcbeibehaeeaa.Hand
