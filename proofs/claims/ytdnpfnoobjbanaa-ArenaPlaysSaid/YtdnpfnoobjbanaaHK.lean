/- slices.Insert at a row of ints, as one contract over rows. -/
import Derived.Test.YtdnpfnoobjbanaaHJ
set_option linter.unusedVariables false
set_option linter.unusedSimpArgs false
namespace Go.Proofs.Ytdnpfnoobjbanaa.Hand
open Go.RowKit Go.Proofs.Ytdnpfnoobjbanaa.PArenaPlays Go.Proofs.YtdnpfnoobjbanaaW.PrintWords Go.Proofs.YtdnpfnoobjbanaaW.PrintLast Go.Proofs.YtdnpfnoobjbanaaW.PrintMore

def insAt (fs : List Int) (i : Nat) (x : Int) : List Int := fs.take i ++ x :: fs.drop i
theorem insAt_len (fs : List Int) (i : Nat) (x : Int) (hi : i ≤ fs.length) : (insAt fs i x).length = fs.length + 1 := by simp [insAt]; omega
theorem insAt_get (fs : List Int) (i : Nat) (x : Int) (hi : i ≤ fs.length) (j : Nat) : (insAt fs i x)[j]? = if j < i then fs[j]? else if j = i then some x else fs[j - 1]? := by
  rw [insAt]
  by_cases h1 : j < i
  · rw [if_pos h1, List.getElem?_append_left (by rw [List.length_take]; omega), List.getElem?_take, if_pos h1]
  · rw [if_neg h1, List.getElem?_append_right (by rw [List.length_take]; omega), List.length_take, Nat.min_eq_left hi]
    by_cases h2 : j = i
    · rw [if_pos h2, h2, Nat.sub_self, List.getElem?_cons_zero]
    · rw [if_neg h2, show j - i = (j - 1 - i) + 1 by omega, List.getElem?_cons_succ, List.getElem?_drop, show i + (j - 1 - i) = j - 1 by omega]
theorem insAt_end (fs : List Int) (x : Int) : insAt fs fs.length x = fs ++ [x] := by simp [insAt]
section
variable {W : World} {g : Nat} {fs : List Int} {x : Int} {vb : Nat}
theorem vs_reads (hvb : W.heap[vb]? = some (.cells #[.int .i64 x] 3 (0, 0))) : ∀ j v, [Value.int .i64 x][j]? = some v → W.cell? ⟨vb, 0 + j, none⟩ = some v := by
  intro j v hj
  rw [blk_cell hvb, Nat.zero_add]
  simpa using hj
theorem vs_one (x : Int) : ∀ v ∈ [Value.int .i64 x], v.oneCell' = true := by
  intro v hv
  rw [List.mem_singleton.1 hv]
  rfl
theorem fs_one (fs : List Int) : ∀ v ∈ fs.map (Value.int .i64), v.oneCell' = true := by
  intro v hv
  obtain ⟨y, _, rfl⟩ := List.mem_map.1 hv
  rfl
theorem zsize (n : Nat) : (Builtin.zeroCells (Value.int .i64 0).cells n).size = n := by rw [size_zeroCells]; exact Nat.mul_one n
/-- At the end, no room: a new row. -/
theorem ins_end_grow (base : Option Addr) (c : Nat) (hl : fs.length ≤ 4096) (hgw : g ≤ W.heap.size) (hc : fs.length ≤ c) (hr : c < fs.length + 1) (hnil : base = none → fs.length = 0)
    (hcs : ∀ a, base = some a → ∀ j v, (fs.map (Value.int .i64))[j]? = some v → W.cell? (a.add j) = some v) (hvb : W.heap[vb]? = some (.cells #[.int .i64 x] 3 (0, 0))) (row : Option Nat) :
    Calls Try.prog 36 #[.slice base fs.length c, .int .i64 (fs.length : Int), .slice (some ⟨vb, 0, none⟩) 1 1] W fun e w' => ∃ v', e = .returned v' ∧ (Kd.int .i64).Q 3 w' g (fun _ => True) v' (insAt fs fs.length x) ∧ W.grownBy w' row := by
  refine (Any2.slices_Insert_int_end_grow Try.lays221 base fs.length c vb 0 1 1 (fs.map (Value.int .i64)) [.int .i64 x] W (by omega) hc hr (by omega) (by rw [List.length_map]) rfl hnil hcs (vs_reads hvb) (vs_one x)).mono ?_
  rintro e w' ⟨rfl, rfl⟩
  have hG := grownCap_ge W (fs.length + 1) c 3
  have hM := grownCap_le_maxLen W (fs.length + 1) c 3 (by unfold maxLen; omega)
  refine ⟨_, rfl, Q_mk (off := 0) (blk_new' rfl) hgw (by rw [insAt_len _ _ _ (Nat.le_refl _)]) hG (by rw [Nat.zero_add]; exact hM) ?_ (fun j hj => ?_), grown_of (below_alloc (below_drew (Below.refl _ _)) _) _⟩
  · rw [Array.size_append, zsize, List.size_toArray, List.length_append, List.length_map, List.length_singleton]
    show fs.length + 1 + (grownCap W (fs.length + 1) c 3 - (fs.length + 1)) = 0 + grownCap W (fs.length + 1) c 3
    omega
  · rw [Nat.zero_add, Array.getElem?_append_left (by rw [List.size_toArray, List.length_append, List.length_map]; exact hj), List.getElem?_toArray, insAt_end]
    have e : fs.map (Value.int .i64) ++ [.int .i64 x] = (fs ++ [x]).map (Value.int .i64) := by simp
    rw [e, List.getElem?_map]
theorem below_setCells' {B b : Nat} {a : World} (hb : B ≤ b) : ∀ (vs : List Value) (o : Nat) {w : World}, Below B a w → Below B a (w.setCells b o vs)
  | [], _, _, h => h
  | v :: r, o, _, h => below_setCells' hb r (o + 1) (h.setCell (p := ⟨b, o, none⟩) hb v)
/-- In place: the row's cells behind what is written. -/
theorem Q_in {b off cap i : Nat} {cur : Array Value} (hb : W.heap[b]? = some (.cells cur 3 (0, 0))) (hg : g ≤ b) (hi : i ≤ fs.length) (hc : fs.length + 1 ≤ cap) (hm : off + cap ≤ maxLen) (hs : cur.size = off + cap)
    (hx : ∀ j, j < fs.length → cur[off + j]? = (fs[j]?).map (Value.int .i64)) :
    (Kd.int .i64).Q 3 ((W.setCells b (off + (i + 1)) ((fs.map (Value.int .i64)).drop i)).setCells b (off + i) [.int .i64 x]) g (fun _ => True) (.slice (some ⟨b, off, none⟩) (fs.length + 1) cap) (insAt fs i x) := by
  obtain ⟨c1, h1, s1, g1⟩ := blk_setCells ((fs.map (Value.int .i64)).drop i) (off + (i + 1)) W cur hb
  obtain ⟨c2, h2, s2, g2⟩ := blk_setCells [Value.int .i64 x] (off + i) _ c1 h1
  have hdl : ((fs.map (Value.int .i64)).drop i).length = fs.length - i := by rw [List.length_drop, List.length_map]
  refine Q_mk h2 hg (insAt_len _ _ _ hi) hc hm (by rw [s2, s1, hs]) (fun j hj => ?_)
  rw [g2, insAt_get _ _ _ hi, s1, hs]
  by_cases e1 : j = i
  · subst e1
    rw [if_pos (show off + j ≤ off + j ∧ off + j < off + j + [Value.int .i64 x].length ∧ off + j < off + cap by simp only [List.length_singleton]; omega), Nat.sub_self, if_neg (Nat.lt_irrefl _), if_pos rfl]
    rfl
  · rw [if_neg (show ¬ (off + i ≤ off + j ∧ off + j < off + i + [Value.int .i64 x].length ∧ off + j < off + cap) by simp only [List.length_singleton]; omega), g1, hdl, hs]
    by_cases e2 : j < i
    · rw [if_neg (show ¬ (off + (i + 1) ≤ off + j ∧ off + j < off + (i + 1) + (fs.length - i) ∧ off + j < off + cap) by omega), if_pos e2]
      exact hx j (by omega)
    · rw [if_pos (show off + (i + 1) ≤ off + j ∧ off + j < off + (i + 1) + (fs.length - i) ∧ off + j < off + cap by omega), if_neg e2, if_neg e1, List.getElem?_drop, List.getElem?_map, show i + (off + j - (off + (i + 1))) = j - 1 by omega]
theorem grown2 (b o o' : Nat) (vs vs' : List Value) (w : World) : w.grownBy ((w.setCells b o vs).setCells b o' vs') (some b) := by
  have h1 := grown_setCells b vs o w
  have h2 := grown_setCells b vs' o' (w.setCells b o vs)
  exact ⟨h2.os.trans h1.os, h2.tape.trans h1.tape, h2.output.trans h1.output, Nat.le_trans h1.size h2.size, fun k hk hne => (h2.block k (Nat.lt_of_lt_of_le hk h1.size) hne).trans (h1.block k hk hne)⟩
theorem grown_drew {w1 : World} {row : Option Nat} (h : W.drew.grownBy w1 row) : W.grownBy w1 row := ⟨h.os, h.tape, h.output, h.size, h.block⟩
/-- A row at an address of its own: Insert, every case. -/
theorem ins_row {b off cap i : Nat} {cur : Array Value} (hb : W.heap[b]? = some (.cells cur 3 (0, 0))) (hg : g ≤ b) (hi : i ≤ fs.length) (hc : fs.length ≤ cap) (hm : off + cap ≤ maxLen) (hs : cur.size = off + cap)
    (hx : ∀ j, j < fs.length → cur[off + j]? = (fs[j]?).map (Value.int .i64)) (hl : fs.length ≤ 4096) (hvb : W.heap[vb]? = some (.cells #[.int .i64 x] 3 (0, 0))) (hne : vb ≠ b) :
    Calls Try.prog 36 #[.slice (some ⟨b, off, none⟩) fs.length cap, .int .i64 (i : Int), .slice (some ⟨vb, 0, none⟩) 1 1] W fun e w' => ∃ v', e = .returned v' ∧ (Kd.int .i64).Q 3 w' g (fun _ => True) v' (insAt fs i x) ∧ W.grownBy w' (some b) := by
  have hgw : g ≤ W.heap.size := Nat.le_trans hg (Nat.le_of_lt (blk_lt hb))
  have hcs : ∀ j v, (fs.map (Value.int .i64))[j]? = some v → W.cell? ⟨b, off + j, none⟩ = some v := fun j v hj => by
    have hjl := (List.getElem?_eq_some_iff.1 hj).1
    rw [List.length_map] at hjl
    rw [blk_cell hb, hx j hjl, ← List.getElem?_map]
    exact hj
  have hm' : maxLen = 9223372036854775807 := rfl
  by_cases hr : cap < fs.length + 1
  · by_cases he : i = fs.length
    · subst he
      exact ins_end_grow (some ⟨b, off, none⟩) cap hl hgw hc hr (fun e => by cases e) (fun a ha j v hj => by cases ha; rw [Addr.add_lit]; exact hcs j v hj) hvb _
    · refine (Any2.slices_Insert_int_grow Try.lays221 b off fs.length cap i vb 0 1 1 (fs.map (Value.int .i64)) [.int .i64 x] W (by omega) (by omega) hc hr (by omega) (by rw [List.length_map]) rfl hcs (vs_reads hvb) (fs_one fs) (vs_one x)).mono ?_
      rintro e w' ⟨rfl, rfl⟩
      have hG := grownCap_ge W (fs.length + 1) cap 3
      have hM := grownCap_le_maxLen W (fs.length + 1) cap 3 (by unfold maxLen; omega)
      have hi2 : i < fs.length := by omega
      have b0 := blk_drew (blk_new W (.cells (((fs.map (Value.int .i64)).take i).toArray ++ Builtin.zeroCells (Value.int .i64 0).cells (fs.length + 1 - i) ++ Builtin.zeroCells (Value.int .i64 0).cells (grownCap W (fs.length + 1) cap 3 - (fs.length + 1))) 3))
      have htk : (((fs.map (Value.int .i64)).take i).toArray).size = i := by rw [List.size_toArray, List.length_take, List.length_map]; omega
      obtain ⟨c1, h1, s1, g1⟩ := blk_setCells [Value.int .i64 x] i _ _ b0
      obtain ⟨c2, h2, s2, g2⟩ := blk_setCells ((fs.map (Value.int .i64)).drop i) (i + 1) _ c1 (blk_drew h1)
      have hdl : ((fs.map (Value.int .i64)).drop i).length = fs.length - i := by rw [List.length_drop, List.length_map]
      rw [Array.size_append, Array.size_append, zsize, zsize, htk] at s1
      have s1' : c1.size = grownCap W (fs.length + 1) cap 3 := by rw [s1]; omega
      refine ⟨_, rfl, Q_mk (off := 0) h2 hgw (insAt_len _ _ _ hi) hG (by rw [Nat.zero_add]; exact hM) (by rw [s2, s1', Nat.zero_add]; rfl) (fun j hj => ?_), ?_⟩
      · rw [Nat.zero_add, g2, insAt_get _ _ _ hi, hdl, s1']
        by_cases e1 : j < i
        · rw [if_neg (show ¬ (i + 1 ≤ j ∧ j < i + 1 + (fs.length - i) ∧ j < grownCap W (fs.length + 1) cap 3) by omega), g1, if_neg (by simp only [List.length_singleton]; omega), if_pos e1,
            Array.getElem?_append_left (by rw [Array.size_append, htk]; omega), Array.getElem?_append_left (by rw [htk]; exact e1), List.getElem?_toArray, List.getElem?_take, if_pos e1, List.getElem?_map]
        · by_cases e2 : j = i
          · rw [if_neg (show ¬ (i + 1 ≤ j ∧ j < i + 1 + (fs.length - i) ∧ j < grownCap W (fs.length + 1) cap 3) by omega), g1, Array.size_append, Array.size_append, zsize, zsize, htk,
              if_pos (by simp only [List.length_singleton]; omega), if_neg e1, if_pos e2, e2, Nat.sub_self]
            rfl
          · rw [if_pos (show i + 1 ≤ j ∧ j < i + 1 + (fs.length - i) ∧ j < grownCap W (fs.length + 1) cap 3 by omega), if_neg e1, if_neg e2, List.getElem?_drop, List.getElem?_map, show i + (j - (i + 1)) = j - 1 by omega]
      · refine grown_of ?_ _
        have k0 : Below W.heap.size W (W.alloc (.cells (((fs.map (Value.int .i64)).take i).toArray ++ Builtin.zeroCells (Value.int .i64 0).cells (fs.length + 1 - i) ++ Builtin.zeroCells (Value.int .i64 0).cells (grownCap W (fs.length + 1) cap 3 - (fs.length + 1))) 3)).drew := below_drew (below_alloc (Below.refl _ _) _)
        exact below_setCells' (Nat.le_refl _) _ _ (below_drew (below_setCells' (Nat.le_refl _) _ _ k0))
  · have hsp : ∀ j, j < fs.length + 1 → (W.cell? ⟨b, off + j, none⟩).isSome = true := fun j hj => by
      rw [blk_cell hb, Array.getElem?_eq_getElem (by omega)]
      rfl
    by_cases he : i = fs.length
    · subst he
      refine (Any2.slices_Insert_int_end_room Try.lays221 b off fs.length cap vb 0 1 1 [.int .i64 x] W (by omega) (by omega) (by omega) rfl (fun j hj => by rw [Nat.add_assoc]; exact hsp _ (by omega)) (fun j _ => blk_frozen hb _) (vs_reads hvb) (vs_one x)).mono ?_
      rintro e w' ⟨rfl, rfl⟩
      have q := Q_in (x := x) hb hg (Nat.le_refl fs.length) (by omega) hm hs hx
      have e0 : (fs.map (Value.int .i64)).drop fs.length = [] := by rw [List.drop_eq_nil_iff, List.length_map]; exact Nat.le_refl _
      rw [e0] at q
      exact ⟨_, rfl, q, grown_setCells b _ _ W⟩
    · refine (Any2.slices_Insert_int_shift Try.lays221 b off fs.length cap i vb 0 1 1 (fs.map (Value.int .i64)) [.int .i64 x] W (by omega) (by omega) (by omega) (by omega) hne (by rw [List.length_map]) rfl hcs hsp (fun j _ => blk_frozen hb _) (vs_reads hvb) (fs_one fs) (vs_one x)
        3 3 1 (off + cap) (by simp [World.shape?, hvb]) (by simp [World.shape?, hb, hs]) (by omega) (blk_frozen hvb _) (blk_frozen hvb _)).mono ?_
      rintro e w' ⟨rfl, rfl⟩
      exact ⟨_, rfl, Q_in (W := W.drew) hb hg hi (by omega) hm hs hx, grown_drew (grown2 b _ _ _ _ W.drew)⟩
end
end Go.Proofs.Ytdnpfnoobjbanaa.Hand
