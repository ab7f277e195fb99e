/- slices.Insert at rows of intervals as one contract; slices.Clone. -/
import Derived.Test.YtoidaakmmnlhgaaKF
set_option linter.unusedVariables false
set_option linter.unusedSimpArgs false
namespace Go.Proofs.Ytoidaakmmnlhgaa.Hand
open Go.Lib Go.Shelf Go.RowKit Go.Proofs.YtoidaakmmnlhgaaW.PrintWords Go.Proofs.YtoidaakmmnlhgaaW.PrintLast Go.Proofs.YtoidaakmmnlhgaaW.PrintMore
section
variable {W : World} {g c : Nat} {L : List Iv}
theorem vsI_reads {vb : Nat} {x : Iv} (hvb : W.heap[vb]? = some (.cells #[.int .i64 x.1, .int .i64 x.2] 43 (0, 0))) : ∀ j v, [Value.int .i64 x.1, .int .i64 x.2][j]? = some v → W.cell? ⟨vb, j, none⟩ = some v := by
  intro j v hj
  rw [blk_cell hvb, List.getElem?_toArray]
  exact hj
theorem vsI_one (x : Iv) : ∀ v ∈ [Value.int .i64 x.1, .int .i64 x.2], v.oneCell' = true := flat_one [x]
theorem froz {b t : Nat} {cs : Array Value} (h : W.heap[b]? = some (.cells cs t (0, 0))) (j : Nat) : W.frozen? ⟨b, j, none⟩ = false := by simp [World.frozen?, h]
theorem shp {b t : Nat} {cs : Array Value} (h : W.heap[b]? = some (.cells cs t (0, 0))) : W.shape? b = some (t, cs.size) := by simp [World.shape?, h]
/-- What an append that grows leaves: a new row. -/
theorem RowI.grown {W1 : World} (M : List Iv) (G : Nat) (hG : M.length ≤ G) (hm : G ≤ 9223372036854775807) (hw : W1.heap[g]? = some (.cells ((flatI M).toArray ++ Builtin.zeroCells (Value.agg #[.int .i64 0, .int .i64 0]).cells (G - M.length)) 43 (0, 0))) : RowI W1 g G M := by
  refine ⟨_, hw, ?_, hG, hm, fun j hj => ?_⟩
  · rw [Array.size_append, zsize2, List.size_toArray, flat_len]; omega
  · rw [Array.getElem?_append_left (by rw [List.size_toArray, flat_len]; exact hj), List.getElem?_toArray]
theorem insI_end (L : List Iv) (x : Iv) : insI L L.length x = L ++ [x] := by simp [insI]
/-- In place. -/
theorem RowI.inplace {i : Nat} {x : Iv} (h : RowI W g c L) (hi : i ≤ L.length) (hc : L.length + 1 ≤ c) : RowI ((W.drew.setCells g ((i + 1) * 2) ((flatI L).drop (i * 2))).setCells g (i * 2) [.int .i64 x.1, .int .i64 x.2]) g c (insI L i x) := by
  obtain ⟨cur, hb, hs, hl, hm, hx⟩ := h
  obtain ⟨c1, h1, s1, g1⟩ := blk_setCells ((flatI L).drop (i * 2)) ((i + 1) * 2) W.drew cur hb
  obtain ⟨c2, h2, s2, g2⟩ := blk_setCells [Value.int .i64 x.1, .int .i64 x.2] (i * 2) _ c1 h1
  have hdl : ((flatI L).drop (i * 2)).length = (L.length - i) * 2 := by rw [List.length_drop, flat_len]; omega
  refine ⟨c2, h2, by rw [s2, s1, hs], by rw [insI_len _ _ _ hi]; exact hc, hm, fun j hj => ?_⟩
  rw [insI_len _ _ _ hi] at hj
  rw [g2, flat_ins _ _ _ hi, s1, hs]
  simp only [List.length_cons, List.length_nil]
  by_cases e1 : j < i * 2
  · rw [if_neg (by omega), if_pos e1, g1, hdl, hs, if_neg (by omega)]
    exact hx j (by omega)
  · rw [if_neg e1]
    by_cases e2 : j < i * 2 + 2
    · rw [if_pos (by omega), if_pos e2]
    · rw [if_neg (by omega), if_neg e2, g1, hdl, hs, if_pos (by omega), List.getElem?_drop]
      congr 1
      omega
theorem RowI.atend {x : Iv} (h : RowI W g c L) (hc : L.length + 1 ≤ c) : RowI (W.setCells g (L.length * 2) [.int .i64 x.1, .int .i64 x.2]) g c (L ++ [x]) := by
  obtain ⟨cur, hb, hs, hl, hm, hx⟩ := h
  obtain ⟨c2, h2, s2, g2⟩ := blk_setCells [Value.int .i64 x.1, .int .i64 x.2] (L.length * 2) W cur hb
  refine ⟨c2, h2, by rw [s2, hs], by simp only [List.length_append, List.length_cons, List.length_nil]; omega, hm, fun j hj => ?_⟩
  simp only [List.length_append, List.length_cons, List.length_nil] at hj
  rw [g2, flat_app, hs]
  simp only [List.length_cons, List.length_nil]
  by_cases e1 : j < L.length * 2
  · rw [if_neg (by omega), List.getElem?_append_left (by rw [flat_len]; exact e1)]
    exact hx j e1
  · rw [if_pos (by omega), List.getElem?_append_right (by rw [flat_len]; omega), flat_len]
    rfl
theorem rowI_cells (h : RowI W g c L) : ∀ j v, (flatI L)[j]? = some v → W.cell? ⟨g, j, none⟩ = some v := by
  obtain ⟨cur, hb, hs, hl, hm, hx⟩ := h
  intro j v hj
  have hlt := (List.getElem?_eq_some_iff.1 hj).1
  rw [flat_len] at hlt
  rw [blk_cell hb, hx j hlt]
  exact hj
/-- Insert of one interval into a row at a block of its own. -/
theorem insI_c {i vb : Nat} {x : Iv} (h : RowI W g c L) (hi : i ≤ L.length) (hl : L.length ≤ 100) (hvb : W.heap[vb]? = some (.cells #[.int .i64 x.1, .int .i64 x.2] 43 (0, 0))) (hne : vb ≠ g) :
    Calls Try.prog 27 #[.slice (some ⟨g, 0, none⟩) L.length c, .int .i64 i, .slice (some ⟨vb, 0, none⟩) 1 1] W fun e w' => ∃ g' c', e = .returned (.slice (some ⟨g', 0, none⟩) (L.length + 1) c') ∧ RowI w' g' c' (insI L i x) ∧ g ≤ g' ∧ Below g W w' := by
  have hgl := h.lt
  have hcs := rowI_cells h
  obtain ⟨cur, hb, hs, hc, hm, hx⟩ := id h
  have hB0 : Below g W W := Below.refl g W
  have hfl := flat_len L
  by_cases hr : c < L.length + 1
  · have hG := grownCap_ge W (L.length + 1) c 43
    have hM := grownCap_le_maxLen W (L.length + 1) c 43 (by unfold maxLen; omega)
    by_cases he : i = L.length
    · subst he
      refine (insI_end_grow (some ⟨g, 0, none⟩) L.length c vb 1 (flatI L) [.int .i64 x.1, .int .i64 x.2] W hc hr hl hfl rfl (fun e => by cases e) (fun a ha j v hj => by cases ha; rw [Addr.add_lit, Nat.zero_add]; exact hcs j v hj) (vsI_reads hvb) (vsI_one x)).mono ?_
      rintro e w' ⟨rfl, rfl⟩
      refine ⟨_, _, rfl, ?_, by omega, Below.alloc (below_drew hB0) (Nat.le_of_lt hgl) _⟩
      rw [insI_end]
      refine RowI.grown (L ++ [x]) _ (by simp only [List.length_append, List.length_cons, List.length_nil]; exact hG) hM ?_
      rw [flat_app, show (L ++ [x]).length = L.length + 1 by simp]
      exact blk_new' rfl
    · refine (insI_grow g L.length c i vb 1 (flatI L) [.int .i64 x.1, .int .i64 x.2] W (by omega) hc hr hl hgl (blk_lt hvb) hfl rfl hcs (vsI_reads hvb) (flat_one L) (vsI_one x)).mono ?_
      rintro e w' ⟨rfl, rfl⟩
      refine ⟨_, _, rfl, ?_, by omega, below_setCells' (Nat.le_of_lt hgl) _ _ (below_drew (below_setCells' (Nat.le_of_lt hgl) _ _ (below_drew (Below.alloc hB0 (Nat.le_of_lt hgl) _))))⟩
      obtain ⟨G, hGe⟩ : ∃ G, G = grownCap W (L.length + 1) c 43 := ⟨_, rfl⟩
      rw [← hGe] at hG hM ⊢
      obtain ⟨ROW, hROW⟩ : ∃ ROW : Array Value, ROW = ((flatI L).take (i * 2)).toArray ++ Builtin.zeroCells (Value.agg #[.int .i64 0, .int .i64 0]).cells (L.length + 1 - i) ++ Builtin.zeroCells (Value.agg #[.int .i64 0, .int .i64 0]).cells (G - (L.length + 1)) := ⟨_, rfl⟩
      rw [← hROW]
      have htl : ((flatI L).take (i * 2)).length = i * 2 := by rw [List.length_take, hfl]; omega
      have hRs : ROW.size = G * 2 := by
        rw [hROW, Array.size_append, Array.size_append, zsize2, zsize2, List.size_toArray, htl]
        omega
      have hb1 : ((W.alloc (.cells ROW 43)).drew).heap[W.heap.size]? = some (.cells ROW 43 (0, 0)) := blk_drew (blk_new' rfl)
      obtain ⟨c1, h1, s1, g1⟩ := blk_setCells [Value.int .i64 x.1, .int .i64 x.2] (i * 2) _ ROW hb1
      obtain ⟨c2, h2, s2, g2⟩ := blk_setCells ((flatI L).drop (i * 2)) ((i + 1) * 2) _ c1 (blk_drew h1)
      have hdl : ((flatI L).drop (i * 2)).length = (L.length - i) * 2 := by rw [List.length_drop, hfl]; omega
      have hM' : G ≤ 9223372036854775807 := hM
      refine ⟨c2, h2, by rw [s2, s1, hRs], by rw [insI_len _ _ _ hi]; exact hG, hM', fun j hj => ?_⟩
      rw [insI_len _ _ _ hi] at hj
      rw [g2, flat_ins _ _ _ hi, s1, hRs, hdl]
      by_cases e1 : j < i * 2
      · rw [if_neg (by omega), if_pos e1, g1, if_neg (by omega), hROW, Array.getElem?_append_left (by rw [Array.size_append, List.size_toArray, htl]; omega), Array.getElem?_append_left (by rw [List.size_toArray, htl]; exact e1), List.getElem?_toArray, List.getElem?_take, if_pos e1]
      · rw [if_neg e1]
        by_cases e2 : j < i * 2 + 2
        · rw [if_neg (by omega), if_pos e2, g1, hRs]
          simp only [List.length_cons, List.length_nil]
          rw [if_pos (by omega)]
        · rw [if_pos (by omega), if_neg e2, List.getElem?_drop]
          congr 1
          omega
  · have hr' : L.length + 1 ≤ c := by omega
    have hcell : ∀ j, j < c * 2 → (W.cell? ⟨g, j, none⟩).isSome = true := fun j hj => by
      rw [blk_cell hb, Array.getElem?_eq_getElem (by omega)]; rfl
    by_cases he : i = L.length
    · subst he
      refine (insI_end_room g L.length c vb 1 [.int .i64 x.1, .int .i64 x.2] W hr' hm rfl (fun j hj => hcell _ (by omega)) (fun j _ => froz hb _) (vsI_reads hvb) (vsI_one x)).mono ?_
      rintro e w' ⟨rfl, rfl⟩
      refine ⟨_, _, rfl, ?_, Nat.le_refl _, below_setCells' (Nat.le_refl _) _ _ hB0⟩
      rw [insI_end]
      exact RowI.atend h hr'
    · refine (insI_shift g L.length c i vb 1 (flatI L) [.int .i64 x.1, .int .i64 x.2] W (by omega) hr' hm hne hfl rfl hcs (fun j hj => hcell _ (by omega)) (fun j _ => froz hb _) (vsI_reads hvb) (flat_one L) (vsI_one x) _ _ _ _ (shp hvb) (shp hb) (by rw [hs]; omega) (froz hvb _) (froz hvb _)).mono ?_
      rintro e w' ⟨rfl, rfl⟩
      exact ⟨_, _, rfl, RowI.inplace h hi hr', Nat.le_refl _, below_setCells' (Nat.le_refl _) _ _ (below_setCells' (Nat.le_refl _) _ _ (below_drew hB0))⟩
/-- Insert into the nil slice. -/
theorem insI_nil_c {vb : Nat} {x : Iv} (hvb : W.heap[vb]? = some (.cells #[.int .i64 x.1, .int .i64 x.2] 43 (0, 0))) :
    Calls Try.prog 27 #[.slice none 0 0, .int .i64 0, .slice (some ⟨vb, 0, none⟩) 1 1] W fun e w' => ∃ g' c', e = .returned (.slice (some ⟨g', 0, none⟩) 1 c') ∧ RowI w' g' c' [x] ∧ W.heap.size ≤ g' ∧ Below W.heap.size W w' := by
  have hG := grownCap_ge W (0 + 1) 0 43
  have hM := grownCap_le_maxLen W (0 + 1) 0 43 (by unfold maxLen; omega)
  refine (insI_end_grow none 0 0 vb 1 [] [.int .i64 x.1, .int .i64 x.2] W (Nat.le_refl _) (by omega) (by omega) rfl rfl (fun _ => rfl) (fun a ha => by cases ha) (vsI_reads hvb) (vsI_one x)).mono ?_
  rintro e w' ⟨rfl, rfl⟩
  exact ⟨_, _, rfl, RowI.grown [x] _ hG hM (blk_new' rfl), Nat.le_refl _, below_alloc (below_drew (Below.refl _ _)) _⟩
theorem cloneI_some {ad : Addr} {c0 : Nat} (hr : Kd.C kI W (some ad) L.length L) (h0 : 0 < L.length) (hl : L.length ≤ 100) :
    Calls Try.prog 28 #[.slice (some ad) L.length c0] W fun e w' => ∃ g' c', e = .returned (.slice (some ⟨g', 0, none⟩) L.length c') ∧ RowI w' g' c' L ∧ W.heap.size ≤ g' ∧ Below W.heap.size W w' := by
  have hfc := flat_cells hr
  have hfl := flat_len L
  have hf1 := flat_one L
  have HB := Aside0.mk (Below.refl W.heap.size W)
  obtain ⟨i0, hi0, hz0, hzs, hzb⟩ := info_parts infoIv
  have hrun : ∀ (w : World), (∀ j u, (flatI L)[j]? = some u → w.cell? (ad.add j) = some u) → ∀ h ty, (Builtin.append_ #[22, 22] ty #[.slice (some ⟨h, 0, none⟩) 0 0, .slice (some ad) L.length c0]).run Try.prog w = .ok (.slice (some ⟨w.heap.size, 0, none⟩) L.length (grownCap w L.length 0 43)) (w.drew.alloc (.cells ((flatI L).toArray ++ Builtin.zeroCells (Value.agg #[.int .i64 0, .int .i64 0]).cells (grownCap w L.length 0 43 - L.length)) 43)) := fun w hw h ty => by
    have hsrc : Src Try.prog i0.size 22 (.slice (some ad) L.length c0) L.length (flatI L) w := by
      rw [hzs]
      exact Src.ofSlice w undIv ad L.length c0 (flatI L) hfl hw hf1
    have hold : (Builtin.firstCells i0.size 0 (.slice (some ⟨h, 0, none⟩) 0 0)).run Try.prog w.drew = .ok ([] : List Value).toArray w.drew := by
      rw [hzs]
      exact run_firstCells_some w.drew 2 0 ⟨h, 0, none⟩ 0 0 [] rfl (fun j v hj => by simp at hj)
    have := run_append_grow_src w 22 22 ty 43 i0 _ undIv hi0 hz0 (some ⟨h, 0, none⟩) 0 0 [] hold _ L.length (flatI L) hsrc (by omega) (by omega) (by rw [hzb]; exact growslice_fits (by omega) (by omega))
    rw [Nat.zero_add] at this
    exact this
  have hq : ∀ w : World, (binOp .eql 22 (.slice (some ad) L.length c0) (.slice none 0 0)).run Try.prog w = .ok (.bool false) w := fun w => run_eql_slice_nil w _ 43 (some ad) _ _ undIv
  have hG := grownCap_ge (W.alloc (Obj.cells #[] 43)) L.length 0 43
  have hM := grownCap_le_maxLen (W.alloc (Obj.cells #[] 43)) L.length 0 43 (by unfold maxLen; omega)
  have hall := fun j u hj => flat_cells (Kd.C_below hr (below_alloc (Below.refl _ _) (Obj.cells #[] 43))) j u hj
  clear hfc
  go_enter Try.func28, Try.ntmps28
  go_wp2_with (at_builtin; refine Lib.wpList_append_run _ rfl _ _ _ _ rfl _ _ rfl rfl _ _ (hrun _ hall _ _) ?_)
  go_ret
  exact ⟨_, _, rfl, RowI.grown L _ hG hM (blk_drew (blk_new' (by simp))), by omega, below_drew (below_alloc (below_alloc (Below.refl _ _) _) _)⟩
theorem cloneI_zero {ad : Addr} {c0 : Nat} :
    Calls Try.prog 28 #[.slice (some ad) 0 c0] W fun e w' => ∃ g' c', e = .returned (.slice (some ⟨g', 0, none⟩) 0 c') ∧ RowI w' g' c' [] ∧ W.heap.size ≤ g' ∧ Below W.heap.size W w' := by
  obtain ⟨i0, hi0, hz0, hzs, hzb⟩ := info_parts infoIv
  have hrun : ∀ (w : World) h ty, (Builtin.append_ #[22, 22] ty #[.slice (some ⟨h, 0, none⟩) 0 0, .slice (some ad) 0 c0]).run Try.prog w = .ok (.slice (some ⟨h, 0, none⟩) 0 0) w := fun w h ty => by
    have hsrc : Src Try.prog i0.size 22 (.slice (some ad) 0 c0) 0 [] w := by
      rw [hzs]
      exact Src.ofSlice w undIv ad 0 c0 [] rfl (fun j u hj => by simp at hj) (fun v h => by cases h)
    exact run_append_room_src w 22 22 ty 43 i0 undIv hi0 h 0 0 0 _ 0 [] hsrc (by omega) (fun j h => by cases h) (fun j h => by cases h)
  have hq : ∀ w : World, (binOp .eql 22 (.slice (some ad) 0 c0) (.slice none 0 0)).run Try.prog w = .ok (.bool false) w := fun w => run_eql_slice_nil w _ 43 (some ad) _ _ undIv
  go_enter Try.func28, Try.ntmps28
  go_wp2_with (at_builtin; refine Lib.wpList_append_run _ rfl _ _ _ _ rfl _ _ rfl rfl _ _ (hrun _ _ _) ?_)
  go_ret
  exact ⟨_, _, rfl, ⟨_, blk_new' rfl, rfl, Nat.le_refl _, by omega, fun j hj => by simp at hj⟩, by omega, below_alloc (Below.refl _ _) _⟩
theorem cloneI_c {ad : Addr} {c0 : Nat} (hr : Kd.C kI W (some ad) L.length L) (hl : L.length ≤ 100) :
    Calls Try.prog 28 #[.slice (some ad) L.length c0] W fun e w' => ∃ g' c', e = .returned (.slice (some ⟨g', 0, none⟩) L.length c') ∧ RowI w' g' c' L ∧ W.heap.size ≤ g' ∧ Below W.heap.size W w' := by
  rcases Nat.eq_zero_or_pos L.length with h | h
  · have h2 := List.eq_nil_of_length_eq_zero h
    subst h2
    exact cloneI_zero
  · exact cloneI_some hr h hl
theorem cloneI_nil {c0 : Nat} : Calls Try.prog 28 #[.slice none 0 c0] W fun e w' => e = .returned (.slice none 0 0) ∧ Below W.heap.size W w' := by
  have hq : ∀ w : World, (binOp .eql 22 (.slice none 0 c0) (.slice none 0 0)).run Try.prog w = .ok (.bool true) w := fun w => run_eql_slice_nil w _ 43 none _ _ undIv
  go_enter Try.func28, Try.ntmps28
  go_wp2
  go_ret
  exact ⟨rfl, Below.refl _ _⟩
end
end Go.Proofs.Ytoidaakmmnlhgaa.Hand
