/- Chapter 8: what an expression has beside its kind. -/
import Derived.Test.YtimmomhgljofnaaDoorV1
import Derived.Deep.RegionLaw
import Derived.Deep.DeepCutAuto
import Derived.Deep.CutBlock
set_option linter.unusedVariables false
set_option linter.unusedSimpArgs false
namespace Go.Proofs.YtimmomhgljofnaaDoor.Hand
open Go.RowKit Go.Proofs.YtimmomhgljofnaaDoorW.PrintWords Go.Proofs.YtimmomhgljofnaaDoorW.PrintLast Go.Proofs.YtimmomhgljofnaaDoorW.PrintMore
/-- That a text is a name (or not) is told by the program, from here on. -/
def Named (W : World) (s : ByteArray) (b : Bool) : Prop := ∀ W', Below W.heap.size W W' → Calls Tryd.prog 61 #[.string s] W' fun e w' => e = .returned (.bool b) ∧ Below W'.heap.size W' w'
theorem Named.go {W W' : World} {s : ByteArray} {b : Bool} (h : Named W s b) (hb : Below W.heap.size W W') : Calls Tryd.prog 61 #[.string s] W' fun e w' => e = .returned (.bool b) ∧ Below W'.heap.size W' w' := h W' hb
theorem Named.below {W W1 : World} {s : ByteArray} {b : Bool} (h : Named W s b) (hb : Below W.heap.size W W1) : Named W1 s b := fun W2 h2 => h W2 (below_step hb h2)
theorem three_cells {w : World} {g t : Nat} {x y z : Value} (h : w.heap[g]? = some (.cells #[x, y, z] t (0, 0))) (a b c : Value) :
    (((w.setCell ⟨g, 0, none⟩ a).setCell ⟨g, 1, none⟩ b).setCell ⟨g, 2, none⟩ c).cell? ⟨g, 0, none⟩ = some a ∧ (((w.setCell ⟨g, 0, none⟩ a).setCell ⟨g, 1, none⟩ b).setCell ⟨g, 2, none⟩ c).cell? ⟨g, 1, none⟩ = some b ∧ (((w.setCell ⟨g, 0, none⟩ a).setCell ⟨g, 1, none⟩ b).setCell ⟨g, 2, none⟩ c).cell? ⟨g, 2, none⟩ = some c := by
  have h3 := blk_set (blk_set (blk_set h 0 a) 1 b) 2 c
  exact ⟨blk_cell h3 0, blk_cell h3 1, blk_cell h3 2⟩
def eqS (s : ByteArray) (l : List UInt8) : Bool := s.toList == l
def formOp (k : Int) : Bool := decide (k = 2) || decide (k = 3)
def formNames (k : Int) : Bool := decide (k = 1)
def formKids (k : Int) : Int := if k = 2 then 1 else if k = 3 then 2 else 0
def formOk (nm : ByteArray → Bool) (k : Int) (op : ByteArray) (n : Int) (v f : ByteArray) : Bool :=
  if k = 0 then decide (0 ≤ n) else if k = 1 then decide (n = 0) && (nm v && nm f) else if k = 2 then decide (n = 0) && (eqS op [45] || eqS op [33]) else if k = 3 then decide (n = 0) && decide (0 < lvl op) else false
set_option maxHeartbeats 1000000 in
set_option maxRecDepth 100000 in
theorem form_c {W : World} {A : Option Addr} {m c : Nat} (nm : ByteArray → Bool) (k : Int) (op : ByteArray) (n : Int) (v f : ByteArray) (hn : k = 1 → Named W v (nm v) ∧ Named W f (nm f)) :
    Calls Tryd.prog 53 #[.agg #[.int .i64 k, .string op, .int .i64 n, .string v, .string f, .slice A m c]] W fun e w' => e = .returned (.tuple #[.agg #[.bool (formOp k), .bool (formNames k), .int .i64 (formKids k)], .bool (formOk nm k op n v f)]) ∧ Below W.heap.size W w' := by
  have HB0 := Aside0.mk (Below.refl W.heap.size W)
  by_cases hk : k = 0
  · subst hk
    go_enter Tryd.func53, Tryd.ntmps53
    go_upto_region 3 with fail
    have HB := Aside0.mk (show Below W.heap.size W ((W.alloc (.cells #[.int .i64 0, .string op, .int .i64 n, .string v, .string f, .slice A m c] 24 (0, 0))).alloc (.cells #[.bool false, .bool false, .int .i64 0] 87 (0, 0))) from below_alloc (below_alloc (Below.refl _ _) _) _)
    have BE := Aside0.mk (show ((W.alloc (.cells #[.int .i64 0, .string op, .int .i64 n, .string v, .string f, .slice A m c] 24 (0, 0))).alloc (.cells #[.bool false, .bool false, .int .i64 0] 87 (0, 0))).heap[W.heap.size]? = some (.cells #[.int .i64 0, .string op, .int .i64 n, .string v, .string f, .slice A m c] 24 (0, 0)) from blk_alloc (blk_new _ _) _)
    have BF := Aside0.mk (show ((W.alloc (.cells #[.int .i64 0, .string op, .int .i64 n, .string v, .string f, .slice A m c] 24 (0, 0))).alloc (.cells #[.bool false, .bool false, .int .i64 0] 87 (0, 0))).heap[W.heap.size + 1]? = some (.cells #[.bool false, .bool false, .int .i64 0] 87 (0, 0)) from blk_new' (by simp))
    clear HB0
    generalize ((W.alloc (.cells #[.int .i64 0, .string op, .int .i64 n, .string v, .string f, .slice A m c] 24 (0, 0))).alloc (.cells #[.bool false, .bool false, .int .i64 0] 87 (0, 0))) = w0 at *
    obtain ⟨qBE_0, qBE_1, qBE_2, qBE_3, qBE_4, qBE_5, lBE⟩ := cells6 BE.out
    have qBF_0 := blk_cell BF.out 0
    have qBF_1 := blk_cell BF.out 1
    have qBF_2 := blk_cell BF.out 2
    have lBF := blk_lt BF.out
    simp only [List.getElem?_toArray, List.getElem?_cons_zero, List.getElem?_cons_succ] at qBF_0 qBF_1 qBF_2
    have fBF := blk_frozen BF.out 0
    have fBF1 := blk_frozen BF.out 1
    have fBF2 := blk_frozen BF.out 2
    have HL := Aside0.mk (Below.refl w0.heap.size w0)
    go_region
    all_goals go_wp2
    all_goals refine bodyPost_ret (v := .tuple #[.agg #[.bool false, .bool false, .int .i64 0], .bool (decide (0 ≤ n))]) (by simp [results, Tryd.results53, go_sem, (three_cells BF.out (.bool false) (.bool false) (.int .i64 0)).1, (three_cells BF.out (.bool false) (.bool false) (.int .i64 0)).2.1, (three_cells BF.out (.bool false) (.bool false) (.int .i64 0)).2.2]) rfl ?_
    all_goals exact ⟨rfl, (by repeat (first | exact HB.out | (with_reducible apply below_drew1) | (with_reducible apply pw_below_drewN) | (with_reducible refine below_set ?_ (by omega))))⟩
  by_cases hk1 : k = 1
  · subst hk1
    obtain ⟨hv, hf⟩ := hn rfl
    have HNV := Aside0.mk hv
    have HNF := Aside0.mk hf
    clear hv hf hn hk
    obtain ⟨bv, ebv⟩ : ∃ b, nm v = b := ⟨_, rfl⟩
    obtain ⟨bf, ebf⟩ : ∃ b, nm f = b := ⟨_, rfl⟩
    rw [ebv] at HNV
    rw [ebf] at HNF
    by_cases hz : n = 0
    · subst hz
      cases bv
      · go_enter Tryd.func53, Tryd.ntmps53
        go_upto_region 5 with fail
        have HB := Aside0.mk (show Below W.heap.size W ((W.alloc (.cells #[.int .i64 1, .string op, .int .i64 0, .string v, .string f, .slice A m c] 24 (0, 0))).alloc (.cells #[.bool false, .bool false, .int .i64 0] 87 (0, 0))) from below_alloc (below_alloc (Below.refl _ _) _) _)
        have BE := Aside0.mk (show ((W.alloc (.cells #[.int .i64 1, .string op, .int .i64 0, .string v, .string f, .slice A m c] 24 (0, 0))).alloc (.cells #[.bool false, .bool false, .int .i64 0] 87 (0, 0))).heap[W.heap.size]? = some (.cells #[.int .i64 1, .string op, .int .i64 0, .string v, .string f, .slice A m c] 24 (0, 0)) from blk_alloc (blk_new _ _) _)
        have BF := Aside0.mk (show ((W.alloc (.cells #[.int .i64 1, .string op, .int .i64 0, .string v, .string f, .slice A m c] 24 (0, 0))).alloc (.cells #[.bool false, .bool false, .int .i64 0] 87 (0, 0))).heap[W.heap.size + 1]? = some (.cells #[.bool false, .bool false, .int .i64 0] 87 (0, 0)) from blk_new' (by simp))
        clear HB0
        generalize ((W.alloc (.cells #[.int .i64 1, .string op, .int .i64 0, .string v, .string f, .slice A m c] 24 (0, 0))).alloc (.cells #[.bool false, .bool false, .int .i64 0] 87 (0, 0))) = w0 at *
        obtain ⟨qBE_0, qBE_1, qBE_2, qBE_3, qBE_4, qBE_5, lBE⟩ := cells6 BE.out
        have qBF_0 := blk_cell BF.out 0
        have qBF_1 := blk_cell BF.out 1
        have qBF_2 := blk_cell BF.out 2
        have lBF := blk_lt BF.out
        simp only [List.getElem?_toArray, List.getElem?_cons_zero, List.getElem?_cons_succ] at qBF_0 qBF_1 qBF_2
        have fBF := blk_frozen BF.out 0
        have fBF1 := blk_frozen BF.out 1
        have fBF2 := blk_frozen BF.out 2
        have HL := Aside0.mk (Below.refl w0.heap.size w0)
        go_wp2_with (first | (go_at_call 61; (with_reducible refine (Named.go HNV.out (by repeat (first | (with_reducible first | exact HB.out | apply below_alloc | apply pw_below_drewN | apply below_drew1) | exact HB.out))).mono ?_); rintro e w1 ⟨rfl, hb⟩; have n0_ := Aside0.mk (below_step (by repeat (first | (with_reducible first | exact HB.out | apply below_alloc | apply pw_below_drewN | apply below_drew1) | exact HB.out)) hb); clear HB; have HB := n0_; clear n0_; have hs_ := below_step (by repeat (first | (with_reducible first | exact HL.out | apply below_alloc | apply pw_below_drewN | apply below_drew1) | exact HL.out)) hb; have n_ := Aside0.mk (blk_below BE.out hs_); clear qBE_0 qBE_1 qBE_2 qBE_3 qBE_4 qBE_5 lBE; clear BE; have BE := n_; clear n_; obtain ⟨qBE_0, qBE_1, qBE_2, qBE_3, qBE_4, qBE_5, lBE⟩ := cells6 BE.out; have n_ := Aside0.mk (blk_below BF.out hs_); clear qBF_0 qBF_1 qBF_2 lBF fBF fBF1 fBF2; clear BF; have BF := n_; clear n_; have qBF_0 := blk_cell BF.out 0; have qBF_1 := blk_cell BF.out 1; have qBF_2 := blk_cell BF.out 2; have lBF := blk_lt BF.out; simp only [List.getElem?_toArray, List.getElem?_cons_zero, List.getElem?_cons_succ] at qBF_0 qBF_1 qBF_2; have fBF := blk_frozen BF.out 0; have fBF1 := blk_frozen BF.out 1; have fBF2 := blk_frozen BF.out 2; clear HL hs_ hb; have HL := Aside0.mk (Below.refl w1.heap.size w1)) | (go_at_call 61; (with_reducible refine (Named.go HNF.out (by repeat (first | (with_reducible first | exact HB.out | apply below_alloc | apply pw_below_drewN | apply below_drew1) | exact HB.out))).mono ?_); rintro e w2 ⟨rfl, hb⟩; have n0_ := Aside0.mk (below_step (by repeat (first | (with_reducible first | exact HB.out | apply below_alloc | apply pw_below_drewN | apply below_drew1) | exact HB.out)) hb); clear HB; have HB := n0_; clear n0_; have hs_ := below_step (by repeat (first | (with_reducible first | exact HL.out | apply below_alloc | apply pw_below_drewN | apply below_drew1) | exact HL.out)) hb; have n_ := Aside0.mk (blk_below BE.out hs_); clear qBE_0 qBE_1 qBE_2 qBE_3 qBE_4 qBE_5 lBE; clear BE; have BE := n_; clear n_; obtain ⟨qBE_0, qBE_1, qBE_2, qBE_3, qBE_4, qBE_5, lBE⟩ := cells6 BE.out; have n_ := Aside0.mk (blk_below BF.out hs_); clear qBF_0 qBF_1 qBF_2 lBF fBF fBF1 fBF2; clear BF; have BF := n_; clear n_; have qBF_0 := blk_cell BF.out 0; have qBF_1 := blk_cell BF.out 1; have qBF_2 := blk_cell BF.out 2; have lBF := blk_lt BF.out; simp only [List.getElem?_toArray, List.getElem?_cons_zero, List.getElem?_cons_succ] at qBF_0 qBF_1 qBF_2; have fBF := blk_frozen BF.out 0; have fBF1 := blk_frozen BF.out 1; have fBF2 := blk_frozen BF.out 2; clear HL hs_ hb; have HL := Aside0.mk (Below.refl w2.heap.size w2)))
        all_goals (try (exfalso; omega))
        all_goals go_wp2
        all_goals refine bodyPost_ret (v := .tuple #[.agg #[.bool false, .bool true, .int .i64 0], .bool false]) (by simp [results, Tryd.results53, go_sem, (three_cells BF.out (.bool false) (.bool true) (.int .i64 0)).1, (three_cells BF.out (.bool false) (.bool true) (.int .i64 0)).2.1, (three_cells BF.out (.bool false) (.bool true) (.int .i64 0)).2.2]) rfl ?_
        all_goals exact ⟨by simp [formOp, formNames, formKids, formOk, ebv], (by repeat (first | exact HB.out | (with_reducible apply below_drew1) | (with_reducible apply pw_below_drewN) | (with_reducible refine below_set ?_ (by omega))))⟩
      · go_enter Tryd.func53, Tryd.ntmps53
        go_upto_region 5 with fail
        have HB := Aside0.mk (show Below W.heap.size W ((W.alloc (.cells #[.int .i64 1, .string op, .int .i64 0, .string v, .string f, .slice A m c] 24 (0, 0))).alloc (.cells #[.bool false, .bool false, .int .i64 0] 87 (0, 0))) from below_alloc (below_alloc (Below.refl _ _) _) _)
        have BE := Aside0.mk (show ((W.alloc (.cells #[.int .i64 1, .string op, .int .i64 0, .string v, .string f, .slice A m c] 24 (0, 0))).alloc (.cells #[.bool false, .bool false, .int .i64 0] 87 (0, 0))).heap[W.heap.size]? = some (.cells #[.int .i64 1, .string op, .int .i64 0, .string v, .string f, .slice A m c] 24 (0, 0)) from blk_alloc (blk_new _ _) _)
        have BF := Aside0.mk (show ((W.alloc (.cells #[.int .i64 1, .string op, .int .i64 0, .string v, .string f, .slice A m c] 24 (0, 0))).alloc (.cells #[.bool false, .bool false, .int .i64 0] 87 (0, 0))).heap[W.heap.size + 1]? = some (.cells #[.bool false, .bool false, .int .i64 0] 87 (0, 0)) from blk_new' (by simp))
        clear HB0
        generalize ((W.alloc (.cells #[.int .i64 1, .string op, .int .i64 0, .string v, .string f, .slice A m c] 24 (0, 0))).alloc (.cells #[.bool false, .bool false, .int .i64 0] 87 (0, 0))) = w0 at *
        obtain ⟨qBE_0, qBE_1, qBE_2, qBE_3, qBE_4, qBE_5, lBE⟩ := cells6 BE.out
        have qBF_0 := blk_cell BF.out 0
        have qBF_1 := blk_cell BF.out 1
        have qBF_2 := blk_cell BF.out 2
        have lBF := blk_lt BF.out
        simp only [List.getElem?_toArray, List.getElem?_cons_zero, List.getElem?_cons_succ] at qBF_0 qBF_1 qBF_2
        have fBF := blk_frozen BF.out 0
        have fBF1 := blk_frozen BF.out 1
        have fBF2 := blk_frozen BF.out 2
        have HL := Aside0.mk (Below.refl w0.heap.size w0)
        go_wp2_with (first | (go_at_call 61; (with_reducible refine (Named.go HNV.out (by repeat (first | (with_reducible first | exact HB.out | apply below_alloc | apply pw_below_drewN | apply below_drew1) | exact HB.out))).mono ?_); rintro e w1 ⟨rfl, hb⟩; have n0_ := Aside0.mk (below_step (by repeat (first | (with_reducible first | exact HB.out | apply below_alloc | apply pw_below_drewN | apply below_drew1) | exact HB.out)) hb); clear HB; have HB := n0_; clear n0_; have hs_ := below_step (by repeat (first | (with_reducible first | exact HL.out | apply below_alloc | apply pw_below_drewN | apply below_drew1) | exact HL.out)) hb; have n_ := Aside0.mk (blk_below BE.out hs_); clear qBE_0 qBE_1 qBE_2 qBE_3 qBE_4 qBE_5 lBE; clear BE; have BE := n_; clear n_; obtain ⟨qBE_0, qBE_1, qBE_2, qBE_3, qBE_4, qBE_5, lBE⟩ := cells6 BE.out; have n_ := Aside0.mk (blk_below BF.out hs_); clear qBF_0 qBF_1 qBF_2 lBF fBF fBF1 fBF2; clear BF; have BF := n_; clear n_; have qBF_0 := blk_cell BF.out 0; have qBF_1 := blk_cell BF.out 1; have qBF_2 := blk_cell BF.out 2; have lBF := blk_lt BF.out; simp only [List.getElem?_toArray, List.getElem?_cons_zero, List.getElem?_cons_succ] at qBF_0 qBF_1 qBF_2; have fBF := blk_frozen BF.out 0; have fBF1 := blk_frozen BF.out 1; have fBF2 := blk_frozen BF.out 2; clear HL hs_ hb; have HL := Aside0.mk (Below.refl w1.heap.size w1)) | (go_at_call 61; (with_reducible refine (Named.go HNF.out (by repeat (first | (with_reducible first | exact HB.out | apply below_alloc | apply pw_below_drewN | apply below_drew1) | exact HB.out))).mono ?_); rintro e w2 ⟨rfl, hb⟩; have n0_ := Aside0.mk (below_step (by repeat (first | (with_reducible first | exact HB.out | apply below_alloc | apply pw_below_drewN | apply below_drew1) | exact HB.out)) hb); clear HB; have HB := n0_; clear n0_; have hs_ := below_step (by repeat (first | (with_reducible first | exact HL.out | apply below_alloc | apply pw_below_drewN | apply below_drew1) | exact HL.out)) hb; have n_ := Aside0.mk (blk_below BE.out hs_); clear qBE_0 qBE_1 qBE_2 qBE_3 qBE_4 qBE_5 lBE; clear BE; have BE := n_; clear n_; obtain ⟨qBE_0, qBE_1, qBE_2, qBE_3, qBE_4, qBE_5, lBE⟩ := cells6 BE.out; have n_ := Aside0.mk (blk_below BF.out hs_); clear qBF_0 qBF_1 qBF_2 lBF fBF fBF1 fBF2; clear BF; have BF := n_; clear n_; have qBF_0 := blk_cell BF.out 0; have qBF_1 := blk_cell BF.out 1; have qBF_2 := blk_cell BF.out 2; have lBF := blk_lt BF.out; simp only [List.getElem?_toArray, List.getElem?_cons_zero, List.getElem?_cons_succ] at qBF_0 qBF_1 qBF_2; have fBF := blk_frozen BF.out 0; have fBF1 := blk_frozen BF.out 1; have fBF2 := blk_frozen BF.out 2; clear HL hs_ hb; have HL := Aside0.mk (Below.refl w2.heap.size w2)))
        all_goals (try (exfalso; omega))
        all_goals go_wp2
        all_goals refine bodyPost_ret (v := .tuple #[.agg #[.bool false, .bool true, .int .i64 0], .bool bf]) (by simp [results, Tryd.results53, go_sem, (three_cells BF.out (.bool false) (.bool true) (.int .i64 0)).1, (three_cells BF.out (.bool false) (.bool true) (.int .i64 0)).2.1, (three_cells BF.out (.bool false) (.bool true) (.int .i64 0)).2.2]) rfl ?_
        all_goals exact ⟨by simp [formOp, formNames, formKids, formOk, ebv, ebf], (by repeat (first | exact HB.out | (with_reducible apply below_drew1) | (with_reducible apply pw_below_drewN) | (with_reducible refine below_set ?_ (by omega))))⟩
    · have hz0 : (n == 0) = false := beq_eq_false_iff_ne.mpr hz
      go_enter Tryd.func53, Tryd.ntmps53
      go_upto_region 5 with fail
      have HB := Aside0.mk (show Below W.heap.size W ((W.alloc (.cells #[.int .i64 1, .string op, .int .i64 n, .string v, .string f, .slice A m c] 24 (0, 0))).alloc (.cells #[.bool false, .bool false, .int .i64 0] 87 (0, 0))) from below_alloc (below_alloc (Below.refl _ _) _) _)
      have BE := Aside0.mk (show ((W.alloc (.cells #[.int .i64 1, .string op, .int .i64 n, .string v, .string f, .slice A m c] 24 (0, 0))).alloc (.cells #[.bool false, .bool false, .int .i64 0] 87 (0, 0))).heap[W.heap.size]? = some (.cells #[.int .i64 1, .string op, .int .i64 n, .string v, .string f, .slice A m c] 24 (0, 0)) from blk_alloc (blk_new _ _) _)
      have BF := Aside0.mk (show ((W.alloc (.cells #[.int .i64 1, .string op, .int .i64 n, .string v, .string f, .slice A m c] 24 (0, 0))).alloc (.cells #[.bool false, .bool false, .int .i64 0] 87 (0, 0))).heap[W.heap.size + 1]? = some (.cells #[.bool false, .bool false, .int .i64 0] 87 (0, 0)) from blk_new' (by simp))
      clear HB0
      generalize ((W.alloc (.cells #[.int .i64 1, .string op, .int .i64 n, .string v, .string f, .slice A m c] 24 (0, 0))).alloc (.cells #[.bool false, .bool false, .int .i64 0] 87 (0, 0))) = w0 at *
      obtain ⟨qBE_0, qBE_1, qBE_2, qBE_3, qBE_4, qBE_5, lBE⟩ := cells6 BE.out
      have qBF_0 := blk_cell BF.out 0
      have qBF_1 := blk_cell BF.out 1
      have qBF_2 := blk_cell BF.out 2
      have lBF := blk_lt BF.out
      simp only [List.getElem?_toArray, List.getElem?_cons_zero, List.getElem?_cons_succ] at qBF_0 qBF_1 qBF_2
      have fBF := blk_frozen BF.out 0
      have fBF1 := blk_frozen BF.out 1
      have fBF2 := blk_frozen BF.out 2
      have HL := Aside0.mk (Below.refl w0.heap.size w0)
      go_wp2_with (first | (go_at_call 61; (with_reducible refine (Named.go HNV.out (by repeat (first | (with_reducible first | exact HB.out | apply below_alloc | apply pw_below_drewN | apply below_drew1) | exact HB.out))).mono ?_); rintro e w1 ⟨rfl, hb⟩; have n0_ := Aside0.mk (below_step (by repeat (first | (with_reducible first | exact HB.out | apply below_alloc | apply pw_below_drewN | apply below_drew1) | exact HB.out)) hb); clear HB; have HB := n0_; clear n0_; have hs_ := below_step (by repeat (first | (with_reducible first | exact HL.out | apply below_alloc | apply pw_below_drewN | apply below_drew1) | exact HL.out)) hb; have n_ := Aside0.mk (blk_below BE.out hs_); clear qBE_0 qBE_1 qBE_2 qBE_3 qBE_4 qBE_5 lBE; clear BE; have BE := n_; clear n_; obtain ⟨qBE_0, qBE_1, qBE_2, qBE_3, qBE_4, qBE_5, lBE⟩ := cells6 BE.out; have n_ := Aside0.mk (blk_below BF.out hs_); clear qBF_0 qBF_1 qBF_2 lBF fBF fBF1 fBF2; clear BF; have BF := n_; clear n_; have qBF_0 := blk_cell BF.out 0; have qBF_1 := blk_cell BF.out 1; have qBF_2 := blk_cell BF.out 2; have lBF := blk_lt BF.out; simp only [List.getElem?_toArray, List.getElem?_cons_zero, List.getElem?_cons_succ] at qBF_0 qBF_1 qBF_2; have fBF := blk_frozen BF.out 0; have fBF1 := blk_frozen BF.out 1; have fBF2 := blk_frozen BF.out 2; clear HL hs_ hb; have HL := Aside0.mk (Below.refl w1.heap.size w1)) | (go_at_call 61; (with_reducible refine (Named.go HNF.out (by repeat (first | (with_reducible first | exact HB.out | apply below_alloc | apply pw_below_drewN | apply below_drew1) | exact HB.out))).mono ?_); rintro e w2 ⟨rfl, hb⟩; have n0_ := Aside0.mk (below_step (by repeat (first | (with_reducible first | exact HB.out | apply below_alloc | apply pw_below_drewN | apply below_drew1) | exact HB.out)) hb); clear HB; have HB := n0_; clear n0_; have hs_ := below_step (by repeat (first | (with_reducible first | exact HL.out | apply below_alloc | apply pw_below_drewN | apply below_drew1) | exact HL.out)) hb; have n_ := Aside0.mk (blk_below BE.out hs_); clear qBE_0 qBE_1 qBE_2 qBE_3 qBE_4 qBE_5 lBE; clear BE; have BE := n_; clear n_; obtain ⟨qBE_0, qBE_1, qBE_2, qBE_3, qBE_4, qBE_5, lBE⟩ := cells6 BE.out; have n_ := Aside0.mk (blk_below BF.out hs_); clear qBF_0 qBF_1 qBF_2 lBF fBF fBF1 fBF2; clear BF; have BF := n_; clear n_; have qBF_0 := blk_cell BF.out 0; have qBF_1 := blk_cell BF.out 1; have qBF_2 := blk_cell BF.out 2; have lBF := blk_lt BF.out; simp only [List.getElem?_toArray, List.getElem?_cons_zero, List.getElem?_cons_succ] at qBF_0 qBF_1 qBF_2; have fBF := blk_frozen BF.out 0; have fBF1 := blk_frozen BF.out 1; have fBF2 := blk_frozen BF.out 2; clear HL hs_ hb; have HL := Aside0.mk (Below.refl w2.heap.size w2)))
      all_goals (try (exfalso; omega))
      all_goals go_wp2
      all_goals refine bodyPost_ret (v := .tuple #[.agg #[.bool false, .bool true, .int .i64 0], .bool false]) (by simp [results, Tryd.results53, go_sem, (three_cells BF.out (.bool false) (.bool true) (.int .i64 0)).1, (three_cells BF.out (.bool false) (.bool true) (.int .i64 0)).2.1, (three_cells BF.out (.bool false) (.bool true) (.int .i64 0)).2.2]) rfl ?_
      all_goals exact ⟨by simp [formOp, formNames, formKids, formOk, hz], (by repeat (first | exact HB.out | (with_reducible apply below_drew1) | (with_reducible apply pw_below_drewN) | (with_reducible refine below_set ?_ (by omega))))⟩
  by_cases hk2 : k = 2
  · subst hk2
    clear hk hk1 hn
    by_cases hz : n = 0
    · subst hz
      cases h45 : op.toList == [45]
      · cases h33 : op.toList == [33]
        · go_enter Tryd.func53, Tryd.ntmps53
          go_upto_region 7 with fail
          have HB := Aside0.mk (show Below W.heap.size W ((W.alloc (.cells #[.int .i64 2, .string op, .int .i64 0, .string v, .string f, .slice A m c] 24 (0, 0))).alloc (.cells #[.bool false, .bool false, .int .i64 0] 87 (0, 0))) from below_alloc (below_alloc (Below.refl _ _) _) _)
          have BE := Aside0.mk (show ((W.alloc (.cells #[.int .i64 2, .string op, .int .i64 0, .string v, .string f, .slice A m c] 24 (0, 0))).alloc (.cells #[.bool false, .bool false, .int .i64 0] 87 (0, 0))).heap[W.heap.size]? = some (.cells #[.int .i64 2, .string op, .int .i64 0, .string v, .string f, .slice A m c] 24 (0, 0)) from blk_alloc (blk_new _ _) _)
          have BF := Aside0.mk (show ((W.alloc (.cells #[.int .i64 2, .string op, .int .i64 0, .string v, .string f, .slice A m c] 24 (0, 0))).alloc (.cells #[.bool false, .bool false, .int .i64 0] 87 (0, 0))).heap[W.heap.size + 1]? = some (.cells #[.bool false, .bool false, .int .i64 0] 87 (0, 0)) from blk_new' (by simp))
          clear HB0
          generalize ((W.alloc (.cells #[.int .i64 2, .string op, .int .i64 0, .string v, .string f, .slice A m c] 24 (0, 0))).alloc (.cells #[.bool false, .bool false, .int .i64 0] 87 (0, 0))) = w0 at *
          obtain ⟨qBE_0, qBE_1, qBE_2, qBE_3, qBE_4, qBE_5, lBE⟩ := cells6 BE.out
          have qBF_0 := blk_cell BF.out 0
          have qBF_1 := blk_cell BF.out 1
          have qBF_2 := blk_cell BF.out 2
          have lBF := blk_lt BF.out
          simp only [List.getElem?_toArray, List.getElem?_cons_zero, List.getElem?_cons_succ] at qBF_0 qBF_1 qBF_2
          have fBF := blk_frozen BF.out 0
          have fBF1 := blk_frozen BF.out 1
          have fBF2 := blk_frozen BF.out 2
          have HL := Aside0.mk (Below.refl w0.heap.size w0)
          go_region
          all_goals go_wp2
          all_goals refine bodyPost_ret (v := .tuple #[.agg #[.bool true, .bool false, .int .i64 1], .bool false]) (by simp [results, Tryd.results53, go_sem, (three_cells BF.out (.bool true) (.bool false) (.int .i64 1)).1, (three_cells BF.out (.bool true) (.bool false) (.int .i64 1)).2.1, (three_cells BF.out (.bool true) (.bool false) (.int .i64 1)).2.2]) rfl ?_
          all_goals exact ⟨by simp [formOp, formNames, formKids, formOk, eqS, h45, h33], (by repeat (first | exact HB.out | (with_reducible apply below_drew1) | (with_reducible apply pw_below_drewN) | (with_reducible refine below_set ?_ (by omega))))⟩
        · go_enter Tryd.func53, Tryd.ntmps53
          go_upto_region 7 with fail
          have HB := Aside0.mk (show Below W.heap.size W ((W.alloc (.cells #[.int .i64 2, .string op, .int .i64 0, .string v, .string f, .slice A m c] 24 (0, 0))).alloc (.cells #[.bool false, .bool false, .int .i64 0] 87 (0, 0))) from below_alloc (below_alloc (Below.refl _ _) _) _)
          have BE := Aside0.mk (show ((W.alloc (.cells #[.int .i64 2, .string op, .int .i64 0, .string v, .string f, .slice A m c] 24 (0, 0))).alloc (.cells #[.bool false, .bool false, .int .i64 0] 87 (0, 0))).heap[W.heap.size]? = some (.cells #[.int .i64 2, .string op, .int .i64 0, .string v, .string f, .slice A m c] 24 (0, 0)) from blk_alloc (blk_new _ _) _)
          have BF := Aside0.mk (show ((W.alloc (.cells #[.int .i64 2, .string op, .int .i64 0, .string v, .string f, .slice A m c] 24 (0, 0))).alloc (.cells #[.bool false, .bool false, .int .i64 0] 87 (0, 0))).heap[W.heap.size + 1]? = some (.cells #[.bool false, .bool false, .int .i64 0] 87 (0, 0)) from blk_new' (by simp))
          clear HB0
          generalize ((W.alloc (.cells #[.int .i64 2, .string op, .int .i64 0, .string v, .string f, .slice A m c] 24 (0, 0))).alloc (.cells #[.bool false, .bool false, .int .i64 0] 87 (0, 0))) = w0 at *
          obtain ⟨qBE_0, qBE_1, qBE_2, qBE_3, qBE_4, qBE_5, lBE⟩ := cells6 BE.out
          have qBF_0 := blk_cell BF.out 0
          have qBF_1 := blk_cell BF.out 1
          have qBF_2 := blk_cell BF.out 2
          have lBF := blk_lt BF.out
          simp only [List.getElem?_toArray, List.getElem?_cons_zero, List.getElem?_cons_succ] at qBF_0 qBF_1 qBF_2
          have fBF := blk_frozen BF.out 0
          have fBF1 := blk_frozen BF.out 1
          have fBF2 := blk_frozen BF.out 2
          have HL := Aside0.mk (Below.refl w0.heap.size w0)
          go_region
          all_goals go_wp2
          all_goals refine bodyPost_ret (v := .tuple #[.agg #[.bool true, .bool false, .int .i64 1], .bool true]) (by simp [results, Tryd.results53, go_sem, (three_cells BF.out (.bool true) (.bool false) (.int .i64 1)).1, (three_cells BF.out (.bool true) (.bool false) (.int .i64 1)).2.1, (three_cells BF.out (.bool true) (.bool false) (.int .i64 1)).2.2]) rfl ?_
          all_goals exact ⟨by simp [formOp, formNames, formKids, formOk, eqS, h45, h33], (by repeat (first | exact HB.out | (with_reducible apply below_drew1) | (with_reducible apply pw_below_drewN) | (with_reducible refine below_set ?_ (by omega))))⟩
      · go_enter Tryd.func53, Tryd.ntmps53
        go_upto_region 7 with fail
        have HB := Aside0.mk (show Below W.heap.size W ((W.alloc (.cells #[.int .i64 2, .string op, .int .i64 0, .string v, .string f, .slice A m c] 24 (0, 0))).alloc (.cells #[.bool false, .bool false, .int .i64 0] 87 (0, 0))) from below_alloc (below_alloc (Below.refl _ _) _) _)
        have BE := Aside0.mk (show ((W.alloc (.cells #[.int .i64 2, .string op, .int .i64 0, .string v, .string f, .slice A m c] 24 (0, 0))).alloc (.cells #[.bool false, .bool false, .int .i64 0] 87 (0, 0))).heap[W.heap.size]? = some (.cells #[.int .i64 2, .string op, .int .i64 0, .string v, .string f, .slice A m c] 24 (0, 0)) from blk_alloc (blk_new _ _) _)
        have BF := Aside0.mk (show ((W.alloc (.cells #[.int .i64 2, .string op, .int .i64 0, .string v, .string f, .slice A m c] 24 (0, 0))).alloc (.cells #[.bool false, .bool false, .int .i64 0] 87 (0, 0))).heap[W.heap.size + 1]? = some (.cells #[.bool false, .bool false, .int .i64 0] 87 (0, 0)) from blk_new' (by simp))
        clear HB0
        generalize ((W.alloc (.cells #[.int .i64 2, .string op, .int .i64 0, .string v, .string f, .slice A m c] 24 (0, 0))).alloc (.cells #[.bool false, .bool false, .int .i64 0] 87 (0, 0))) = w0 at *
        obtain ⟨qBE_0, qBE_1, qBE_2, qBE_3, qBE_4, qBE_5, lBE⟩ := cells6 BE.out
        have qBF_0 := blk_cell BF.out 0
        have qBF_1 := blk_cell BF.out 1
        have qBF_2 := blk_cell BF.out 2
        have lBF := blk_lt BF.out
        simp only [List.getElem?_toArray, List.getElem?_cons_zero, List.getElem?_cons_succ] at qBF_0 qBF_1 qBF_2
        have fBF := blk_frozen BF.out 0
        have fBF1 := blk_frozen BF.out 1
        have fBF2 := blk_frozen BF.out 2
        have HL := Aside0.mk (Below.refl w0.heap.size w0)
        go_region
        all_goals go_wp2
        all_goals refine bodyPost_ret (v := .tuple #[.agg #[.bool true, .bool false, .int .i64 1], .bool true]) (by simp [results, Tryd.results53, go_sem, (three_cells BF.out (.bool true) (.bool false) (.int .i64 1)).1, (three_cells BF.out (.bool true) (.bool false) (.int .i64 1)).2.1, (three_cells BF.out (.bool true) (.bool false) (.int .i64 1)).2.2]) rfl ?_
        all_goals exact ⟨by simp [formOp, formNames, formKids, formOk, eqS, h45], (by repeat (first | exact HB.out | (with_reducible apply below_drew1) | (with_reducible apply pw_below_drewN) | (with_reducible refine below_set ?_ (by omega))))⟩
    · have hz0 : (n == 0) = false := beq_eq_false_iff_ne.mpr hz
      go_enter Tryd.func53, Tryd.ntmps53
      go_upto_region 7 with fail
      have HB := Aside0.mk (show Below W.heap.size W ((W.alloc (.cells #[.int .i64 2, .string op, .int .i64 n, .string v, .string f, .slice A m c] 24 (0, 0))).alloc (.cells #[.bool false, .bool false, .int .i64 0] 87 (0, 0))) from below_alloc (below_alloc (Below.refl _ _) _) _)
      have BE := Aside0.mk (show ((W.alloc (.cells #[.int .i64 2, .string op, .int .i64 n, .string v, .string f, .slice A m c] 24 (0, 0))).alloc (.cells #[.bool false, .bool false, .int .i64 0] 87 (0, 0))).heap[W.heap.size]? = some (.cells #[.int .i64 2, .string op, .int .i64 n, .string v, .string f, .slice A m c] 24 (0, 0)) from blk_alloc (blk_new _ _) _)
      have BF := Aside0.mk (show ((W.alloc (.cells #[.int .i64 2, .string op, .int .i64 n, .string v, .string f, .slice A m c] 24 (0, 0))).alloc (.cells #[.bool false, .bool false, .int .i64 0] 87 (0, 0))).heap[W.heap.size + 1]? = some (.cells #[.bool false, .bool false, .int .i64 0] 87 (0, 0)) from blk_new' (by simp))
      clear HB0
      generalize ((W.alloc (.cells #[.int .i64 2, .string op, .int .i64 n, .string v, .string f, .slice A m c] 24 (0, 0))).alloc (.cells #[.bool false, .bool false, .int .i64 0] 87 (0, 0))) = w0 at *
      obtain ⟨qBE_0, qBE_1, qBE_2, qBE_3, qBE_4, qBE_5, lBE⟩ := cells6 BE.out
      have qBF_0 := blk_cell BF.out 0
      have qBF_1 := blk_cell BF.out 1
      have qBF_2 := blk_cell BF.out 2
      have lBF := blk_lt BF.out
      simp only [List.getElem?_toArray, List.getElem?_cons_zero, List.getElem?_cons_succ] at qBF_0 qBF_1 qBF_2
      have fBF := blk_frozen BF.out 0
      have fBF1 := blk_frozen BF.out 1
      have fBF2 := blk_frozen BF.out 2
      have HL := Aside0.mk (Below.refl w0.heap.size w0)
      go_region
      all_goals go_wp2
      all_goals refine bodyPost_ret (v := .tuple #[.agg #[.bool true, .bool false, .int .i64 1], .bool false]) (by simp [results, Tryd.results53, go_sem, (three_cells BF.out (.bool true) (.bool false) (.int .i64 1)).1, (three_cells BF.out (.bool true) (.bool false) (.int .i64 1)).2.1, (three_cells BF.out (.bool true) (.bool false) (.int .i64 1)).2.2]) rfl ?_
      all_goals exact ⟨by simp [formOp, formNames, formKids, formOk, hz], (by repeat (first | exact HB.out | (with_reducible apply below_drew1) | (with_reducible apply pw_below_drewN) | (with_reducible refine below_set ?_ (by omega))))⟩
  by_cases hk3 : k = 3
  · subst hk3
    clear hk hk1 hk2 hn
    by_cases hz : n = 0
    · subst hz
      go_enter Tryd.func53, Tryd.ntmps53
      go_upto_region 9 with fail
      have HB := Aside0.mk (show Below W.heap.size W ((W.alloc (.cells #[.int .i64 3, .string op, .int .i64 0, .string v, .string f, .slice A m c] 24 (0, 0))).alloc (.cells #[.bool false, .bool false, .int .i64 0] 87 (0, 0))) from below_alloc (below_alloc (Below.refl _ _) _) _)
      have BE := Aside0.mk (show ((W.alloc (.cells #[.int .i64 3, .string op, .int .i64 0, .string v, .string f, .slice A m c] 24 (0, 0))).alloc (.cells #[.bool false, .bool false, .int .i64 0] 87 (0, 0))).heap[W.heap.size]? = some (.cells #[.int .i64 3, .string op, .int .i64 0, .string v, .string f, .slice A m c] 24 (0, 0)) from blk_alloc (blk_new _ _) _)
      have BF := Aside0.mk (show ((W.alloc (.cells #[.int .i64 3, .string op, .int .i64 0, .string v, .string f, .slice A m c] 24 (0, 0))).alloc (.cells #[.bool false, .bool false, .int .i64 0] 87 (0, 0))).heap[W.heap.size + 1]? = some (.cells #[.bool false, .bool false, .int .i64 0] 87 (0, 0)) from blk_new' (by simp))
      clear HB0
      generalize ((W.alloc (.cells #[.int .i64 3, .string op, .int .i64 0, .string v, .string f, .slice A m c] 24 (0, 0))).alloc (.cells #[.bool false, .bool false, .int .i64 0] 87 (0, 0))) = w0 at *
      obtain ⟨qBE_0, qBE_1, qBE_2, qBE_3, qBE_4, qBE_5, lBE⟩ := cells6 BE.out
      have qBF_0 := blk_cell BF.out 0
      have qBF_1 := blk_cell BF.out 1
      have qBF_2 := blk_cell BF.out 2
      have lBF := blk_lt BF.out
      simp only [List.getElem?_toArray, List.getElem?_cons_zero, List.getElem?_cons_succ] at qBF_0 qBF_1 qBF_2
      have fBF := blk_frozen BF.out 0
      have fBF1 := blk_frozen BF.out 1
      have fBF2 := blk_frozen BF.out 2
      have HL := Aside0.mk (Below.refl w0.heap.size w0)
      go_wp2_with (first | (go_at_call 56; (with_reducible refine (level_c op).mono ?_); rintro e w1 ⟨rfl, hb⟩; have n0_ := Aside0.mk (below_step (by repeat (first | (with_reducible first | exact HB.out | apply below_alloc | apply pw_below_drewN | apply below_drew1) | exact HB.out)) hb); clear HB; have HB := n0_; clear n0_; have hs_ := below_step (by repeat (first | (with_reducible first | exact HL.out | apply below_alloc | apply pw_below_drewN | apply below_drew1) | exact HL.out)) hb; have n_ := Aside0.mk (blk_below BE.out hs_); clear qBE_0 qBE_1 qBE_2 qBE_3 qBE_4 qBE_5 lBE; clear BE; have BE := n_; clear n_; obtain ⟨qBE_0, qBE_1, qBE_2, qBE_3, qBE_4, qBE_5, lBE⟩ := cells6 BE.out; have n_ := Aside0.mk (blk_below BF.out hs_); clear qBF_0 qBF_1 qBF_2 lBF fBF fBF1 fBF2; clear BF; have BF := n_; clear n_; have qBF_0 := blk_cell BF.out 0; have qBF_1 := blk_cell BF.out 1; have qBF_2 := blk_cell BF.out 2; have lBF := blk_lt BF.out; simp only [List.getElem?_toArray, List.getElem?_cons_zero, List.getElem?_cons_succ] at qBF_0 qBF_1 qBF_2; have fBF := blk_frozen BF.out 0; have fBF1 := blk_frozen BF.out 1; have fBF2 := blk_frozen BF.out 2; clear HL hs_ hb; have HL := Aside0.mk (Below.refl w1.heap.size w1)))
      all_goals (try (exfalso; omega))
      all_goals go_wp2
      all_goals refine bodyPost_ret (v := .tuple #[.agg #[.bool true, .bool false, .int .i64 2], .bool (decide (0 < lvl op))]) (by simp [results, Tryd.results53, go_sem, (three_cells BF.out (.bool true) (.bool false) (.int .i64 2)).1, (three_cells BF.out (.bool true) (.bool false) (.int .i64 2)).2.1, (three_cells BF.out (.bool true) (.bool false) (.int .i64 2)).2.2]) rfl ?_
      all_goals exact ⟨by simp [formOp, formNames, formKids, formOk, decide_true], (by repeat (first | exact HB.out | (with_reducible apply below_drew1) | (with_reducible apply pw_below_drewN) | (with_reducible refine below_set ?_ (by omega))))⟩
    · have hz0 : (n == 0) = false := beq_eq_false_iff_ne.mpr hz
      go_enter Tryd.func53, Tryd.ntmps53
      go_upto_region 9 with fail
      have HB := Aside0.mk (show Below W.heap.size W ((W.alloc (.cells #[.int .i64 3, .string op, .int .i64 n, .string v, .string f, .slice A m c] 24 (0, 0))).alloc (.cells #[.bool false, .bool false, .int .i64 0] 87 (0, 0))) from below_alloc (below_alloc (Below.refl _ _) _) _)
      have BE := Aside0.mk (show ((W.alloc (.cells #[.int .i64 3, .string op, .int .i64 n, .string v, .string f, .slice A m c] 24 (0, 0))).alloc (.cells #[.bool false, .bool false, .int .i64 0] 87 (0, 0))).heap[W.heap.size]? = some (.cells #[.int .i64 3, .string op, .int .i64 n, .string v, .string f, .slice A m c] 24 (0, 0)) from blk_alloc (blk_new _ _) _)
      have BF := Aside0.mk (show ((W.alloc (.cells #[.int .i64 3, .string op, .int .i64 n, .string v, .string f, .slice A m c] 24 (0, 0))).alloc (.cells #[.bool false, .bool false, .int .i64 0] 87 (0, 0))).heap[W.heap.size + 1]? = some (.cells #[.bool false, .bool false, .int .i64 0] 87 (0, 0)) from blk_new' (by simp))
      clear HB0
      generalize ((W.alloc (.cells #[.int .i64 3, .string op, .int .i64 n, .string v, .string f, .slice A m c] 24 (0, 0))).alloc (.cells #[.bool false, .bool false, .int .i64 0] 87 (0, 0))) = w0 at *
      obtain ⟨qBE_0, qBE_1, qBE_2, qBE_3, qBE_4, qBE_5, lBE⟩ := cells6 BE.out
      have qBF_0 := blk_cell BF.out 0
      have qBF_1 := blk_cell BF.out 1
      have qBF_2 := blk_cell BF.out 2
      have lBF := blk_lt BF.out
      simp only [List.getElem?_toArray, List.getElem?_cons_zero, List.getElem?_cons_succ] at qBF_0 qBF_1 qBF_2
      have fBF := blk_frozen BF.out 0
      have fBF1 := blk_frozen BF.out 1
      have fBF2 := blk_frozen BF.out 2
      have HL := Aside0.mk (Below.refl w0.heap.size w0)
      go_wp2_with (first | (go_at_call 56; (with_reducible refine (level_c op).mono ?_); rintro e w1 ⟨rfl, hb⟩; have n0_ := Aside0.mk (below_step (by repeat (first | (with_reducible first | exact HB.out | apply below_alloc | apply pw_below_drewN | apply below_drew1) | exact HB.out)) hb); clear HB; have HB := n0_; clear n0_; have hs_ := below_step (by repeat (first | (with_reducible first | exact HL.out | apply below_alloc | apply pw_below_drewN | apply below_drew1) | exact HL.out)) hb; have n_ := Aside0.mk (blk_below BE.out hs_); clear qBE_0 qBE_1 qBE_2 qBE_3 qBE_4 qBE_5 lBE; clear BE; have BE := n_; clear n_; obtain ⟨qBE_0, qBE_1, qBE_2, qBE_3, qBE_4, qBE_5, lBE⟩ := cells6 BE.out; have n_ := Aside0.mk (blk_below BF.out hs_); clear qBF_0 qBF_1 qBF_2 lBF fBF fBF1 fBF2; clear BF; have BF := n_; clear n_; have qBF_0 := blk_cell BF.out 0; have qBF_1 := blk_cell BF.out 1; have qBF_2 := blk_cell BF.out 2; have lBF := blk_lt BF.out; simp only [List.getElem?_toArray, List.getElem?_cons_zero, List.getElem?_cons_succ] at qBF_0 qBF_1 qBF_2; have fBF := blk_frozen BF.out 0; have fBF1 := blk_frozen BF.out 1; have fBF2 := blk_frozen BF.out 2; clear HL hs_ hb; have HL := Aside0.mk (Below.refl w1.heap.size w1)))
      all_goals (try (exfalso; omega))
      all_goals go_wp2
      all_goals refine bodyPost_ret (v := .tuple #[.agg #[.bool true, .bool false, .int .i64 2], .bool false]) (by simp [results, Tryd.results53, go_sem, (three_cells BF.out (.bool true) (.bool false) (.int .i64 2)).1, (three_cells BF.out (.bool true) (.bool false) (.int .i64 2)).2.1, (three_cells BF.out (.bool true) (.bool false) (.int .i64 2)).2.2]) rfl ?_
      all_goals exact ⟨by simp [formOp, formNames, formKids, formOk, hz], (by repeat (first | exact HB.out | (with_reducible apply below_drew1) | (with_reducible apply pw_below_drewN) | (with_reducible refine below_set ?_ (by omega))))⟩
  have e0 : (k == 0) = false := beq_eq_false_iff_ne.mpr hk
  have e1 : (k == 1) = false := beq_eq_false_iff_ne.mpr hk1
  have e2 : (k == 2) = false := beq_eq_false_iff_ne.mpr hk2
  have e3 : (k == 3) = false := beq_eq_false_iff_ne.mpr hk3
  go_enter Tryd.func53, Tryd.ntmps53
  go_upto_region 10 with fail
  have HB := Aside0.mk (show Below W.heap.size W ((W.alloc (.cells #[.int .i64 k, .string op, .int .i64 n, .string v, .string f, .slice A m c] 24 (0, 0))).alloc (.cells #[.bool false, .bool false, .int .i64 0] 87 (0, 0))) from below_alloc (below_alloc (Below.refl _ _) _) _)
  have BE := Aside0.mk (show ((W.alloc (.cells #[.int .i64 k, .string op, .int .i64 n, .string v, .string f, .slice A m c] 24 (0, 0))).alloc (.cells #[.bool false, .bool false, .int .i64 0] 87 (0, 0))).heap[W.heap.size]? = some (.cells #[.int .i64 k, .string op, .int .i64 n, .string v, .string f, .slice A m c] 24 (0, 0)) from blk_alloc (blk_new _ _) _)
  have BF := Aside0.mk (show ((W.alloc (.cells #[.int .i64 k, .string op, .int .i64 n, .string v, .string f, .slice A m c] 24 (0, 0))).alloc (.cells #[.bool false, .bool false, .int .i64 0] 87 (0, 0))).heap[W.heap.size + 1]? = some (.cells #[.bool false, .bool false, .int .i64 0] 87 (0, 0)) from blk_new' (by simp))
  clear HB0
  generalize ((W.alloc (.cells #[.int .i64 k, .string op, .int .i64 n, .string v, .string f, .slice A m c] 24 (0, 0))).alloc (.cells #[.bool false, .bool false, .int .i64 0] 87 (0, 0))) = w0 at *
  obtain ⟨qBE_0, qBE_1, qBE_2, qBE_3, qBE_4, qBE_5, lBE⟩ := cells6 BE.out
  have qBF_0 := blk_cell BF.out 0
  have qBF_1 := blk_cell BF.out 1
  have qBF_2 := blk_cell BF.out 2
  have lBF := blk_lt BF.out
  simp only [List.getElem?_toArray, List.getElem?_cons_zero, List.getElem?_cons_succ] at qBF_0 qBF_1 qBF_2
  have fBF := blk_frozen BF.out 0
  have fBF1 := blk_frozen BF.out 1
  have fBF2 := blk_frozen BF.out 2
  have HL := Aside0.mk (Below.refl w0.heap.size w0)
  all_goals go_wp2
  all_goals refine bodyPost_ret (v := .tuple #[.agg #[.bool false, .bool false, .int .i64 0], .bool false]) (by simp [results, Tryd.results53, go_sem, (three_cells BF.out (.bool false) (.bool false) (.int .i64 0)).1, (three_cells BF.out (.bool false) (.bool false) (.int .i64 0)).2.1, (three_cells BF.out (.bool false) (.bool false) (.int .i64 0)).2.2]) rfl ?_
  all_goals exact ⟨by simp [formOp, formNames, formKids, formOk, hk, hk1, hk2, hk3], (by repeat (first | exact HB.out | (with_reducible apply below_drew1) | (with_reducible apply pw_below_drewN) | (with_reducible refine below_set ?_ (by omega))))⟩
end Go.Proofs.YtimmomhgljofnaaDoor.Hand
