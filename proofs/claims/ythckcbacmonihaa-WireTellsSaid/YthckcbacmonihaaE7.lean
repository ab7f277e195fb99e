/- Package wire's Get: the walk. -/
import Derived.Test.YthckcbacmonihaaE6
import Derived.OpenShut
set_option linter.unusedVariables false
set_option linter.unusedSimpArgs false
namespace Go.Proofs.Ythckcbacmonihaa.Hand
open Go.RowKit Go.Proofs.Ythckcbacmonihaa.PWireTells Go.Proofs.YthckcbacmonihaaW.PrintWords Go.Proofs.YthckcbacmonihaaW.PrintLast Go.Proofs.YthckcbacmonihaaW.PrintMore

/-- Where Get stands: the event that it makes, the error, the reader, the row of numbers. -/
def St (w W : World) (s : ByteArray) (a k t : Int) (v : Value) (l : List Int) : Prop :=
  Below w.heap.size w W ∧ W.heap[w.heap.size]? = some (.cells #[.int .i64 k, .int .i64 t, v] 24 (0, 0)) ∧ W.heap[w.heap.size + 1]? = some (.cells #[.int .i64 0] 35 (0, 0)) ∧ W.heap[w.heap.size + 1 + 1]? = some (.cells #[.string s, .int .i64 a] 67 (0, 0)) ∧ Kd.R (Kd.int .i64) 2 W w.heap.size (fun _ => True) v l
section
variable {w W W1 : World} {s : ByteArray} {a k t : Int} {v : Value} {l : List Int}
theorem St.rd (h : St w W s a k t v l) : Rd W (w.heap.size + 1 + 1) s a := ⟨blk_cell h.2.2.2.1 0, blk_cell h.2.2.2.1 1, blk_frozen h.2.2.2.1 1⟩
theorem St.below (h : St w W s a k t v l) (hb : Below W.heap.size W W1) : St w W1 s a k t v l := by
  obtain ⟨h1, h2, h3, h4, h5⟩ := h
  exact ⟨below_step h1 hb, blk_below h2 hb, blk_below h3 hb, blk_below h4 hb, Kd.R_below h5 hb⟩
theorem St.turn {b : Int} (h : St w W s a k t v l) (ht : Turn (w.heap.size + 1 + 1) b W W1) : St w W1 s b k t v l := by
  obtain ⟨W0, hb, rfl⟩ := ht
  obtain ⟨h1, h2, h3, h4, h5⟩ := h.below hb
  exact ⟨below_set h1 (show w.heap.size ≤ w.heap.size + 1 + 1 by omega), blk_far h2 (show w.heap.size ≠ w.heap.size + 1 + 1 by omega) _, blk_far h3 (show w.heap.size + 1 ≠ w.heap.size + 1 + 1 by omega) _, blk_put h4 1 _ rfl, Kd.R_mono (Kd.R_far (Kd.R_types h5 h4 (by decide)) (fun _ hk => hk.2) _) (fun _ _ => trivial)⟩
theorem St.ev0 (h : St w W s a k t v l) (k' : Int) : St w (W.setCell ⟨w.heap.size, 0, none⟩ (.int .i64 k')) s a k' t v l := by
  obtain ⟨h1, h2, h3, h4, h5⟩ := h
  exact ⟨below_set h1 (Nat.le_refl w.heap.size), blk_put h2 0 _ rfl, blk_far h3 (show w.heap.size + 1 ≠ w.heap.size by omega) _, blk_far h4 (show w.heap.size + 1 + 1 ≠ w.heap.size by omega) _, Kd.R_mono (Kd.R_far (Kd.R_types h5 h2 (by decide)) (fun _ hk => hk.2) _) (fun _ _ => trivial)⟩
theorem St.ev1 (h : St w W s a k t v l) (t' : Int) : St w (W.setCell ⟨w.heap.size, 1, none⟩ (.int .i64 t')) s a k t' v l := by
  obtain ⟨h1, h2, h3, h4, h5⟩ := h
  exact ⟨below_set h1 (Nat.le_refl w.heap.size), blk_put h2 1 _ rfl, blk_far h3 (show w.heap.size + 1 ≠ w.heap.size by omega) _, blk_far h4 (show w.heap.size + 1 + 1 ≠ w.heap.size by omega) _, Kd.R_mono (Kd.R_far (Kd.R_types h5 h2 (by decide)) (fun _ hk => hk.2) _) (fun _ _ => trivial)⟩
theorem St.ev2 {v' : Value} {l' : List Int} (h : St w W s a k t v l) (hr : Kd.R (Kd.int .i64) 2 W w.heap.size (fun _ => True) v' l') : St w (W.setCell ⟨w.heap.size, 2, none⟩ v') s a k t v' l' := by
  obtain ⟨h1, h2, h3, h4, h5⟩ := h
  exact ⟨below_set h1 (Nat.le_refl w.heap.size), blk_put h2 2 _ rfl, blk_far h3 (show w.heap.size + 1 ≠ w.heap.size by omega) _, blk_far h4 (show w.heap.size + 1 + 1 ≠ w.heap.size by omega) _, Kd.R_mono (Kd.R_far (Kd.R_types hr h2 (by decide)) (fun _ hk => hk.2) _) (fun _ _ => trivial)⟩
theorem St.new (w : World) (s : ByteArray) : St w (((w.alloc (.cells #[.int .i64 0, .int .i64 0, .slice none 0 0] 24)).alloc (.cells #[.int .i64 0] 35)).alloc (.cells #[.string s, .int .i64 0] 67)) s 0 0 0 (.slice none 0 0) [] := by
  refine ⟨below_alloc (below_alloc (below_alloc (Below.refl _ _) _) _) _, ?_, ?_, ?_, Kd.R_nil _ _ _ _ _⟩
  · exact blk_alloc (blk_alloc (blk_new w _) _) _
  · have := blk_alloc (blk_new (w.alloc (.cells #[.int .i64 0, .int .i64 0, .slice none 0 0] 24)) (.cells #[.int .i64 0] 35)) (.cells #[.string s, .int .i64 0] 67)
    simpa using this
  · have := blk_new ((w.alloc (.cells #[.int .i64 0, .int .i64 0, .slice none 0 0] 24)).alloc (.cells #[.int .i64 0] 35)) (.cells #[.string s, .int .i64 0] 67)
    simpa using this
end
end Go.Proofs.Ythckcbacmonihaa.Hand
