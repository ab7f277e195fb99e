/- The reference's buckets answer as package bucket's; ref. -/
import Derived.Test.YtdfphcealdgldaaB7
import Derived.Test.YtdfphcealdgldaaPTakex1
import Derived.Test.YtdfphcealdgldaaPNewx1
import Derived.OpenShut
set_option linter.unusedVariables false
namespace Go.Proofs.Ytdfphcealdgldaa.Hand
open Go.RowKit Go.Proofs.Ytdfphcealdgldaa.PBucketBounds Go.Proofs.YtdfphcealdgldaaW.PrintWords Go.Proofs.YtdfphcealdgldaaW.PrintLast Go.Proofs.YtdfphcealdgldaaW.PrintMore

theorem rright_f (s l e a : Int) : PTake.jettisonref17_Right.f s l e a = some (decide (rightP s l e)) := by
  unfold PTake.jettisonref17_Right.f
  by_cases hp : rightP s l e
  · rw [decide_eq_true hp]
    unfold rightP at hp
    rw [if_pos (by omega), if_pos (by omega), if_pos (by omega), if_pos (by omega), if_pos (by omega), decide_eq_true (by omega)]
  · rw [decide_eq_false hp]
    unfold rightP at hp
    repeat' split
    all_goals first | rfl | (rw [decide_eq_false (by omega)])
theorem rnew_f (s e : Int) : PNew.jettisonref17_New.f s e = some (if rightP s s e then (s, s, e, 0, 0) else (0, 0, 0, 0, 1)) := by
  have hr : PNew.jettisonref17_Right.f s s e 0 = some (decide (rightP s s e)) := rright_f s s e 0
  unfold PNew.jettisonref17_New.f
  rw [hr]
  simp only [Option.bind_some]
  by_cases h : rightP s s e
  · rw [if_pos (by simpa using h), if_pos h]
  · rw [if_neg (by simpa using h), if_neg h]
theorem u_diff2 {a t : Int} (ha : I64 a) (ht : I64 t) (h : a ≤ t) : IntKind.u64.wrap (IntKind.u64.wrap t - IntKind.u64.wrap a) = t - a := by
  unfold I64 at ha ht; rw [IntKind.wrap_u64, IntKind.wrap_u64, IntKind.wrap_u64]; omega
theorem rfill_f (s l e a t : Int) (ha : I64 a) (ht : I64 t) : PTake.jettisonref17_Bucket_Fill.f s l e a t = some (s, (fillV s l e a t).1, e, (fillV s l e a t).2) := by
  rw [← fill_f s l e a t ha ht]
  unfold PTake.jettisonref17_Bucket_Fill.f bucket_Bucket_Fill.f bucket_Bucket_full.f
  rw [rright_f, right_f]
  simp only [Option.bind_some]
  by_cases h : rightP s l e
  · rw [decide_eq_true h]
    simp only [if_true]
    by_cases h1 : l = s
    · rw [if_pos h1, if_pos h1, h1]
    rw [if_neg h1, if_neg h1]
    by_cases h2 : t < a
    · rw [if_pos h2, if_pos h2]
    rw [if_neg h2, if_neg h2, u_diff ha ht (by omega), u_diff2 ha ht (by omega)]
    by_cases h3 : IntKind.u64.wrap e = 0
    · rw [if_pos h3, if_pos h3]
    rw [if_neg h3, if_neg h3]
    by_cases h4 : IntKind.u64.wrap ((t - a).tdiv (IntKind.u64.wrap e)) ≥ IntKind.u64.wrap (wrap64 (s - l))
    · rw [if_pos h4, if_pos h4, mx_eq]
      by_cases h5 : a < t
      · rw [if_pos h5]
      · rw [if_neg h5, show t = a by omega]
    · rw [if_neg h4, if_neg h4]
  · rw [decide_eq_false h]
    simp only [Bool.false_eq_true, if_false]
theorem rtake_f (s l e a t : Int) (ha : I64 a) (ht : I64 t) : PTake.jettisonref17_Bucket_Take.f s l e a t = some (s, (takeV s l e a t).1, e, (takeV s l e a t).2.1, (takeV s l e a t).2.2) := by
  unfold PTake.jettisonref17_Bucket_Take.f takeV
  rw [rfill_f s l e a t ha ht]
  simp only [Option.bind_some]
  rw [rright_f]
  simp only [Option.bind_some]
  have hr := fill_right s l e a t
  by_cases h : rightP s l e
  · have h' := hr.2 h
    rw [if_pos (by simpa using h')]
    unfold rightP at h'
    by_cases h0 : (fillV s l e a t).1 = 0
    · rw [if_pos h0, if_neg (by simp [h0])]
    · rw [if_neg h0, if_pos ⟨h, h0⟩, w_id (by omega) (by omega)]
  · rw [if_neg (by simpa using fun x => h (hr.1 x)), if_neg (fun x => h x.1)]
theorem rtake_at (s l e a t l' a' : Int) (b : Bool) (w : World) (ha : I64 a) (ht : I64 t) (h : takeV s l e a t = (l', a', b)) :
    Calls Try.prog 14 #[.agg #[.int .i64 s, .int .i64 l, .int .i64 e, .int .i64 a], .int .i64 t] w fun x w' => x = .returned (.tuple #[.agg #[.int .i64 s, .int .i64 l', .int .i64 e, .int .i64 a'], .bool b]) ∧ Below w.heap.size w w' :=
  PTake.jettisonref17_Bucket_Take.calls s l e a t s l' e a' b w (by rw [rtake_f s l e a t ha ht, h])
theorem rfill_at (s l e a t l' a' : Int) (w : World) (ha : I64 a) (ht : I64 t) (h : fillV s l e a t = (l', a')) :
    Calls Try.prog 18 #[.agg #[.int .i64 s, .int .i64 l, .int .i64 e, .int .i64 a], .int .i64 t] w fun x w' => x = .returned (.agg #[.int .i64 s, .int .i64 l', .int .i64 e, .int .i64 a']) ∧ Below w.heap.size w w' :=
  PTake.jettisonref17_Bucket_Fill.calls s l e a t s l' e a' w (by rw [rfill_f s l e a t ha ht, h])
theorem rright_at (s l e a : Int) (b : Bool) (w : World) (h : decide (rightP s l e) = b) :
    Calls Try.prog 16 #[.agg #[.int .i64 s, .int .i64 l, .int .i64 e, .int .i64 a]] w fun x w' => x = .returned (.bool b) ∧ Below w.heap.size w w' :=
  PTake.jettisonref17_Right.calls s l e a b w (by rw [rright_f, h])
theorem rnew_at (s e s' l' e' n : Int) (w : World) (h : (if rightP s s e then (s, s, e, 0, 0) else (0, 0, 0, 0, 1)) = (s', l', e', (0 : Int), n)) :
    Calls Try.prog 11 #[.int .i64 s, .int .i64 e] w fun x w' => x = .returned (.tuple #[.agg #[.int .i64 s', .int .i64 l', .int .i64 e', .int .i64 0], .int .i64 n]) ∧ Below w.heap.size w w' :=
  PNew.jettisonref17_New.calls s e s' l' e' 0 n w (by rw [rnew_f, h])
set_option maxHeartbeats 400000 in
theorem ref_c (s l e a : Int) (w : World) : Calls Try.prog 13 #[.agg #[.int .i64 s, .int .i64 l, .int .i64 e, .int .i64 a]] w fun x w' => x = .returned (.agg #[.int .i64 s, .int .i64 l, .int .i64 e, .int .i64 a]) ∧ Below w.heap.size w w' := by
  have HB := Aside0.mk (Below.refl w.heap.size w)
  have hu := Try.underlying23
  have hu2 := Try.underlying31
  go_enter Try.func13, Try.ntmps13
  go_wp2
  try (go_quiet (fail); go_wp2)
  exact bodyPost_ret (v := .agg #[.int .i64 s, .int .i64 l, .int .i64 e, .int .i64 a]) (by simp [results, Try.results13, go_sem]) rfl ⟨rfl, (by repeat (first | (with_reducible first | exact HB.out | apply below_alloc | apply pw_below_drewN | apply below_drew1) | exact HB.out))⟩
/-- The reference's bucket of these parts lies in block g. -/
def Rk (W : World) (g : Nat) (s l e a : Int) : Prop := W.heap[g]? = some (.cells #[.int .i64 s, .int .i64 l, .int .i64 e, .int .i64 a] 31 (0, 0))
section
variable {W W1 : World} {g : Nat} {s l e a : Int}
theorem Rk.c0 (h : Rk W g s l e a) : W.cell? ⟨g, 0, none⟩ = some (.int .i64 s) := blk_cell h 0
theorem Rk.c1 (h : Rk W g s l e a) : W.cell? ⟨g, 1, none⟩ = some (.int .i64 l) := blk_cell h 1
theorem Rk.c2 (h : Rk W g s l e a) : W.cell? ⟨g, 2, none⟩ = some (.int .i64 e) := blk_cell h 2
theorem Rk.c3 (h : Rk W g s l e a) : W.cell? ⟨g, 3, none⟩ = some (.int .i64 a) := blk_cell h 3
theorem Rk.fr (h : Rk W g s l e a) (i : Nat) : W.frozen? ⟨g, i, none⟩ = false := blk_frozen h i
theorem Rk.lt (h : Rk W g s l e a) : g < W.heap.size := blk_lt h
theorem Rk.below (h : Rk W g s l e a) (hb : Below W.heap.size W W1) : Rk W1 g s l e a := blk_below h hb
theorem Rk.alloc (h : Rk W g s l e a) (o : Obj) : Rk (W.alloc o) g s l e a := blk_alloc h o
theorem Rk.new (W : World) (s l e a : Int) : Rk (W.alloc (.cells #[.int .i64 s, .int .i64 l, .int .i64 e, .int .i64 a] 31)) W.heap.size s l e a := blk_new W _
end
end Go.Proofs.Ytdfphcealdgldaa.Hand
