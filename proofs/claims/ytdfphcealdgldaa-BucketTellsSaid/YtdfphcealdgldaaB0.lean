/- Buckets in plain words: which may be, what is filled, what is taken; package bucket's calls so. -/
import Derived.Test.YtdfphcealdgldaaPBucketBoundsx2
set_option linter.unusedVariables false
namespace Go.Proofs.Ytdfphcealdgldaa.Hand
open Go.RowKit Go.Proofs.Ytdfphcealdgldaa.PBucketBounds Go.Proofs.YtdfphcealdgldaaW.PrintWords Go.Proofs.YtdfphcealdgldaaW.PrintLast Go.Proofs.YtdfphcealdgldaaW.PrintMore

def rightP (s l e : Int) : Prop := 0 ≤ s ∧ s ≤ 1000000 ∧ 0 ≤ l ∧ l ≤ s ∧ 1 ≤ e ∧ e ≤ 4611686018427387904
instance (s l e : Int) : Decidable (rightP s l e) := by unfold rightP; infer_instance
/-- What is left, and since when, up to a time. -/
def fillV (s l e a t : Int) : Int × Int :=
  if rightP s l e then (if l = s then (s, if a < t then t else a) else if t < a then (l, a) else if (t - a) / e ≥ s - l then (s, t) else (l + (t - a) / e, a + (t - a) / e * e)) else (l, a)
def takeV (s l e a t : Int) : Int × Int × Bool :=
  if rightP s l e ∧ (fillV s l e a t).1 ≠ 0 then ((fillV s l e a t).1 - 1, (fillV s l e a t).2, true) else ((fillV s l e a t).1, (fillV s l e a t).2, false)

def I64 (x : Int) : Prop := -9223372036854775808 ≤ x ∧ x ≤ 9223372036854775807
theorem w_id {x : Int} (h0 : -9223372036854775808 ≤ x) (h1 : x ≤ 9223372036854775807) : wrap64 x = x := by unfold wrap64; omega
theorem u_id {x : Int} (h0 : 0 ≤ x) (h1 : x ≤ 18446744073709551615) : IntKind.u64.wrap x = x := by rw [IntKind.wrap_u64]; omega
theorem u_diff {a t : Int} (ha : I64 a) (ht : I64 t) (h : a ≤ t) : IntKind.u64.wrap (wrap64 (t - a)) = t - a := by
  unfold I64 at ha ht; rw [IntKind.wrap_u64]; unfold wrap64; omega

theorem within_f (n a b : Int) : bucket_within.f n a b = some (decide (a ≤ n ∧ n ≤ b)) := by
  unfold bucket_within.f
  by_cases h : n ≥ a
  · rw [if_pos h]; congr 1; simp; omega
  · rw [if_neg h, decide_eq_false (by omega)]
theorem right_f (s l e a : Int) : bucket_Right.f s l e a = some (decide (rightP s l e)) := by
  unfold bucket_Right.f
  rw [within_f, within_f, within_f]
  simp only [Option.bind_some]
  unfold rightP
  by_cases h1 : 0 ≤ s ∧ s ≤ 1000000 <;> by_cases h2 : 0 ≤ l ∧ l ≤ s <;> by_cases h3 : 1 ≤ e ∧ e ≤ 4611686018427387904 <;> simp [h1, h2, h3] <;> omega
theorem mx_eq (a b : Int) : mx a b = if a < b then b else a := rfl
theorem div_bd {a t e : Int} (h : a ≤ t) (he : 1 ≤ e) : 0 ≤ (t - a) / e ∧ (t - a) / e * e ≤ t - a ∧ (t - a) / e ≤ t - a := by
  have h1 : 0 ≤ (t - a) / e := Int.ediv_nonneg (by omega) (by omega)
  have h2 := Int.mul_ediv_add_emod (t - a) e
  have h3 := Int.emod_nonneg (t - a) (show e ≠ 0 by omega)
  have h4 : e * ((t - a) / e) = (t - a) / e * e := Int.mul_comm _ _
  exact ⟨h1, by omega, Int.ediv_le_self _ (by omega)⟩
theorem wrap_add (a x : Int) : wrap64 (a + wrap64 x) = wrap64 (a + x) := by unfold wrap64; omega
theorem fill_f (s l e a t : Int) (ha : I64 a) (ht : I64 t) : bucket_Bucket_Fill.f s l e a t = some (s, (fillV s l e a t).1, e, (fillV s l e a t).2) := by
  unfold bucket_Bucket_Fill.f fillV bucket_Bucket_full.f
  rw [right_f]
  simp only [Option.bind_some, mx_eq]
  by_cases h : rightP s l e
  · rw [if_pos (by simpa using h), if_pos h]
    by_cases h1 : l = s
    · rw [if_pos h1, if_pos h1]
    rw [if_neg h1, if_neg h1]
    by_cases h2 : t < a
    · rw [if_pos h2, if_pos h2]
    rw [if_neg h2, if_neg h2]
    unfold rightP at h
    have hd := div_bd (show a ≤ t by omega) h.2.2.2.2.1
    have hd0 : I64 a ∧ I64 t := ⟨ha, ht⟩
    unfold I64 at hd0
    rw [u_id (x := e) (by omega) (by omega), if_neg (by omega), u_diff ha ht (by omega), Int.tdiv_eq_ediv_of_nonneg (by omega), u_id (x := (t - a) / e) (by omega) (by omega), w_id (x := s - l) (by omega) (by omega), u_id (x := s - l) (by omega) (by omega)]
    by_cases h3 : (t - a) / e ≥ s - l
    · rw [if_pos h3, if_pos h3]
      by_cases h4 : a < t
      · rw [if_pos h4]
      · rw [if_neg h4, show a = t from by omega]
    · rw [if_neg h3, if_neg h3, w_id (x := (t - a) / e) (by omega) (by omega), w_id (x := l + (t - a) / e) (by omega) (by omega), wrap_add, w_id (x := a + (t - a) / e * e) (by have := Int.mul_nonneg hd.1 (show 0 ≤ e by omega); omega) (by omega)]
  · rw [if_neg (by simpa using h), if_neg h]
theorem fill_right (s l e a t : Int) : rightP s (fillV s l e a t).1 e ↔ rightP s l e := by
  unfold fillV
  by_cases h : rightP s l e
  · rw [if_pos h]
    unfold rightP at h
    by_cases h1 : l = s
    · rw [if_pos h1]; unfold rightP; simp <;> omega
    rw [if_neg h1]
    by_cases h2 : t < a
    · rw [if_pos h2]
    rw [if_neg h2]
    have hd := div_bd (show a ≤ t by omega) h.2.2.2.2.1
    by_cases h3 : (t - a) / e ≥ s - l
    · rw [if_pos h3]; unfold rightP; simp <;> omega
    · rw [if_neg h3]; unfold rightP; simp <;> omega
  · rw [if_neg h]
theorem take_f (s l e a t : Int) (ha : I64 a) (ht : I64 t) : bucket_Bucket_Take.f s l e a t = some (s, (takeV s l e a t).1, e, (takeV s l e a t).2.1, (takeV s l e a t).2.2) := by
  unfold bucket_Bucket_Take.f takeV
  rw [fill_f s l e a t ha ht]
  simp only [Option.bind_some]
  rw [right_f]
  simp only [Option.bind_some]
  have hr := fill_right s l e a t
  by_cases h : rightP s l e
  · have h' := hr.2 h
    rw [if_pos (by simpa using h')]
    unfold rightP at h'
    by_cases h0 : (fillV s l e a t).1 = 0
    · rw [if_pos (by simpa using h0), if_neg (by simp [h0])]
    · rw [if_neg (by simpa using h0), if_pos ⟨h, h0⟩, w_id (by omega) (by omega)]
  · rw [if_neg (by simpa using fun x => h (hr.1 x)), if_neg (fun x => h x.1)]
theorem new_f (s e : Int) : bucket_New.f s e = some (if rightP s s e then (s, s, e, 0, 0) else (0, 0, 0, 0, 1)) := by
  unfold bucket_New.f
  rw [right_f]
  simp only [Option.bind_some]
  by_cases h : rightP s s e
  · rw [if_pos (by simpa using h), if_pos h]
  · rw [if_neg (by simpa using h), if_neg h]
def bk (s l e a : Int) : Value := .agg #[.int .i64 s, .int .i64 l, .int .i64 e, .int .i64 a]
theorem take_at (s l e a t l' a' : Int) (b : Bool) (w : World) (ha : I64 a) (ht : I64 t) (h : takeV s l e a t = (l', a', b)) :
    Calls Try.prog 12 #[.agg #[.int .i64 s, .int .i64 l, .int .i64 e, .int .i64 a], .int .i64 t] w fun x w' => x = .returned (.tuple #[.agg #[.int .i64 s, .int .i64 l', .int .i64 e, .int .i64 a'], .bool b]) ∧ Below w.heap.size w w' :=
  bucket_Bucket_Take.calls s l e a t s l' e a' b w (by rw [take_f s l e a t ha ht, h])
theorem fill_at (s l e a t l' a' : Int) (w : World) (ha : I64 a) (ht : I64 t) (h : fillV s l e a t = (l', a')) :
    Calls Try.prog 17 #[.agg #[.int .i64 s, .int .i64 l, .int .i64 e, .int .i64 a], .int .i64 t] w fun x w' => x = .returned (.agg #[.int .i64 s, .int .i64 l', .int .i64 e, .int .i64 a']) ∧ Below w.heap.size w w' :=
  bucket_Bucket_Fill.calls s l e a t s l' e a' w (by rw [fill_f s l e a t ha ht, h])
theorem right_at (s l e a : Int) (b : Bool) (w : World) (h : decide (rightP s l e) = b) :
    Calls Try.prog 15 #[.agg #[.int .i64 s, .int .i64 l, .int .i64 e, .int .i64 a]] w fun x w' => x = .returned (.bool b) ∧ Below w.heap.size w w' :=
  bucket_Right.calls s l e a b w (by rw [right_f, h])
theorem new_at (s e s' l' e' n : Int) (w : World) (h : (if rightP s s e then (s, s, e, 0, 0) else (0, 0, 0, 0, 1)) = (s', l', e', (0 : Int), n)) :
    Calls Try.prog 10 #[.int .i64 s, .int .i64 e] w fun x w' => x = .returned (.tuple #[.agg #[.int .i64 s', .int .i64 l', .int .i64 e', .int .i64 0], .int .i64 n]) ∧ Below w.heap.size w w' :=
  bucket_New.calls s e s' l' e' 0 n w (by rw [new_f, h])
end Go.Proofs.Ytdfphcealdgldaa.Hand
