/- Intervals: the same, covered. -/
import Derived.Test.YtoidaakmmnlhgaaK4
import Derived.ChangeKeysEq
set_option linter.unusedVariables false
set_option linter.unusedSimpArgs false
namespace Go.Proofs.Ytoidaakmmnlhgaa.Hand
open Go.RowKit Go.Proofs.YtoidaakmmnlhgaaW.PrintWords Go.Proofs.YtoidaakmmnlhgaaW.PrintLast Go.Proofs.YtoidaakmmnlhgaaW.PrintMore
theorem int_at {W : World} {ad : Addr} {n : Nat} {l : List Int} (h : Kd.C (Kd.int .i64) W (some ad) n l) (k : Nat) (x : Int) (hx : l[k]? = some x) : W.cell? (ad.add k) = some (.int .i64 x) := by
  obtain ⟨hk, _⟩ := List.getElem?_eq_some_iff.1 hx
  obtain ⟨ad', e, hr⟩ := h.2.2 (by have := h.1; omega)
  have e' := Option.some.inj e
  subst e'
  obtain ⟨cs, hl, hK, hc⟩ := hr k x hx
  obtain rfl : cs = [.int .i64 x] := hK
  have a0 := hc 0 _ rfl
  have e1 : ad.add (k * (Kd.int .i64).sz + 0) = ad.add k := by rw [show k * (Kd.int .i64).sz + 0 = k from by rw [show (Kd.int .i64).sz = 1 from rfl]; omega]
  rw [e1] at a0
  exact a0
theorem C_nil_eq {α : Type} {d : Kd α} {W : World} {n : Nat} {L : List α} (h : Kd.C d W none n L) : n = 0 ∧ L = [] := by
  have h0 : L = [] := by
    rcases Nat.eq_zero_or_pos L.length with h' | h'
    · exact List.eq_nil_of_length_eq_zero h'
    · obtain ⟨ad, e, _⟩ := h.2.2 (by have := h.1; omega)
      exact absurd e (by simp)
  subst h0
  exact ⟨h.1.symm, rfl⟩
theorem take_eq_succ {α : Type} {L M : List α} (k : Nat) (x : α) (h : L.take k = M.take k) (h1 : L[k]? = some x) (h2 : M[k]? = some x) : L.take (k + 1) = M.take (k + 1) := by
  rw [List.take_add_one, List.take_add_one, h, h1, h2]
theorem ne_of_at {α : Type} {L M : List α} (k : Nat) (x y : α) (h1 : L[k]? = some x) (h2 : M[k]? = some y) (h : x ≠ y) : L ≠ M := by
  rintro rfl
  rw [h1] at h2
  exact h (Option.some.inj h2)
theorem eq1_ (d : Nat) (w : World) (a b : Int) : (Op.equalIn (d + 1) 2 (.int .i64 a) (.int .i64 b)).run Try.prog w = .ok (a == b) w := by
  simp [Op.equalIn, run_underlying (show Try.prog.underlying 2 = some (.int .i64) by kernel_rfl)]
theorem part_ (w : World) (xs : Array Value) (off : Nat) (v : Value) (h : xs[off]? = some v) : (part 2 xs off).run Try.prog w = .ok v w := run_part_plain w (show Try.prog.plainKey 2 = true by kernel_rfl) h
theorem sz_ (w : World) : (sizeOf 2).run Try.prog w = .ok 1 w := by
  have h : (Try.prog.info? 2).map (·.size) = some 1 := by kernel_rfl
  cases hq : Try.prog.info? 2 with
  | none => simp [hq] at h
  | some i =>
    have hi : i.size = 1 := by simpa [hq] using h
    simp [sizeOf, typeInfo, hq, hi]
theorem eq2_ (w : World) (a b a' b' : Int) : (Op.equalIn 10000 43 (.agg #[.int .i64 a, .int .i64 b]) (.agg #[.int .i64 a', .int .i64 b'])).run Try.prog w = .ok (a == a' && b == b') w := by
  rw [show (10000 : Nat) = 9998 + 1 + 1 from rfl]
  have hu : Try.prog.underlying 43 = some (.array 2 2) := by kernel_rfl
  unfold Op.equalIn
  simp only [Sem.run_bind, run_underlying hu, Result.andThen_ok, sz_]
  have p0 : ∀ w, (part 2 #[.int .i64 a, .int .i64 b] 0).run Try.prog w = .ok (.int .i64 a) w := fun w => part_ w _ 0 _ rfl
  have p1 : ∀ w, (part 2 #[.int .i64 a, .int .i64 b] 1).run Try.prog w = .ok (.int .i64 b) w := fun w => part_ w _ 1 _ rfl
  have q0 : ∀ w, (part 2 #[.int .i64 a', .int .i64 b'] 0).run Try.prog w = .ok (.int .i64 a') w := fun w => part_ w _ 0 _ rfl
  have q1 : ∀ w, (part 2 #[.int .i64 a', .int .i64 b'] 1).run Try.prog w = .ok (.int .i64 b') w := fun w => part_ w _ 1 _ rfl
  have ee : ∀ w a b, (Op.equalIn 9999 2 (.int .i64 a) (.int .i64 b)).run Try.prog w = .ok (a == b) w := fun w a b => eq1_ 9998 w a b
  rcases Decidable.em (a = a') with rfl | h1 <;> rcases Decidable.em (b = b') with rfl | h2
  · simp [List.range', ee, p0, p1, q0, q1]
  · simp [List.range', ee, p0, p1, q0, q1, h2]
  · simp [List.range', ee, p0, p1, q0, q1, h1]
  · simp [List.range', ee, p0, p1, q0, q1, h1, h2]
end Go.Proofs.Ytoidaakmmnlhgaa.Hand
