/- Rows of ints that the call itself makes: append, in a form for the walks. -/
import Derived.Test.YtokfmhgbkladdaaS4
set_option linter.unusedVariables false
namespace Go.Proofs.Ytokfmhgbkladdaa.Hand
open Go.RowKit Go.Proofs.Ytokfmhgbkladdaa.PSizeTells Go.Proofs.YtokfmhgbkladdaaW.PrintWords Go.Proofs.YtokfmhgbkladdaaW.PrintLast Go.Proofs.YtokfmhgbkladdaaW.PrintMore

/-- v is a row of ints of the call's own, made behind 'base'. -/
def Row (W : World) (base : Nat) (v : Value) (xs : List Int) : Prop := Kd.R (Kd.int .i64) 3 W base (fun _ => True) v xs
theorem Row.nil (W : World) (base : Nat) : Row W base (.slice none 0 0) [] := Kd.R_nil _ _ _ _ _
theorem Row.shape {W : World} {base : Nat} {v : Value} {xs : List Int} (h : Row W base v xs) : ∃ A c, v = .slice A xs.length c ∧ xs.length ≤ c ∧ Kd.C (Kd.int .i64) W A xs.length xs := by
  obtain ⟨A, c, e⟩ := Kd.R_slice h
  subst e
  exact ⟨A, c, rfl, (Kd.R_reads' h).2⟩
theorem Row.below {W W1 : World} {base : Nat} {v : Value} {xs : List Int} (h : Row W base v xs) (hb : Below W.heap.size W W1) : Row W1 base v xs := Kd.R_below h hb
theorem Row.drewN {W : World} {base : Nat} {v : Value} {xs : List Int} (h : Row W base v xs) (n : Nat) : Row (W.drewN n) base v xs := Kd.R_drewN h n
section
variable {ops : Array Oper} {rest : List Oper} {o : Oper} {a : Act} {Q : Exit → Act → World → Prop}
theorem app1 {w0 W : World} (base : Nat) (hgd : o.guard = none) (s x : Operand) (ho : o.op = .call { callee := .builtin .append, args := #[s, x], argTypes := #[22, 22] })
    (v : Value) (xs : List Int) (p : Int) (hs : a.eval s = v) (hx : a.eval x = .slice (some ⟨W.heap.size, 0, none⟩) 1 1) (HO : Row W base v xs) (HB : Below base w0 W) (hbase : base ≤ W.heap.size) (hl : xs.length < 17592186044416)
    (h : ∀ v1 w1, Row w1 base v1 (xs ++ [p]) → Below base w0 w1 → wpList Try.prog ops Q rest (a.put o.dst v1) w1) :
    wpList Try.prog ops Q (o :: rest) a (W.alloc (.cells [Value.int .i64 p].toArray 3)) :=
  Kd.R_append (Kd.int .i64) (w0 := w0) base hgd s x 22 3 (.int .i64 0) 8 ho Try.underlying22 info3 rfl (by decide) (by omega) v xs p [.int .i64 p] (fun _ => True) (fun _ => False) hs hx rfl (fun _ hk => hk.elim) (fun _ _ => trivial) HO HB hbase (by omega)
    fun v1 w1 h1 h2 _ _ => h v1 w1 h1 h2
theorem appRow {w0 W : World} (base : Nat) (hgd : o.guard = none) (s x : Operand) (ho : o.op = .call { callee := .builtin .append, args := #[s, x], argTypes := #[22, 22] })
    (v : Value) (xs ys : List Int) (A : Option Addr) (m c : Nat) (hs : a.eval s = v) (hx : a.eval x = .slice A m c) (HO : Row W base v xs) (HR : Kd.C (Kd.int .i64) W A m ys) (HB : Below base w0 W) (hbase : base ≤ W.heap.size) (hl : xs.length + m < 17592186044416)
    (h : ∀ v1 w1, Row w1 base v1 (xs ++ ys) → Below base w0 w1 → wpList Try.prog ops Q rest (a.put o.dst v1) w1) :
    wpList Try.prog ops Q (o :: rest) a W :=
  Kd.R_append_row (fun x => .int .i64 x) (0 : Int) (h1 := fun _ => rfl) (w0 := w0) base hgd s x 22 3 (.int .i64 0) 8 ho Try.underlying22 info3 rfl (by omega) v xs ys A m c (fun _ => True) hs hx (fun _ _ => trivial) HO HR HB hbase (by omega)
    fun v1 w1 h1 h2 _ _ => h v1 w1 h1 h2
end
end Go.Proofs.Ytokfmhgbkladdaa.Hand
