/- Rows of ints that the call itself makes: append, in a form for the walks. -/
import Derived.Test.YtokfmhgbkladdaaS4
set_option linter.unusedVariables false
namespace Go.Proofs.Ytokfmhgbkladdaa.Hand
open Go.RowKit Go.Proofs.Ytokfmhgbkladdaa.PSizeTells Go.Proofs.YtokfmhgbkladdaaW.PrintWords Go.Proofs.YtokfmhgbkladdaaW.PrintLast Go.Proofs.YtokfmhgbkladdaaW.PrintMore

/-- v is a row of ints of the call's own, made behind 'base'. -/
def Row (W : World) (base : Nat) (v : Value) (xs : List Int) : Prop := Kd.R (Kd.int .i64) 3 W base (fun _ => True) v xs
theorem Row.nil (W : World) (base : Nat) : Row W base (.slice none 0 0) [] := Kd.R_nil _ _ _ _ _
theorem Row.shape {W : World} {base : Nat} {v : Value} {xs : List Int} (h : Row W base v xs) : ∃ A c, v = .slice A xs.length c ∧ xs.length ≤ c ∧ Kd.C (Kd.int .i64) W A xs.length xs := by
  obtain ⟨A, c, e⟩ := Kd.R_slice h
  subst e
  exact ⟨A, c, rfl, (Kd.R_reads' h).2⟩
theorem Row.below {W W1 : World} {base : Nat} {v : Value} {xs : List Int} (h : Row W base v xs) (hb : Below W.heap.size W W1) : Row W1 base v xs := Kd.R_below h hb
theorem Row.drewN {W : World} {base : Nat} {v : Value} {xs : List Int} (h : Row W base v xs) (n : Nat) : Row (W.drewN n) base v xs := Kd.R_drewN h n
section
variable {ops : Array Oper} {rest : List Oper} {o : Oper} {a : Act} {Q : Exit → Act → World → Prop}
theorem app1 {w0 W : World} (base : Nat) (hgd : o.guard = none) (s x : Operand) (ho : o.op = .call { callee := .builtin .append, args := #[s, x], argTypes := #[22, 22] })
    (v : Value) (xs : List Int) (p : Int) (hs : a.eval s = v) (hx : a.eval x = .slice (some ⟨W.heap.size, 0, none⟩) 1 1) (HO : Row W base v xs) (HB : Below base w0 W) (hbase : base ≤ W.heap.size) (hl : xs.length < 17592186044416)
    (h : ∀ v1 w1, Row w1 base v1 (xs ++ [p]) → Below base w0 w1 → wpList Try.prog ops Q rest (a.put o.dst v1) w1) :
    wpList Try.prog ops Q (o :: rest) a (W.alloc (.cells [Value.int .i64 p].toArray 3)) :=
  Kd.R_append (Kd.int .i64) (w0 := w0) base hgd s x 22 3 (.int .i64 0) 8 ho Try.underlying22 info3 rfl (by decide) (by omega) v xs p [.int .i64 p] (fun _ => True) (fun _ => False) hs hx rfl (fun _ hk => hk.elim) (fun _ _ => trivial) HO HB hbase (by omega)
    fun v1 w1 h1 h2 _ _ => h v1 w1 h1 h2
theorem appRow {w0 W : World} (base : Nat) (hgd : o.guard = none) (s x : Operand) (ho : o.op = .call { callee := .builtin .append, args := #[s, x], argTypes := #[22, 22] })
    (v : Value) (xs ys : List Int) (A : Option Addr) (m c : Nat) (hs : a.eval s = v) (hx : a.eval x = .slice A m c) (HO : Row W base v xs) (HR : Kd.C (Kd.int .i64) W A m ys) (HB : Below base w0 W) (hbase : base ≤ W.heap.size) (hl : xs.length + m < 17592186044416)
    (h : ∀ v1 w1, Row w1 base v1 (xs ++ ys) → Below base w0 w1 → wpList Try.prog ops Q rest (a.put o.dst v1) w1) :
    wpList Try.prog ops Q (o :: rest) a W :=
  Kd.R_append_row (fun x => .int .i64 x) (0 : Int) (h1 := fun _ => rfl) (w0 := w0) base hgd s x 22 3 (.int .i64 0) 8 ho Try.underlying22 info3 rfl (by omega) v xs ys A m c (fun _ => True) hs hx (fun _ _ => trivial) HO HR HB hbase (by omega)
    fun v1 w1 h1 h2 _ _ => h v1 w1 h1 h2
end
section
variable {ops : Array Oper} {o : Oper} {a : Act} {Q : Exit → Act → World → Prop} {Kc : Act → World → Prop}
/-- append(v, ys...) as a step of a region that draws its order. -/
theorem appRow_step {w0 W : World} (base : Nat) (hw : Region.wanted o (yielded ops a.tmps) = true) (s x : Operand) (ho : o.op = .call { callee := .builtin .append, args := #[s, x], argTypes := #[22, 22] })
    (v : Value) (xs ys : List Int) (A : Option Addr) (m c : Nat) (hs : a.eval s = v) (hx : a.eval x = .slice A m c) (HO : Row W base v xs) (HR : Kd.C (Kd.int .i64) W A m ys) (HB : Below base w0 W) (hbase : base ≤ W.heap.size) (hl : xs.length + m < 17592186044416)
    (h : ∀ v1 w1, Row w1 base v1 (xs ++ ys) → Below base w0 w1 → Kc (a.put o.dst v1) w1) :
    if Region.wanted o (yielded ops a.tmps) = true then Oper.wp Try.prog o a W Kc Q else Kc (a.put o.dst undef) W :=
  Kd.R_append_rows_step (Kd.int .i64) (Rr := (Kd.int .i64).K W) (w0 := w0) base hw s x 22 3 (.int .i64 0) 8 ho Try.underlying22 info3 rfl (by decide) (by omega) v xs ys A m c (fun _ => True) (fun _ => False) hs hx HO HR (fun _ _ h => h) (fun _ hk => hk.elim) (fun _ _ => trivial) HB hbase (by omega)
    fun v1 w1 h1 h2 _ _ => h v1 w1 h1 h2
end
/-- s[k:] and s[:k] of a row of ints: what the cut is, and that it reads as the list's part. -/
theorem cut_from (A : Option Addr) (c n : Nat) (l : List Int) (k : Nat) (hn : n = l.length) (hk : k ≤ n) (hc : n ≤ c) {w : World} (hr : Kd.C (Kd.int .i64) w A n l) :
    ∃ A', (∀ W : World, (Instr.slice 22 (.slice A n c) (some (.int .i64 (k : Int))) none none).run Try.prog W = .ok (.slice A' (n - k) (c - k)) W) ∧ Kd.C (Kd.int .i64) w A' (n - k) (l.drop k) := by
  subst hn
  obtain ⟨i, hi, _, hsz, _⟩ := info_parts info3
  obtain ⟨A', h1, h2, _⟩ := print_drop_of (P := Try.prog) (Value.int .i64) 0 22 3 .i64 Try.underlying22 hi hsz A c l (k : Int) (by omega) (by omega) hc
  simp only [Int.toNat_natCast, List.length_drop] at h1 h2
  exact ⟨A', h1, Kd.C_of_reads (h1 := fun _ => rfl) (h2 w (Kd.reads_of_C hr))⟩
theorem cut_to (A : Option Addr) (c n : Nat) (l : List Int) (k : Nat) (hn : n = l.length) (hk : k ≤ n) (hc : n ≤ c) {w : World} (hr : Kd.C (Kd.int .i64) w A n l) :
    (∀ W : World, (Instr.slice 22 (.slice A n c) none (some (.int .i64 (k : Int))) none).run Try.prog W = .ok (.slice A k c) W) ∧ Kd.C (Kd.int .i64) w A k (l.take k) := by
  subst hn
  obtain ⟨i, hi, _, hsz, _⟩ := info_parts info3
  obtain ⟨h1, h2, _⟩ := print_take_of (P := Try.prog) (Value.int .i64) 0 22 3 .i64 Try.underlying22 hi hsz A c l (k : Int) (by omega) (by omega) hc
  have hl : (l.take ((k : Int)).toNat).length = k := by simp; omega
  rw [hl] at h1
  have h3 := h2 w (Kd.reads_of_C hr)
  rw [hl, Int.toNat_natCast] at h3
  exact ⟨h1, Kd.C_of_reads (h1 := fun _ => rfl) h3⟩
end Go.Proofs.Ytokfmhgbkladdaa.Hand
