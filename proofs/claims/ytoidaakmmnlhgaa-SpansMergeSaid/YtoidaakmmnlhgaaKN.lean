/- Intervals: rows that are appended to; where a number goes, as the reference finds it. -/
import Derived.Test.YtoidaakmmnlhgaaKJ
set_option linter.unusedVariables false
set_option linter.unusedSimpArgs false
namespace Go.Proofs.Ytoidaakmmnlhgaa.Hand
open Go.RowKit Go.Proofs.YtoidaakmmnlhgaaW.PrintWords Go.Proofs.YtoidaakmmnlhgaaW.PrintLast Go.Proofs.YtoidaakmmnlhgaaW.PrintMore
def IRow (W : World) (base : Nat) (v : Value) (xs : List Iv) : Prop := Kd.R kI 43 W base (fun _ => True) v xs
theorem IRow.nil_ (W : World) (base : Nat) : IRow W base (.slice none 0 0) [] := Kd.R_nil kI _ _ _ _
theorem IRow.below {W W1 : World} {base : Nat} {v : Value} {xs : List Iv} (h : IRow W base v xs) (hb : Below W.heap.size W W1) : IRow W1 base v xs := Kd.R_below h hb
theorem IRow.reads {W : World} {base : Nat} {v : Value} {xs : List Iv} (h : IRow W base v xs) : ∃ A c, v = .slice A xs.length c ∧ xs.length ≤ c ∧ Kd.C kI W A xs.length xs := Kd.R_reads h
theorem kI_KM {W W1 : World} {base : Nat} {okp : Nat → Prop} (x : Iv) (cs : List Value) (h : kI.K W x cs) : kI.M W1 base okp x cs := by
  obtain ⟨c1, c2, rfl, h1, h2⟩ := h
  exact ⟨c1, c2, rfl, h1, h2⟩
section
variable {ops : Array Oper} {o : Oper} {rest : List Oper} {a : Act} {Q : Exit → Act → World → Prop} {Kc : Act → World → Prop} {w0 W : World}
theorem i_one {z : Nat} (base : Nat) (hgd : o.guard = none) (s x : Operand)
    (ho : o.op = .call { callee := .builtin .append, args := #[s, x], argTypes := #[22, 22] }) (v : Value) (xs : List Iv) (p q : Int) (hs : a.eval s = v) (hx : a.eval x = .slice (some ⟨z, 0, none⟩) 1 1) (hz : W.heap.size = z)
    (HO : IRow W base v xs) (HB : Below base w0 W) (hbase : base ≤ W.heap.size) (hl : (xs.length + 1) * 16 ≤ 140737488355328)
    (h : ∀ v1 w1, IRow w1 base v1 (xs ++ [(p, q)]) → Below base w0 w1 → wpList Try.prog ops Q rest (a.put o.dst v1) w1) :
    wpList Try.prog ops Q (o :: rest) a (W.alloc (.cells #[.int .i64 p, .int .i64 q] 43)) := by
  subst hz
  exact Kd.R_append kI base hgd s x 22 43 (.agg #[.int .i64 0, .int .i64 0]) 16 ho Try.underlying22 infoIv rfl (by decide) (by decide) v xs (p, q) [.int .i64 p, .int .i64 q] (fun _ => True) (fun _ => False) hs hx ⟨[.int .i64 p], [.int .i64 q], rfl, rfl, rfl⟩ (fun _ hk => hk.elim) (fun _ _ => trivial) HO HB hbase hl (fun v1 w1 r1 b1 g1 _ => h v1 w1 r1 b1)
theorem i_one_step {z : Nat} (base : Nat) (hw : Region.wanted o (yielded ops a.tmps) = true) (s x : Operand)
    (ho : o.op = .call { callee := .builtin .append, args := #[s, x], argTypes := #[22, 22] }) (v : Value) (xs : List Iv) (p q : Int) (hs : a.eval s = v) (hx : a.eval x = .slice (some ⟨z, 0, none⟩) 1 1) (hz : W.heap.size = z)
    (HO : IRow W base v xs) (HB : Below base w0 W) (hbase : base ≤ W.heap.size) (hl : (xs.length + 1) * 16 ≤ 140737488355328)
    (h : ∀ v1 w1, IRow w1 base v1 (xs ++ [(p, q)]) → Below base w0 w1 → Kc (a.put o.dst v1) w1) :
    if Region.wanted o (yielded ops a.tmps) = true then Oper.wp Try.prog o a (W.alloc (.cells #[.int .i64 p, .int .i64 q] 43)) Kc Q else Kc (a.put o.dst undef) (W.alloc (.cells #[.int .i64 p, .int .i64 q] 43)) := by
  subst hz
  exact Kd.R_append_step kI base hw s x 22 43 (.agg #[.int .i64 0, .int .i64 0]) 16 ho Try.underlying22 infoIv rfl (by decide) (by decide) v xs (p, q) [.int .i64 p, .int .i64 q] (fun _ => True) (fun _ => False) hs hx ⟨[.int .i64 p], [.int .i64 q], rfl, rfl, rfl⟩ (fun _ hk => hk.elim) (fun _ _ => trivial) HO HB hbase hl (fun v1 w1 r1 b1 g1 _ => h v1 w1 r1 b1)
theorem i_rows (base : Nat) (hgd : o.guard = none) (s x : Operand)
    (ho : o.op = .call { callee := .builtin .append, args := #[s, x], argTypes := #[22, 22] }) (v : Value) (xs ys : List Iv) (A : Option Addr) (m c : Nat) (hs : a.eval s = v) (hx : a.eval x = .slice A m c)
    (HO : IRow W base v xs) (HR : Kd.C kI W A m ys) (HB : Below base w0 W) (hbase : base ≤ W.heap.size) (hl : (xs.length + m) * 16 ≤ 140737488355328) (zs : List Iv) (hzs : xs ++ ys = zs)
    (h : ∀ v1 w1, IRow w1 base v1 zs → Below base w0 w1 → wpList Try.prog ops Q rest (a.put o.dst v1) w1) :
    wpList Try.prog ops Q (o :: rest) a W := by
  subst hzs
  exact Kd.R_append_rows kI (w0 := w0) base hgd s x 22 43 (.agg #[.int .i64 0, .int .i64 0]) 16 ho Try.underlying22 infoIv rfl (by decide) (by decide) v xs ys A m c (fun _ => True) (fun _ => False) hs hx HO HR (fun x cs h => kI_KM x cs h) (fun _ hk => hk.elim) (fun _ _ => trivial) HB hbase hl (fun v1 w1 r1 b1 g1 _ => h v1 w1 r1 b1)
end
theorem IRow.set_C {W : World} {base g j t' n c : Nat} {A : Option Addr} {xs : List Iv} {cells : Array Value} (h : IRow W base (.slice A n c) xs) (hb : W.heap[g]? = some (.cells cells t' (0, 0))) (ht : 43 ≠ t') (u : Value) : Kd.C kI (W.setCell ⟨g, j, none⟩ u) A xs.length xs := by
  have h2 := Kd.R_set h hb (fun q hq => by
    have : q = 43 := by simpa [kI, Kd.pair, Kd.int, Kd.scalar] using hq
    rw [this]
    exact ht) j u
  obtain ⟨A', c', e, _, hC⟩ := Kd.R_reads h2
  injection e with e1 e2 e3
  rw [e1]
  exact hC
theorem right_le {L : List Iv} (h : rightL L = true) (k : Nat) (y : Iv) (hy : L[k]? = some y) : y.1 ≤ y.2 := by
  rcases Int.lt_or_le y.2 y.1 with h1 | h1
  · have := rightL_no k (List.getElem?_eq_some_iff.1 hy).1 (show badB L k = true by unfold badB; rw [hy]; simp [h1])
    rw [this] at h
    cases h
  · exact h1
theorem at_unique {L : List Iv} {x : Int} (hr : rightL L = true) (hh : hasL L x = false) (k : Nat) (hk : k ≤ L.length) (h1 : (L.take k).all (fun y => decide (y.1 < x)) = true) (h2 : k = L.length ∨ ∃ y, L[k]? = some y ∧ ¬ y.1 < x) : atI L x = k := by
  have hno : (L.take k).any (gtB x) = false := by
    rw [List.any_eq_false]
    intro y hy
    have := List.all_eq_true.1 h1 y hy
    unfold gtB
    simp only [decide_eq_true_eq] at this ⊢
    omega
  unfold atI
  rcases h2 with rfl | ⟨y, hy, hy2⟩
  · rw [List.take_length] at hno
    rw [idxB_none _ _ hno]
    rfl
  · have hle := right_le hr k y hy
    have hne : ¬ y.1 = x := fun e => by
      have := any_of_at (hitB x x) L k y hy (by unfold hitB; simp; omega)
      rw [hasL_hit L x this] at hh
      cases hh
    rw [idxB_at (gtB x) L k y hy hno (by unfold gtB; simp; omega), if_neg (by omega)]
    omega
end Go.Proofs.Ytoidaakmmnlhgaa.Hand
