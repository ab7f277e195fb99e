/- Chapter 8: numbers are added, taken, multiplied, divided. -/
import Derived.Test.YtimmomhgljofnaaDoorV0
import Derived.Shelf.Bits.Mul64
set_option linter.unusedVariables false
set_option linter.unusedSimpArgs false
namespace Go.Proofs.YtimmomhgljofnaaDoor.Hand
open Go.Proofs.YtimmomhgljofnaaDoor.PValueBad
open Go.RowKit Go.Proofs.YtimmomhgljofnaaDoorW.PrintWords Go.Proofs.YtimmomhgljofnaaDoorW.PrintLast Go.Proofs.YtimmomhgljofnaaDoorW.PrintMore
def InI (n : Int) : Prop := -9223372036854775808 ≤ n ∧ n ≤ 9223372036854775807
instance (n : Int) : Decidable (InI n) := inferInstanceAs (Decidable (_ ∧ _))
/-- A number, if it fits. -/
def okF (n : Int) : Int × Bool := if InI n then (n, true) else (0, false)
def divF (a b : Int) : Int × Bool := if b = 0 ∨ (a = -9223372036854775808 ∧ b = -1) then (0, false) else (Int.tdiv a b, true)
def remF (a b : Int) : Int × Bool := if b = 0 ∨ (a = -9223372036854775808 ∧ b = -1) then (0, false) else (Int.tmod a b, true)
theorem wrap_in {n : Int} (h : InI n) : wrap64 n = n := by unfold wrap64; unfold InI at h; omega
theorem sure_f (n : Int) (b : Bool) : value_sure.f n b = some (if b then (n, true) else (0, false)) := by
  unfold value_sure.f
  cases b <;> rfl
theorem add_f {a b : Int} (ha : InI a) (hb : InI b) : value_Add.f a b = some (okF (a + b)) := by
  unfold value_Add.f
  rw [sure_f]
  unfold okF
  unfold InI at ha hb
  have hw : (wrap64 (a + b) = a + b ∧ InI (a + b)) ∨ (wrap64 (a + b) = a + b - 18446744073709551616 ∧ 9223372036854775807 < a + b) ∨ (wrap64 (a + b) = a + b + 18446744073709551616 ∧ a + b < -9223372036854775808) := by
    unfold wrap64 InI
    omega
  rcases hw with ⟨h, hi⟩ | ⟨h, h2⟩ | ⟨h, h2⟩
  · rw [h, show (decide (a + b < a) == decide (b < 0)) = true by simp only [show (a + b < a) = (b < 0) from propext (by omega)]; simp]
    simp [hi]
  · have hi : ¬InI (a + b) := by unfold InI; omega
    rw [h, show (decide (a + b - 18446744073709551616 < a) == decide (b < 0)) = false by rw [decide_eq_true (show a + b - 18446744073709551616 < a by omega), decide_eq_false (show ¬b < 0 by omega)]; rfl]
    simp [hi]
  · have hi : ¬InI (a + b) := by unfold InI; omega
    rw [h, show (decide (a + b + 18446744073709551616 < a) == decide (b < 0)) = false by rw [decide_eq_false (show ¬a + b + 18446744073709551616 < a by omega), decide_eq_true (show b < 0 by omega)]; rfl]
    simp [hi]
theorem sub_f {a b : Int} (ha : InI a) (hb : InI b) : value_Sub.f a b = some (okF (a - b)) := by
  unfold value_Sub.f
  rw [sure_f]
  unfold okF
  unfold InI at ha hb
  have hw : (wrap64 (a - b) = a - b ∧ InI (a - b)) ∨ (wrap64 (a - b) = a - b - 18446744073709551616 ∧ 9223372036854775807 < a - b) ∨ (wrap64 (a - b) = a - b + 18446744073709551616 ∧ a - b < -9223372036854775808) := by
    unfold wrap64 InI
    omega
  rcases hw with ⟨h, hi⟩ | ⟨h, h2⟩ | ⟨h, h2⟩
  · rw [h, show (decide (a - b > a) == decide (b < 0)) = true by simp only [show (a - b > a) = (b < 0) from propext (by omega)]; simp]
    simp [hi]
  · have hi : ¬InI (a - b) := by unfold InI; omega
    rw [h, show (decide (a - b - 18446744073709551616 > a) == decide (b < 0)) = false by rw [decide_eq_false (show ¬a - b - 18446744073709551616 > a by omega), decide_eq_true (show b < 0 by omega)]; rfl]
    simp [hi]
  · have hi : ¬InI (a - b) := by unfold InI; omega
    rw [h, show (decide (a - b + 18446744073709551616 > a) == decide (b < 0)) = false by rw [decide_eq_true (show a - b + 18446744073709551616 > a by omega), decide_eq_false (show ¬b < 0 by omega)]; rfl]
    simp [hi]
theorem divides_f (a b : Int) : value_divides.f a b = some (decide (¬(b = 0 ∨ (a = -9223372036854775808 ∧ b = -1)))) := by
  unfold value_divides.f
  by_cases h1 : b = 0
  · simp [h1]
  · by_cases h2 : a = -9223372036854775808
    · rw [if_neg h1, if_pos h2]
      by_cases h3 : b = -1 <;> simp [h1, h2, h3]
    · simp [h1, h2]
theorem tdiv_in {a b : Int} (ha : InI a) (hn : ¬(b = 0 ∨ (a = -9223372036854775808 ∧ b = -1))) : InI (Int.tdiv a b) := by
  unfold InI at *
  have h1 : (Int.tdiv a b).natAbs = a.natAbs / b.natAbs := Int.natAbs_tdiv a b
  have h2 : a.natAbs / b.natAbs ≤ a.natAbs := Nat.div_le_self _ _
  by_cases hb1 : b = -1
  · subst hb1
    have : Int.tdiv a (-1) = -a := by simp [Int.tdiv_neg]
    rw [this]
    omega
  · by_cases hb2 : b = 1
    · subst hb2
      rw [Int.tdiv_one]
      exact ha
    · have h3 : a.natAbs / b.natAbs ≤ a.natAbs / 2 := Nat.div_le_div_left (by omega) (by decide)
      omega
theorem div_f {a b : Int} (ha : InI a) : value_Div.f a b = some (divF a b) := by
  unfold value_Div.f divF
  rw [divides_f]
  by_cases h : b = 0 ∨ (a = -9223372036854775808 ∧ b = -1)
  · rw [if_pos h]; simp [h]
  · rw [if_neg h]
    have h0 : b ≠ 0 := fun e => h (.inl e)
    show (if decide (¬(b = 0 ∨ (a = -9223372036854775808 ∧ b = -1))) = true then _ else _) = _
    rw [if_pos (decide_eq_true h), if_neg h0, wrap_in (tdiv_in ha h)]
theorem rem_f {a b : Int} : value_Rem.f a b = some (remF a b) := by
  unfold value_Rem.f remF
  rw [divides_f]
  by_cases h : b = 0 ∨ (a = -9223372036854775808 ∧ b = -1)
  · rw [if_pos h]; simp [h]
  · rw [if_neg h]
    have h0 : b ≠ 0 := fun e => h (.inl e)
    show (if decide (¬(b = 0 ∨ (a = -9223372036854775808 ∧ b = -1))) = true then _ else _) = _
    rw [if_pos (decide_eq_true h), if_neg h0]
theorem drawn_below {P : Prop} {w w' : World} (h : P ∧ Drawn0 w w') : P ∧ Below w.heap.size w w' := by
  obtain ⟨h, nd, rfl⟩ := h
  exact ⟨h, pw_below_drewN (Below.refl _ _) nd⟩
theorem add_c {W : World} {a b : Int} (ha : InI a) (hb : InI b) (n : Int) (ok : Bool) (h : okF (a + b) = (n, ok)) : Calls Tryd.prog 14 #[.int .i64 a, .int .i64 b] W fun e w' => e = .returned (.tuple #[.int .i64 n, .bool ok]) ∧ Below W.heap.size W w' :=
  (value_Add.calls a b n ok W (by rw [add_f ha hb, h])).mono fun _ _ h => drawn_below h
theorem sub_c {W : World} {a b : Int} (ha : InI a) (hb : InI b) (n : Int) (ok : Bool) (h : okF (a - b) = (n, ok)) : Calls Tryd.prog 16 #[.int .i64 a, .int .i64 b] W fun e w' => e = .returned (.tuple #[.int .i64 n, .bool ok]) ∧ Below W.heap.size W w' :=
  (value_Sub.calls a b n ok W (by rw [sub_f ha hb, h])).mono fun _ _ h => drawn_below h
theorem div_c {W : World} {a b : Int} (ha : InI a) (n : Int) (ok : Bool) (h : divF a b = (n, ok)) : Calls Tryd.prog 20 #[.int .i64 a, .int .i64 b] W fun e w' => e = .returned (.tuple #[.int .i64 n, .bool ok]) ∧ Below W.heap.size W w' :=
  (value_Div.calls a b n ok W (by rw [div_f ha, h])).mono fun _ _ h => drawn_below h
theorem rem_c {W : World} {a b : Int} (n : Int) (ok : Bool) (h : remF a b = (n, ok)) : Calls Tryd.prog 22 #[.int .i64 a, .int .i64 b] W fun e w' => e = .returned (.tuple #[.int .i64 n, .bool ok]) ∧ Below W.heap.size W w' :=
  (value_Rem.calls a b n ok W (by rw [rem_f, h])).mono fun _ _ h => drawn_below h
theorem sure_c {W : World} (n : Int) (b : Bool) (m : Int) (h : (if b then n else 0) = m) : Calls Tryd.prog 34 #[.int .i64 n, .bool b] W fun e w' => e = .returned (.tuple #[.int .i64 m, .bool b]) ∧ Below W.heap.size W w' :=
  (value_sure.calls n b m b W (by rw [sure_f, ← h]; cases b <;> rfl)).mono fun _ _ h => drawn_below h
theorem bits64_f (x y : Nat) (hx : x < 18446744073709551616) (hy : y < 18446744073709551616) : bits_Mul64.f (x : Int) (y : Int) = some (((x * y / 18446744073709551616 : Nat) : Int), ((x * y % 18446744073709551616 : Nat) : Int)) := by
  obtain ⟨bd, bt, bw, hhi⟩ := Lib.mul64_hi x y hx hy
  have ba := Lib.half_mul_le (a := x / 4294967296) (b := y / 4294967296) (by omega) (by omega)
  have bb := Lib.half_mul_le (a := x / 4294967296) (b := y % 4294967296) (by omega) (by omega)
  have bc := Lib.half_mul_le (a := x % 4294967296) (b := y / 4294967296) (by omega) (by omega)
  have ba' : x / 4294967296 * (y / 4294967296) < 18446744073709551616 := by omega
  have bb' : x / 4294967296 * (y % 4294967296) < 18446744073709551616 := by omega
  have bc' : x % 4294967296 * (y / 4294967296) < 18446744073709551616 := by omega
  have bh1 : x / 4294967296 * (y / 4294967296) + (x / 4294967296 * (y % 4294967296) + x % 4294967296 * (y % 4294967296) / 4294967296) / 4294967296 < 18446744073709551616 := by omega
  have bh : x / 4294967296 * (y / 4294967296) + (x / 4294967296 * (y % 4294967296) + x % 4294967296 * (y % 4294967296) / 4294967296) / 4294967296 + ((x / 4294967296 * (y % 4294967296) + x % 4294967296 * (y % 4294967296) / 4294967296) % 4294967296 + x % 4294967296 * (y / 4294967296)) / 4294967296 < 18446744073709551616 := by omega
  unfold bits_Mul64.f
  simp only [Mul64.maskN x hx, Mul64.maskN y hy, Mul64.divN, Mul64.mulN, Mul64.addN, Mul64.wrapN _ bd, Mul64.wrapN _ bb', Mul64.wrapN _ bt, Mul64.maskN _ bt, Mul64.wrapN _ bc', Mul64.wrapN _ bw, Mul64.wrapN _ ba', Mul64.wrapN _ bh1, Mul64.wrapN _ bh, Mul64.wrapM (x * y)]
  rw [hhi]
theorem size_f {a : Int} (ha : InI a) : value_size.f a = some ((a.natAbs : Nat) : Int) := by
  unfold value_size.f InI at *
  by_cases h : a < 0
  · rw [if_pos h, IntKind.wrap_u64, IntKind.wrap_u64]
    congr 1
    omega
  · rw [if_neg h, IntKind.wrap_u64]
    congr 1
    omega
theorem size_c {W : World} {a : Int} (ha : InI a) (x : Nat) (hx : a.natAbs = x) : Calls Tryd.prog 36 #[.int .i64 a] W fun e w' => e = .returned (.int .u64 (x : Int)) ∧ Below W.heap.size W w' :=
  (value_size.calls a (x : Int) W (by rw [size_f ha, hx])).mono fun _ _ h => drawn_below h
theorem bits64_c {W : World} (x y hi lo : Nat) (hx : x < 18446744073709551616) (hy : y < 18446744073709551616) (h1 : x * y / 18446744073709551616 = hi) (h2 : x * y % 18446744073709551616 = lo) : Calls Tryd.prog 35 #[.int .u64 (x : Int), .int .u64 (y : Int)] W fun e w' => e = .returned (.tuple #[.int .u64 (hi : Int), .int .u64 (lo : Int)]) ∧ Below W.heap.size W w' :=
  (bits_Mul64.calls (x : Int) (y : Int) (hi : Int) (lo : Int) W (by rw [bits64_f x y hx hy, h1, h2])).mono fun _ _ h => drawn_below h
theorem mul_abs (a b : Int) : (a < 0 ↔ b < 0) ∧ a * b = ((a.natAbs * b.natAbs : Nat) : Int) ∨ ¬(a < 0 ↔ b < 0) ∧ a * b = -((a.natAbs * b.natAbs : Nat) : Int) := by
  by_cases ha : a < 0
  · by_cases hb : b < 0
    · refine .inl ⟨⟨fun _ => hb, fun _ => ha⟩, ?_⟩
      rw [Int.natCast_mul, show ((a.natAbs : Nat) : Int) = -a by omega, show ((b.natAbs : Nat) : Int) = -b by omega, Int.neg_mul_neg]
    · refine .inr ⟨fun h => hb (h.1 ha), ?_⟩
      rw [Int.natCast_mul, show ((a.natAbs : Nat) : Int) = -a by omega, show ((b.natAbs : Nat) : Int) = b by omega, Int.neg_mul, Int.neg_neg]
  · by_cases hb : b < 0
    · refine .inr ⟨fun h => ha (h.2 hb), ?_⟩
      rw [Int.natCast_mul, show ((a.natAbs : Nat) : Int) = a by omega, show ((b.natAbs : Nat) : Int) = -b by omega, Int.mul_neg, Int.neg_neg]
    · refine .inl ⟨⟨fun h => absurd h ha, fun h => absurd h hb⟩, ?_⟩
      rw [Int.natCast_mul, show ((a.natAbs : Nat) : Int) = a by omega, show ((b.natAbs : Nat) : Int) = b by omega]
end Go.Proofs.YtimmomhgljofnaaDoor.Hand
