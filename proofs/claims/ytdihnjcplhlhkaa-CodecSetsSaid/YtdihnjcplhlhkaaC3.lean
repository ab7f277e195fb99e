/- Chapter 2: the examples that stand ahead of each statement. -/
import Derived.Test.YtdihnjcplhlhkaaC2
set_option linter.unusedVariables false
namespace Go.Proofs.Ytdihnjcplhlhkaa.Hand
open Go.RowKit Go.Proofs.Ytdihnjcplhlhkaa.PCodecTells Go.Proofs.YtdihnjcplhlhkaaW.PrintWords Go.Proofs.YtdihnjcplhlhkaaW.PrintLast Go.Proofs.YtdihnjcplhlhkaaW.PrintMore

theorem put_at (n x : Int) (b : ByteArray) (c : Bool) (w : World) (e : putV n x = (b, c)) (h0 : 0 ≤ x) (h1 : x ≤ 18446744073709551615) : Calls Try.prog 9 #[.int .i64 n, .int .u64 x] w fun e w' => e = .returned (.tuple #[.string b, .bool c]) ∧ Below w.heap.size w w' := by
  have := put_c n x h0 h1 w; rw [e] at this; exact this
theorem get_at (s : ByteArray) (a n y : Int) (c : Bool) (w : World) (e : getV s a n = (y, c)) (hs : s.size ≤ 1000000000000000) : Calls Try.prog 11 #[.string s, .int .i64 a, .int .i64 n] w fun e w' => e = .returned (.tuple #[.int .u64 y, .bool c]) ∧ Below w.heap.size w w' := by
  have := get_c s a n w hs; rw [e] at this; exact this
theorem set_at (s : ByteArray) (a n x : Int) (b : ByteArray) (c : Bool) (w : World) (e : setV s a n x = (b, c)) (hs : s.size ≤ 1000000000000000) (h0 : 0 ≤ x) (h1 : x ≤ 18446744073709551615) : Calls Try.prog 13 #[.string s, .int .i64 a, .int .i64 n, .int .u64 x] w fun e w' => e = .returned (.tuple #[.string b, .bool c]) ∧ Below w.heap.size w w' := by
  have := set_c s a n x w hs h0 h1; rw [e] at this; exact this
theorem int_at (n : Int) (b : ByteArray) (w : World) (e : intV n = b) : Calls Try.prog 17 #[.int .i64 n] w fun e w' => e = .returned (.string b) ∧ Below w.heap.size w w' := by
  have := int_c n w; rw [e] at this; exact this
theorem gint_at (s : ByteArray) (a y : Int) (c : Bool) (w : World) (e : gintV s a = (y, c)) (hs : s.size ≤ 1000000000000000) : Calls Try.prog 15 #[.string s, .int .i64 a] w fun e w' => e = .returned (.tuple #[.int .i64 y, .bool c]) ∧ Below w.heap.size w w' := by
  have := gint_c s a w hs; rw [e] at this; exact this
theorem x1 : putV 2 258 = (⟨#[1, 2]⟩, true) := by decide +kernel
theorem x2 : putV 1 256 = (⟨#[]⟩, false) := by decide +kernel
theorem x3 : getV ⟨#[1, 2, 3]⟩ 1 2 = (515, true) := by decide +kernel
theorem x4 : setV ⟨#[97, 98, 99, 100]⟩ 1 2 16706 = (⟨#[97, 65, 66, 100]⟩, true) := by decide +kernel
theorem x5 : setV ⟨#[97, 98, 99, 100]⟩ 3 2 1 = (⟨#[]⟩, false) := by decide +kernel
theorem x6 : intV (-5) = ⟨#[255, 255, 255, 255, 255, 255, 255, 251]⟩ := by decide +kernel
theorem x7 : gintV ⟨#[255, 255, 255, 255, 255, 255, 255, 251]⟩ 0 = (-5, true) := by decide +kernel
theorem z3 : (⟨#[1, 2, 3]⟩ : ByteArray).size ≤ 1000000000000000 := by decide
theorem z4 : (⟨#[97, 98, 99, 100]⟩ : ByteArray).size ≤ 1000000000000000 := by decide
theorem z8 : (⟨#[255, 255, 255, 255, 255, 255, 255, 251]⟩ : ByteArray).size ≤ 1000000000000000 := by decide
set_option maxHeartbeats 1000000 in
set_option maxRecDepth 100000 in
theorem examples_c (w : World) : Calls Try.prog 8 #[] w fun e w' => e = .returned (.bool true) ∧ Below w.heap.size w w' := by
  have HB := Aside0.mk (Below.refl w.heap.size w)
  go_enter Try.func8, Try.ntmps8
  go_wp2_with (first | (go_at_call 9; (with_reducible refine (put_at 2 258 _ _ _ x1 (by decide) (by decide)).mono ?_); rintro e w1 ⟨rfl, hb⟩; have n0_ := Aside0.mk (below_step (by repeat (first | (with_reducible first | exact HB.out | apply below_alloc | apply pw_below_drewN | apply below_drew1) | exact HB.out)) hb); clear HB; have HB := n0_; clear n0_) | (go_at_call 9; (with_reducible refine (put_at 1 256 _ _ _ x2 (by decide) (by decide)).mono ?_); rintro e w1 ⟨rfl, hb⟩; have n0_ := Aside0.mk (below_step (by repeat (first | (with_reducible first | exact HB.out | apply below_alloc | apply pw_below_drewN | apply below_drew1) | exact HB.out)) hb); clear HB; have HB := n0_; clear n0_) | (go_at_call 11; (with_reducible refine (get_at _ _ _ _ _ _ x3 z3).mono ?_); rintro e w1 ⟨rfl, hb⟩; have n0_ := Aside0.mk (below_step (by repeat (first | (with_reducible first | exact HB.out | apply below_alloc | apply pw_below_drewN | apply below_drew1) | exact HB.out)) hb); clear HB; have HB := n0_; clear n0_) | (go_at_call 13; (with_reducible refine (set_at _ 1 2 16706 _ _ _ x4 z4 (by decide) (by decide)).mono ?_); rintro e w1 ⟨rfl, hb⟩; have n0_ := Aside0.mk (below_step (by repeat (first | (with_reducible first | exact HB.out | apply below_alloc | apply pw_below_drewN | apply below_drew1) | exact HB.out)) hb); clear HB; have HB := n0_; clear n0_) | (go_at_call 13; (with_reducible refine (set_at _ 3 2 1 _ _ _ x5 z4 (by decide) (by decide)).mono ?_); rintro e w1 ⟨rfl, hb⟩; have n0_ := Aside0.mk (below_step (by repeat (first | (with_reducible first | exact HB.out | apply below_alloc | apply pw_below_drewN | apply below_drew1) | exact HB.out)) hb); clear HB; have HB := n0_; clear n0_) | (go_at_call 17; (with_reducible refine (int_at _ _ _ x6).mono ?_); rintro e w1 ⟨rfl, hb⟩; have n0_ := Aside0.mk (below_step (by repeat (first | (with_reducible first | exact HB.out | apply below_alloc | apply pw_below_drewN | apply below_drew1) | exact HB.out)) hb); clear HB; have HB := n0_; clear n0_) | (go_at_call 15; (with_reducible refine (gint_at _ _ _ _ _ x7 z8).mono ?_); rintro e w1 ⟨rfl, hb⟩; have n0_ := Aside0.mk (below_step (by repeat (first | (with_reducible first | exact HB.out | apply below_alloc | apply pw_below_drewN | apply below_drew1) | exact HB.out)) hb); clear HB; have HB := n0_; clear n0_))
  go_ret
  exact ⟨rfl, (by repeat (first | (with_reducible first | exact HB.out | apply below_alloc | apply pw_below_drewN | apply below_drew1) | exact HB.out))⟩
end Go.Proofs.Ytdihnjcplhlhkaa.Hand
