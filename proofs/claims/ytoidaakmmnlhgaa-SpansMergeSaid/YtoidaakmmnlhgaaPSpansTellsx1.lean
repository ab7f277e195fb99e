-- PRINTED BY print.sh 35421559b90ae4d0a3588c463048766b98c2df88dd9212a6774a882060cdf62d: not written by this session
import Derived.Test.YtoidaakmmnlhgaaPSpansTellsx0
namespace Go.Proofs.Ytoidaakmmnlhgaa.PSpansTells
open Go.RowKit Go.Proofs.YtoidaakmmnlhgaaW.PrintWords Go.Proofs.YtoidaakmmnlhgaaW.PrintLast Go.Proofs.YtoidaakmmnlhgaaW.PrintMore
attribute [local go_sem] max2_int min2_int max_two min_two max_three min_three max_four min_four   -- for this text's walks alone
set_option linter.unusedVariables false
set_option linter.unusedSimpArgs false

-- NOT PRINTED: function 25 (slices_IndexFunc_2_int64_2_int64)

-- NOT PRINTED: function 31 (slices_ContainsFunc_2_int64_2_int64)

-- NOT PRINTED: function 16 (spans_Spans_Meets)

-- NOT PRINTED: function 14 (spans_Spans_Has)

-- NOT PRINTED: function 20 (spans_Right)

-- NOT PRINTED: function 36 (slices_overlaps_2_int64)

-- NOT PRINTED: function 40 (slices_Reverse_2_int64_2_int64)

-- NOT PRINTED: function 39 (slices_rotateLeft_2_int64)

-- NOT PRINTED: function 37 (slices_rotateRight_2_int64)

-- NOT PRINTED: function 27 (slices_Insert_2_int64_2_int64)

-- NOT PRINTED: function 28 (slices_Clone_2_int64_2_int64)

-- NOT PRINTED: function 29 (spans_gap)

-- NOT PRINTED: function 30 (slices_Delete_2_int64_2_int64)

-- NOT PRINTED: function 11 (spans_Spans_Add)

-- NOT PRINTED: function 38 (slices_IndexFunc_int64_int64)

-- NOT PRINTED: function 33 (slices_ContainsFunc_int64_int64)

-- NOT PRINTED: function 18 (spans_Spans_Cover)

-- NOT PRINTED: function 35 (slices_Equal_2_int64_2_int64)

-- NOT PRINTED: function 22 (spans_Same)

-- NOT PRINTED: function 8 (jettisonlaw19_examples)

-- NOT PRINTED: function 9 (jettisonlaw19_ref)

/-! ### jettisonlaw19_near: function 10 -/
def jettisonlaw19_near.f (a0 : Int) (a1 : Int) : Option (Int) := if a1 < 150 then (some (Int.tmod a0 50)) else (if a1 < 190 then ((some (([(-9223372036854775808), 9223372036854775807, 0] : List Int) : List Int)).bind fun y101 => (if 0 ≤ (Int.tmod a1 3) then (if (Int.tmod a1 3) < (y101.length : Int) then (some (rd y101 (Int.tmod a1 3))) else (none)) else (none))) else (some a0))
set_option maxHeartbeats 8000000 in
set_option maxRecDepth 100000 in
theorem jettisonlaw19_near.calls (a0 : Int) (a1 : Int) (r : Int) (w : World) (h : jettisonlaw19_near.f a0 a1 = some r) :
    Calls Try.prog 10 #[.int .i64 a0, .int .u8 a1] w fun e w' => e = .returned (.int .i64 r) ∧ Below w.heap.size w w' := by
  have HB := Aside0.mk (Below.refl w.heap.size w)
  have H : (if a1 < 150 then (some (Int.tmod a0 50)) else (if a1 < 190 then ((some (([(-9223372036854775808), 9223372036854775807, 0] : List Int) : List Int)).bind fun y101 => (if 0 ≤ (Int.tmod a1 3) then (if (Int.tmod a1 3) < (y101.length : Int) then (some (rd y101 (Int.tmod a1 3))) else (none)) else (none))) else (some a0))) = some r := h
  clear h
  by_cases c3 : a1 < 150
  · rw [if_pos c3] at H
    have c3b0 : decide (a1 < 150) = true := decide_eq_true c3
    clear c3
    obtain rfl := Option.some.inj H
    go_enter Try.func10, Try.ntmps10
    go_wp2
    go_ret
    exact ⟨by first | rfl | (simp [errW_none, errW_some] <;> rfl) | (simp [*, errW_none, errW_some] <;> rfl), by repeat (first | (with_reducible first | exact HB.out | apply below_alloc | apply pw_below_drewN | apply below_drew1) | exact HB.out)⟩
  · rw [if_neg c3] at H
    have c3b0 : decide (a1 < 150) = false := decide_eq_false c3
    clear c3
    by_cases c4 : a1 < 190
    · rw [if_pos c4] at H
      have c4b0 : decide (a1 < 190) = true := decide_eq_true c4
      clear c4
      obtain ⟨y101, hy101⟩ : ∃ y_ : List Int, y_ = (([(-9223372036854775808), 9223372036854775807, 0] : List Int)) := ⟨_, rfl⟩
      replace H : (if 0 ≤ (Int.tmod a1 3) then (if (Int.tmod a1 3) < (y101.length : Int) then (some (rd y101 (Int.tmod a1 3))) else (none)) else (none)) = some r := by first | (rw [hy101]; with_reducible exact H) | (have H2_ := (Option.bind_some _ _).symm.trans H; rw [hy101]; with_reducible exact H2_) | (have H2_ := (Option.bind_some _ _).symm.trans H; with_reducible exact H2_) | with_reducible exact H | (rw [hy101]; exact H) | exact H
      have Ny101 := Aside0.mk hy101
      clear hy101
      obtain ⟨ji5, hji5⟩ : ∃ j_ : Int, (Int.tmod a1 3) = j_ := ⟨_, rfl⟩
      replace H : (if 0 ≤ (ji5) then (if (ji5) < (y101.length : Int) then (some (rd y101 (ji5))) else (none)) else (none)) = some r := by first | (rw [hji5] at H; exact H) | (simp only [hji5] at H ⊢; exact H)
      by_cases c6 : 0 ≤ (ji5)
      · rw [if_pos c6] at H
        have c6b0 : decide (0 ≤ (ji5)) = true := decide_eq_true c6
        clear c6
        by_cases c7 : (ji5) < (y101.length : Int)
        · rw [if_pos c7] at H
          have c7b0 : decide ((ji5) < (y101.length : Int)) = true := decide_eq_true c7
          clear c7
          obtain rfl := Option.some.inj H
          go_enter Try.func10, Try.ntmps10
          go_wp2_with (first | ((with_reducible refine gate_dst (N := 13) rfl ?_); refine Kd.R_lit (Kd.int .i64) _ 2 ?hg (N := 13) ?hd (xs := ([(-9223372036854775808), 9223372036854775807, 0] : List Int)) (inner := [.int .i64 (-9223372036854775808), .int .i64 9223372036854775807, .int .i64 0]) (ok := fun _ => True) (okp := fun _ => True) ?hr ?hp (fun _ hk => hk) trivial (Below.refl _ _) (Nat.le_refl _) (by simp) ?_; (case hd => rfl); (case hg => rfl); (case hr => first | (go_simp; done) | (go_simp; rfl)); (case hp => exact (Reps.one (show Kd.M (Kd.int .i64) _ _ _ (-9223372036854775808) [.int .i64 (-9223372036854775808)] from rfl) (Reps.one (show Kd.M (Kd.int .i64) _ _ _ 9223372036854775807 [.int .i64 9223372036854775807] from rfl) (Reps.one (show Kd.M (Kd.int .i64) _ _ _ 0 [.int .i64 0] from rfl) (Reps.none _ _))))); intro v102 w8 ho9 hb hg_ hnew_; clear hg_ hnew_; (first | rw [← Ny101.out] at ho9 | (simp only [Int.reduceToNat] at ho9; rw [← Ny101.out] at ho9)); have n0_ := Aside0.mk (Kd.R_lower ho9 (below_size (by repeat (first | (with_reducible first | exact HB.out | apply below_alloc | apply pw_below_drewN | apply below_drew1) | exact HB.out)))); have n1_ := Aside0.mk (below_step (by repeat (first | (with_reducible first | exact HB.out | apply below_alloc | apply pw_below_drewN | apply below_drew1) | exact HB.out)) hb); clear HB; have HO103 := n0_; have HB := n1_; clear n0_ n1_; clear hb ho9; obtain ⟨Ao10, co10, eo10⟩ := Kd.R_slice HO103.out; subst eo10; have p104 : 0 ≤ ((ji5) : Int) := of_decide_eq_true (by first | (with_reducible assumption) | assumption); have q104 : (ji5) < (y101.length : Int) := of_decide_eq_true (by first | (with_reducible assumption) | assumption); obtain ⟨ad104, e104, hx104_0⟩ := Kd.at_int (Kd.R_reads' HO103.out).2.2 (ji5) p104 q104; cases e104; replace p104 := eq_true p104; replace q104 := eq_true q104))
          go_ret
          exact ⟨by first | rfl | (simp [errW_none, errW_some] <;> rfl) | (simp only [← hji5]; first | rfl | (simp [errW_none, errW_some] <;> rfl)) | (simp [*, errW_none, errW_some] <;> rfl), by repeat (first | (with_reducible first | exact HB.out | apply below_alloc | apply pw_below_drewN | apply below_drew1) | exact HB.out)⟩
        · rw [if_neg c7] at H
          exact absurd H (by simp)
      · rw [if_neg c6] at H
        exact absurd H (by simp)
    · rw [if_neg c4] at H
      have c4b0 : decide (a1 < 190) = false := decide_eq_false c4
      clear c4
      obtain rfl := Option.some.inj H
      go_enter Try.func10, Try.ntmps10
      go_wp2
      go_ret
      exact ⟨by first | rfl | (simp [errW_none, errW_some] <;> rfl) | (simp [*, errW_none, errW_some] <;> rfl), by repeat (first | (with_reducible first | exact HB.out | apply below_alloc | apply pw_below_drewN | apply below_drew1) | exact HB.out)⟩

-- NOT PRINTED: function 15 (jettisonref19_Spans_Has)

-- NOT PRINTED: function 21 (jettisonref19_Right)

-- NOT PRINTED: function 12 (jettisonref19_Spans_Add)

-- NOT PRINTED: function 13 (jettisonref19_Same)

-- NOT PRINTED: function 17 (jettisonref19_Spans_Meets)

-- NOT PRINTED: function 19 (jettisonref19_Spans_Cover)

-- NOT PRINTED: function 3 (jettisonlaw19_SpansTells)

end Go.Proofs.Ytoidaakmmnlhgaa.PSpansTells
