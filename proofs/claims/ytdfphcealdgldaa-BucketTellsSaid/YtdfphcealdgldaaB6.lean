/- BucketSteps: the walk. -/
import Derived.Test.YtdfphcealdgldaaB5
import Derived.OpenShut
import Derived.Deep.RegionHeld3
set_option linter.unusedVariables false
namespace Go.Proofs.Ytdfphcealdgldaa.Hand
open Go.RowKit Go.Proofs.Ytdfphcealdgldaa.PBucketBounds Go.Proofs.YtdfphcealdgldaaW.PrintWords Go.Proofs.YtdfphcealdgldaaW.PrintLast Go.Proofs.YtdfphcealdgldaaW.PrintMore

theorem fill_fill (s l e a t u : Int) (h : rightP s l e) (ht : t ≤ u) : fillV s (fillV s l e a t).1 e (fillV s l e a t).2 u = fillV s l e a u := by
  have h' := (fill_right s l e a t).2 h
  obtain ⟨ld, ad, hd⟩ : ∃ x y, fillV s l e a t = (x, y) := ⟨_, _, rfl⟩
  rw [hd] at h' ⊢
  have hk : rightP s l e := h
  unfold rightP at h h'
  unfold fillV at hd ⊢
  rw [if_pos hk] at hd
  rw [if_pos (show rightP s ld e by unfold rightP; exact h'), if_pos hk]
  by_cases h1 : l = s
  · rw [if_pos h1] at hd ⊢
    by_cases h2 : a < t
    · rw [if_pos h2] at hd; simp only [Prod.mk.injEq] at hd; obtain ⟨rfl, rfl⟩ := hd
      rw [if_pos rfl, if_pos (show a < u by omega)]
      by_cases h3 : t < u
      · rw [if_pos h3]
      · rw [if_neg h3, show t = u by omega]
    · rw [if_neg h2] at hd; simp only [Prod.mk.injEq] at hd; obtain ⟨rfl, rfl⟩ := hd
      rw [if_pos rfl]
  · rw [if_neg h1] at hd ⊢
    by_cases h2 : t < a
    · rw [if_pos h2] at hd; simp only [Prod.mk.injEq] at hd; obtain ⟨rfl, rfl⟩ := hd
      rw [if_neg h1]
    · rw [if_neg h2] at hd
      rw [if_neg (show ¬ u < a by omega)]
      have hq := div_bd (show a ≤ t by omega) h.2.2.2.2.1
      have hr := div_bd (show a ≤ u by omega) h.2.2.2.2.1
      have hle : (t - a) / e ≤ (u - a) / e := Int.ediv_le_ediv (by omega) (by omega)
      by_cases h3 : (t - a) / e ≥ s - l
      · rw [if_pos h3] at hd; simp only [Prod.mk.injEq] at hd; obtain ⟨rfl, rfl⟩ := hd
        rw [if_pos rfl, if_pos (show (u - a) / e ≥ s - l by omega)]
        by_cases h4 : t < u
        · rw [if_pos h4]
        · rw [if_neg h4, show t = u by omega]
      · rw [if_neg h3] at hd; simp only [Prod.mk.injEq] at hd; obtain ⟨rfl, rfl⟩ := hd
        rw [if_neg (show ¬ l + (t - a) / e = s by omega), if_neg (by omega)]
        have e1 : (u - (a + (t - a) / e * e)) / e = (u - a) / e - (t - a) / e := by
          have : u - (a + (t - a) / e * e) = (u - a) + (-((t - a) / e)) * e := by rw [Int.neg_mul]; omega
          rw [this, Int.add_mul_ediv_right _ _ (by omega)]; omega
        rw [e1]
        by_cases h4 : (u - a) / e ≥ s - l
        · rw [if_pos h4, if_pos (by omega)]
        · rw [if_neg h4, if_neg (by omega)]
          refine Prod.ext (by show _ = _; omega) ?_
          show a + (t - a) / e * e + ((u - a) / e - (t - a) / e) * e = a + (u - a) / e * e
          rw [Int.sub_mul]; omega
theorem fill_ge (s l e a t : Int) (h : rightP s l e) : l ≤ (fillV s l e a t).1 := by
  have hk := h
  unfold rightP at h
  unfold fillV
  rw [if_pos hk]
  by_cases h1 : l = s
  · rw [if_pos h1]; show l ≤ s; omega
  rw [if_neg h1]
  by_cases h2 : t < a
  · rw [if_pos h2]; exact Int.le_refl _
  rw [if_neg h2]
  have hq := div_bd (show a ≤ t by omega) h.2.2.2.2.1
  by_cases h3 : (t - a) / e ≥ s - l
  · rw [if_pos h3]; show l ≤ s; omega
  · rw [if_neg h3]; show l ≤ l + _; omega
theorem fill_at_bd (s l e a t : Int) (h : rightP s l e) : (fillV s l e a t).2 = a ∨ a ≤ (fillV s l e a t).2 ∧ (fillV s l e a t).2 ≤ t := by
  have hk := h
  unfold rightP at h
  unfold fillV
  rw [if_pos hk]
  by_cases h1 : l = s
  · rw [if_pos h1]
    by_cases h2 : a < t
    · rw [if_pos h2]; right; constructor <;> show _ ≤ _ <;> omega
    · rw [if_neg h2]; left; rfl
  rw [if_neg h1]
  by_cases h2 : t < a
  · rw [if_pos h2]; left; rfl
  rw [if_neg h2]
  have hq := div_bd (show a ≤ t by omega) h.2.2.2.2.1
  have hm := Int.mul_nonneg hq.1 (show 0 ≤ e by omega)
  by_cases h3 : (t - a) / e ≥ s - l
  · rw [if_pos h3]; right; constructor <;> show _ ≤ _ <;> omega
  · rw [if_neg h3]; right; constructor <;> show _ ≤ _ <;> omega
set_option maxHeartbeats 1000000 in
set_option maxRecDepth 100000 in
theorem steps_go (s0 l0 e0 a0 s l e a first b last : Int) (own : Bool) (w : World) (hsome : Aside0 (∀ W : World, Calls Try.prog 9 #[.agg #[.int .i64 s0, .int .i64 l0, .int .i64 e0, .int .i64 a0, .bool true]] W fun x w' => x = .returned (.agg #[.int .i64 s, .int .i64 l, .int .i64 e, .int .i64 a]) ∧ Below W.heap.size W w')) (hr : rightP s l e) (ha : I64 a) (f0 : -32768 ≤ first) (f1 : first ≤ 32767) (b0 : 0 ≤ b) (b1 : b ≤ 65535) (hlast : first + b = last) :
    Calls Try.prog 5 #[.agg #[.int .i64 s0, .int .i64 l0, .int .i64 e0, .int .i64 a0, .bool own], .int .i16 first, .int .u16 b] w fun e w' => e = .returned (.bool true) ∧ Below w.heap.size w w' := by
  have HB := Aside0.mk (Below.refl w.heap.size w)
  have hu := Try.underlying23
  have hu2 := Try.underlying25
  obtain ⟨ld, ad, hd⟩ : ∃ x y, fillV s l e a first = (x, y) := ⟨_, _, rfl⟩
  obtain ⟨le, ae, he⟩ : ∃ x y, fillV s ld e ad last = (x, y) := ⟨_, _, rfl⟩
  have hf : fillV s l e a last = (le, ae) := by
    have := fill_fill s l e a first last hr (by omega)
    rw [hd] at this
    rw [← this]; exact he
  have hee : fillV s le e ae last = (le, ae) := by
    have := fill_fill s l e a last last hr (Int.le_refl _)
    rw [hf] at this
    exact this
  have hrd : rightP s ld e := by have := (fill_right s l e a first).2 hr; rwa [hd] at this
  have hre : rightP s le e := by have := (fill_right s l e a last).2 hr; rwa [hf] at this
  have g1 : l ≤ ld := by have := fill_ge s l e a first hr; rwa [hd] at this
  have g2 : ld ≤ le := by have := fill_ge s ld e ad last hrd; rwa [he] at this
  have had : I64 ad := by have := fill_at_bd s l e a first hr; rw [hd] at this; unfold I64 at ha ⊢; simp only at this; omega
  have hae : I64 ae := by have := fill_at_bd s l e a last hr; rw [hf] at this; unfold I64 at ha ⊢; simp only at this; omega
  have A1 := Aside0.mk ha; have A2 := Aside0.mk had; have A3 := Aside0.mk hae
  have T1 := Aside0.mk (i64_of (x := first) (by omega) (by omega)); have T2 := Aside0.mk (i64_of (x := last) (by omega) (by omega))
  have HD := Aside0.mk hd; have HE := Aside0.mk he; have HF := Aside0.mk hf; have HEE := Aside0.mk hee
  have HR := Aside0.mk (decide_eq_true hre)
  clear hd he hf hee hrd hre hr ha had hae
  go_enter Try.func5, Try.ntmps5
  go_wp2_with (first | (go_at_call 8; (with_reducible refine (examples_c _).mono ?_); rintro e w1 ⟨rfl, hb⟩; have n0_ := Aside0.mk (below_step (by repeat (first | (with_reducible first | exact HB.out | (refine below_set ?_ (Nat.le_refl _) _) | apply below_alloc | apply pw_below_drewN | apply below_drew1) | exact HB.out)) hb); clear HB; have HB := n0_; clear n0_; have hc1 := old_cell hb; have hf1 := old_froz hb; have hz1 := hb.size; (try simp at hz1)) | (go_at_call 9; (with_reducible refine (hsome.out _).mono ?_); rintro e w2 ⟨rfl, hb⟩; have n0_ := Aside0.mk (below_step (by repeat (first | (with_reducible first | exact HB.out | (refine below_set ?_ (Nat.le_refl _) _) | apply below_alloc | apply pw_below_drewN | apply below_drew1) | exact HB.out)) hb); clear HB; have HB := n0_; clear n0_; clear hb) | (go_at_call 17; (with_reducible refine (fill_at s l e a first ld ad _ A1.out T1.out HD.out).mono ?_); rintro e w3 ⟨rfl, hb⟩; have n0_ := Aside0.mk (below_step (by repeat (first | (with_reducible first | exact HB.out | (refine below_set ?_ (Nat.le_refl _) _) | apply below_alloc | apply pw_below_drewN | apply below_drew1) | exact HB.out)) hb); clear HB; have HB := n0_; clear n0_; have B2 := Aside0.mk ((Bk.new w2 s l e a).below hb); have q2_0 := B2.out.c0; have q2_1 := B2.out.c1; have q2_2 := B2.out.c2; have q2_3 := B2.out.c3; have q2_f0 := B2.out.fr 0; have q2_f1 := B2.out.fr 1; have q2_f2 := B2.out.fr 2; have q2_f3 := B2.out.fr 3; have q2_l := B2.out.lt; clear hb) | (go_at_call 17; (with_reducible refine (fill_at s ld e ad last le ae _ A2.out T2.out HE.out).mono ?_); rintro e w4 ⟨rfl, hb⟩; have n0_ := Aside0.mk (below_step (by repeat (first | (with_reducible first | exact HB.out | (refine below_set ?_ (Nat.le_refl _) _) | apply below_alloc | apply pw_below_drewN | apply below_drew1) | exact HB.out)) hb); clear HB; have HB := n0_; clear n0_; have n_ := Aside0.mk ((B2.out.alloc _).below hb); clear B2 q2_0 q2_1 q2_2 q2_3 q2_f0 q2_f1 q2_f2 q2_f3 q2_l; have B2 := n_; clear n_; have q2_0 := B2.out.c0; have q2_1 := B2.out.c1; have q2_2 := B2.out.c2; have q2_3 := B2.out.c3; have q2_f0 := B2.out.fr 0; have q2_f1 := B2.out.fr 1; have q2_f2 := B2.out.fr 2; have q2_f3 := B2.out.fr 3; have q2_l := B2.out.lt; have B3 := Aside0.mk ((Bk.new w3 s ld e ad).below hb); have q3_0 := B3.out.c0; have q3_1 := B3.out.c1; have q3_2 := B3.out.c2; have q3_3 := B3.out.c3; have q3_f0 := B3.out.fr 0; have q3_f1 := B3.out.fr 1; have q3_f2 := B3.out.fr 2; have q3_f3 := B3.out.fr 3; have q3_l := B3.out.lt; clear hb) | (go_at_call 17; (with_reducible refine (fill_at s l e a last le ae _ A1.out T2.out HF.out).mono ?_); rintro e w5 ⟨rfl, hb⟩; have n0_ := Aside0.mk (below_step (by repeat (first | (with_reducible first | exact HB.out | (refine below_set ?_ (Nat.le_refl _) _) | apply below_alloc | apply pw_below_drewN | apply below_drew1) | exact HB.out)) hb); clear HB; have HB := n0_; clear n0_; have n_ := Aside0.mk ((B2.out.alloc _).below hb); clear B2 q2_0 q2_1 q2_2 q2_3 q2_f0 q2_f1 q2_f2 q2_f3 q2_l; have B2 := n_; clear n_; have q2_0 := B2.out.c0; have q2_1 := B2.out.c1; have q2_2 := B2.out.c2; have q2_3 := B2.out.c3; have q2_f0 := B2.out.fr 0; have q2_f1 := B2.out.fr 1; have q2_f2 := B2.out.fr 2; have q2_f3 := B2.out.fr 3; have q2_l := B2.out.lt; have n_ := Aside0.mk ((B3.out.alloc _).below hb); clear B3 q3_0 q3_1 q3_2 q3_3 q3_f0 q3_f1 q3_f2 q3_f3 q3_l; have B3 := n_; clear n_; have q3_0 := B3.out.c0; have q3_1 := B3.out.c1; have q3_2 := B3.out.c2; have q3_3 := B3.out.c3; have q3_f0 := B3.out.fr 0; have q3_f1 := B3.out.fr 1; have q3_f2 := B3.out.fr 2; have q3_f3 := B3.out.fr 3; have q3_l := B3.out.lt; have B4 := Aside0.mk ((Bk.new w4 s le e ae).below hb); have q4_0 := B4.out.c0; have q4_1 := B4.out.c1; have q4_2 := B4.out.c2; have q4_3 := B4.out.c3; have q4_f0 := B4.out.fr 0; have q4_f1 := B4.out.fr 1; have q4_f2 := B4.out.fr 2; have q4_f3 := B4.out.fr 3; have q4_l := B4.out.lt; clear hb))
  have D2 := B2.out.alloc (.cells #[.int .i64 s, .int .i64 le, .int .i64 e, .int .i64 ae] 23)
  have D3 := B3.out.alloc (.cells #[.int .i64 s, .int .i64 le, .int .i64 e, .int .i64 ae] 23)
  have D4 := B4.out.alloc (.cells #[.int .i64 s, .int .i64 le, .int .i64 e, .int .i64 ae] 23)
  have D5 := Bk.new w5 s le e ae
  have z0 := D2.c1
  have z1 := D3.c1
  have z2 := D4.c0
  have z3 := D4.c1
  have z4 := D4.c2
  have z5 := D4.c3
  have z6 := D5.c1
  have z7 := D5.c3
  clear D2 D3 D4 D5 q2_0 q2_1 q2_2 q2_3 q2_f0 q2_f1 q2_f2 q2_f3 q2_l q3_0 q3_1 q3_2 q3_3 q3_f0 q3_f1 q3_f2 q3_f3 q3_l q4_0 q4_1 q4_2 q4_3 q4_f0 q4_f1 q4_f2 q4_f3 q4_l
  go_region_held3 (fun w' => w'.cell? ⟨w2.heap.size, 1, none⟩ = some (.int .i64 l) ∧ w'.cell? ⟨w3.heap.size, 1, none⟩ = some (.int .i64 ld) ∧ w'.cell? ⟨w4.heap.size, 0, none⟩ = some (.int .i64 s) ∧ w'.cell? ⟨w4.heap.size, 1, none⟩ = some (.int .i64 le) ∧ w'.cell? ⟨w4.heap.size, 2, none⟩ = some (.int .i64 e) ∧ w'.cell? ⟨w4.heap.size, 3, none⟩ = some (.int .i64 ae) ∧ w'.cell? ⟨w5.heap.size, 1, none⟩ = some (.int .i64 le) ∧ w'.cell? ⟨w5.heap.size, 3, none⟩ = some (.int .i64 ae)) (first | (exact ⟨pw_cell_below hb (by assumption), pw_cell_below hb (by assumption), pw_cell_below hb (by assumption), pw_cell_below hb (by assumption), pw_cell_below hb (by assumption), pw_cell_below hb (by assumption), pw_cell_below hb (by assumption), pw_cell_below hb (by assumption)⟩) | ((refine ⟨?_, ?_, ?_, ?_, ?_, ?_, ?_, ?_⟩) <;> (refine pw_cell_below hb ?_) <;> (first | assumption | (simp only [*]))) | go_keep) (first | (go_at_call 17; refine (fill_at s le e ae last le ae _ A3.out T2.out HEE.out).mono ?_; rintro x w9 ⟨rfl, hb⟩; have n0_ := Aside0.mk (below_step (by repeat (first | (with_reducible first | exact HB.out | (refine below_set ?_ (Nat.le_refl _) _) | apply below_alloc | apply pw_below_drewN | apply below_drew1) | exact HB.out)) hb); clear HB; have HB := n0_; clear n0_) | (go_at_call 15; refine (right_at s le e ae true _ HR.out).mono ?_; rintro x w9 ⟨rfl, hb⟩; have n0_ := Aside0.mk (below_step (by repeat (first | (with_reducible first | exact HB.out | (refine below_set ?_ (Nat.le_refl _) _) | apply below_alloc | apply pw_below_drewN | apply below_drew1) | exact HB.out)) hb); clear HB; have HB := n0_; clear n0_))
  go_wp2
  go_ret
  exact ⟨rfl, (by repeat (first | (with_reducible first | exact HB.out | (refine below_set ?_ (Nat.le_refl _) _) | apply below_alloc | apply pw_below_drewN | apply below_drew1) | exact HB.out))⟩
theorem small_right (s l e : Int) : rightP (IntKind.u64.wrap s % 6) (IntKind.u64.wrap l % (IntKind.u64.wrap s % 6 + 1)) (1 + IntKind.u64.wrap e % 9) := by
  have h1 := u64_bd s
  have h2 := u64_bd l
  have h3 := u64_bd e
  have hm0 : 0 ≤ IntKind.u64.wrap l % (IntKind.u64.wrap s % 6 + 1) := Int.emod_nonneg _ (by omega)
  have hm1 : IntKind.u64.wrap l % (IntKind.u64.wrap s % 6 + 1) < IntKind.u64.wrap s % 6 + 1 := Int.emod_lt_of_pos _ (by omega)
  unfold rightP
  omega
theorem tmod_bd (a : Int) : -100 < a.tmod 100 ∧ a.tmod 100 < 100 := ⟨Int.lt_tmod_of_pos a (by decide), Int.tmod_lt_of_pos a (by decide)⟩
theorem BucketSteps_walk (s l e a : Int) (own : Bool) (first b : Int) (w : World) (w0 : (Lit.int .i64 s).wf = true) (w1 : (Lit.int .i64 l).wf = true) (w2 : (Lit.int .i64 e).wf = true) (w3 : (Lit.int .i64 a).wf = true) (w4 : (Lit.int .i16 first).wf = true) (w5 : (Lit.int .u16 b).wf = true) :
    Calls Try.prog 5 #[.agg #[.int .i64 s, .int .i64 l, .int .i64 e, .int .i64 a, .bool own], .int .i16 first, .int .u16 b] w fun e w' => e = .returned (.bool true) ∧ Below w.heap.size w w' := by
  obtain ⟨f0, f1⟩ := Go.bounds_i16 w4
  obtain ⟨b0, b1⟩ := Go.bounds_u16 w5
  have ht := tmod_bd a
  have I := fun {x : Int} (h : (Lit.int .i64 x).wf = true) => show I64 x from ⟨by have := Go.bounds_i64 h; omega, by have := Go.bounds_i64 h; omega⟩
  exact steps_go s l e a _ _ _ _ first b _ own w ⟨fun W => some_yes s l e a W (I w0) (I w1) (I w2) (I w3)⟩ (small_right s l e) (i64_of (by omega) (by omega)) (by omega) (by omega) b0 (by omega) rfl
end Go.Proofs.Ytdfphcealdgldaa.Hand
