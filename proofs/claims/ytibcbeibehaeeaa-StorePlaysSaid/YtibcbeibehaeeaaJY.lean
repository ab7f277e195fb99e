/- StorePlays: its walk. -/
import Derived.Test.YtibcbeibehaeeaaJX
set_option linter.unusedVariables false
set_option linter.unusedSimpArgs false
namespace Go.Proofs.Ytibcbeibehaeeaa.Hand
open Go.RowKit Go.Proofs.Ytibcbeibehaeeaa.PStorePlays Go.Proofs.YtibcbeibehaeeaaW.PrintWords Go.Proofs.YtibcbeibehaeeaaW.PrintLast Go.Proofs.YtibcbeibehaeeaaW.PrintMore
set_option maxHeartbeats 1000000 in
set_option maxRecDepth 100000 in
theorem plays0 (a0 M : Int) (c : Nat) (w : World) (ha0 : 0 ≤ a0) (ha1 : a0 ≤ 65535) (hM : a0 % 600 = M) (hM0 : 0 ≤ M) (hM1 : M < 600) : Calls Try.prog 3 #[.int .u16 a0, .slice none 0 c] w fun e w' => e = .returned (.bool true) ∧ Below w.heap.size w w' := by
  have HB := Aside0.mk (Below.refl w.heap.size w)
  have HL := Aside0.mk (Below.refl w.heap.size w)
  go_enter Try.func3, Try.ntmps3
  go_wp2_with (first | (go_at_call 7; (with_reducible refine (examples_c _).mono ?_); rintro e w1 ⟨rfl, hb⟩; have n0_ := Aside0.mk (below_step (by repeat (first | (with_reducible first | exact HB.out | apply below_alloc | apply pw_below_drewN | apply below_drew1) | exact HB.out)) hb); clear HB; have HB := n0_; clear n0_; have hs_ := below_step (by repeat (first | (with_reducible first | exact HL.out | apply below_alloc | apply pw_below_drewN | apply below_drew1) | exact HL.out)) hb; have hg := below_size HB.out; clear HL hs_ hb; have HL := Aside0.mk (Below.refl w1.heap.size w1)) | (go_at_call 8; (with_reducible refine (x_new M _ hM0 (by omega)).mono ?_); rintro e w2 ⟨rfl, hA, hb⟩; have HA := Aside0.mk hA; clear hA; have n0_ := Aside0.mk (below_step (by repeat (first | (with_reducible first | exact HB.out | apply below_alloc | apply pw_below_drewN | apply below_drew1) | exact HB.out)) hb); clear HB; have HB := n0_; clear n0_; have hs_ := below_step (by repeat (first | (with_reducible first | exact HL.out | apply below_alloc | apply pw_below_drewN | apply below_drew1) | exact HL.out)) hb; have hg2 := below_size HB.out; clear HL hs_ hb; have HL := Aside0.mk (Below.refl w2.heap.size w2)) | (go_at_call 9; (with_reducible refine (rnew_yes M _ hM0 (by omega)).mono ?_); rintro e w3 ⟨rfl, hR, hb⟩; have RR := Aside0.mk hR; clear hR; have n0_ := Aside0.mk (below_step (by repeat (first | (with_reducible first | exact HB.out | apply below_alloc | apply pw_below_drewN | apply below_drew1) | exact HB.out)) hb); clear HB; have HB := n0_; clear n0_; have hs_ := below_step (by repeat (first | (with_reducible first | exact HL.out | apply below_alloc | apply pw_below_drewN | apply below_drew1) | exact HL.out)) hb; have n_ := Aside0.mk (AX.below HA.out hs_); clear HA; have HA := n_; clear n_; clear HL hs_ hb; have HL := Aside0.mk (Below.refl w3.heap.size w3)) | (go_at_call 10; (with_reducible refine (y_new (HA.out.below (by repeat (first | (with_reducible first | exact HL.out | apply below_alloc | apply pw_below_drewN | apply below_drew1) | exact HL.out)))).mono ?_); rintro e w4 ⟨gs, mb, rfl, hA, hb⟩; clear HA; have HA := Aside0.mk hA; clear hA; have n0_ := Aside0.mk (below_step (by repeat (first | (with_reducible first | exact HB.out | apply below_alloc | apply pw_below_drewN | apply below_drew1) | exact HB.out)) hb); clear HB; have HB := n0_; clear n0_; have hs_ := below_step (by repeat (first | (with_reducible first | exact HL.out | apply below_alloc | apply pw_below_drewN | apply below_drew1) | exact HL.out)) hb; have n_ := Aside0.mk (RX.below RR.out hs_); clear RR; have RR := n_; clear n_; clear HL hs_ hb; have HL := Aside0.mk (Below.refl w4.heap.size w4)) | (go_at_call 11; (with_reducible refine (u_new w2.heap.size w.heap.size (below_size HB.out) hg2 (RR.out.below (by repeat (first | (with_reducible first | exact HL.out | apply below_alloc | apply pw_below_drewN | apply below_drew1) | exact HL.out)))).mono ?_); rintro e w5 ⟨gr, rfl, hR, hb⟩; clear RR; have RR := Aside0.mk hR; clear hR; have n0_ := Aside0.mk (below_step (by repeat (first | (with_reducible first | exact HB.out | apply below_alloc | apply pw_below_drewN | apply below_drew1) | exact HB.out)) hb); clear HB; have HB := n0_; clear n0_; have hs_ := below_step (by repeat (first | (with_reducible first | exact HL.out | apply below_alloc | apply pw_below_drewN | apply below_drew1) | exact HL.out)) hb; have n_ := Aside0.mk (SY.below HA.out hs_); clear HA; have HA := n_; clear n_; clear HL hs_ hb; have HL := Aside0.mk (Below.refl w5.heap.size w5)))
  go_loopw [10] (fun v10 wr => v10 = .int .i64 0 ∧ Aside0 (Below w.heap.size w wr)) (fun _ _ => 0)
  case atStart => exact ⟨rfl, ⟨(by repeat (first | (with_reducible first | exact HB.out | apply below_alloc | apply pw_below_drewN | apply below_drew1) | exact HB.out))⟩⟩
  case round =>
    clear HB HA HL RR
    obtain ⟨rfl, HB⟩ := hrel
    go_wp2
    all_goals go_ret
    all_goals exact ⟨rfl, (by repeat (first | (with_reducible first | exact HB.out | apply below_alloc | apply pw_below_drewN | apply below_drew1) | exact HB.out))⟩
theorem StorePlays_walk (a0 : Int) (y : List (Int × Int × Int × Int × Int × List Int)) (A : Option Addr) (c : Nat) (w : World) (w0 : (Lit.int .u16 a0).wf = true) (hl : y.length ≤ c) (hk : ∀ W', Has w W' → Kd.C (Kd.pair (Kd.int .u8) (Kd.pair (Kd.int .u8) (Kd.pair (Kd.int .i64) (Kd.pair (Kd.int .i64) (Kd.pair (Kd.int .i64) (Kd.slice 2 (Kd.int .i64))))))) W' A y.length y) (hg : ShortRow (Try.prog.bytesOf 37) (fun x : Int × Int × Int × Int × Int × List Int => (Lit.int .u8 x.1).wf = true ∧ (Lit.int .u8 x.2.1).wf = true ∧ (Lit.int .i64 x.2.2.1).wf = true ∧ (Lit.int .i64 x.2.2.2.1).wf = true ∧ (Lit.int .i64 x.2.2.2.2.1).wf = true ∧ ShortRow (Try.prog.bytesOf 2) (fun n => (Lit.int .i64 n).wf = true) x.2.2.2.2.2) y) :
    Calls Try.prog 3 #[.int .u16 a0, .slice A y.length c] w fun e w' => e = .returned (.bool true) ∧ Below w.heap.size w w' := by
  obtain ⟨n0, n1⟩ := Go.bounds_u16 w0
  have e1 : Try.prog.bytesOf 37 = 56 := by kernel_rfl
  have hlm := hg.1
  rw [e1] at hlm
  have hlm2 : y.length ≤ 140737488351232 := by omega
  rcases A with _ | ad
  · have hy : y.length = 0 := by
      rcases Nat.eq_zero_or_pos y.length with h | h
      · exact h
      · obtain ⟨ad, e, _⟩ := (hk w (Has.refl w)).2.2 h
        exact absurd e (by simp)
    rw [hy]
    exact plays0 a0 (a0 % 600) c w n0 n1 rfl (by omega) (by omega)
  · exact plays_ a0 (a0 % 600) ad y.length c w n0 n1 rfl (by omega) (by omega) hlm2 ⟨fun i hi => deed_at hk hg i hi⟩
end Go.Proofs.Ytibcbeibehaeeaa.Hand
