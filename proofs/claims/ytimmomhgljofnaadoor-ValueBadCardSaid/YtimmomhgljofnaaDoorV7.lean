/- Chapter 8: expr.Type. -/
import Derived.Test.YtimmomhgljofnaaDoorV6
set_option linter.unusedVariables false
set_option linter.unusedSimpArgs false
namespace Go.Proofs.YtimmomhgljofnaaDoor.Hand
open Go.Proofs.YtimmomhgljofnaaDoor.PValueBad
open Go.RowKit Go.Proofs.YtimmomhgljofnaaDoorW.PrintWords Go.Proofs.YtimmomhgljofnaaDoorW.PrintLast Go.Proofs.YtimmomhgljofnaaDoorW.PrintMore
set_option maxHeartbeats 1000000 in
set_option maxRecDepth 100000 in
theorem type_c (nm : ByteArray → Bool) (x : S24) {W : World} {A : Option Addr} {c : Nat} (hN : NamesE nm W x) (hr : Kd.C k24 W A x.f5.length x.f5) (hc : x.f5.length ≤ c) (t : Int) (ht : typeE nm x = t) :
    Calls Tryd.prog 38 #[.agg #[.int .i64 x.f0, .string x.f1, .int .i64 x.f2, .string x.f3, .string x.f4, .slice A x.f5.length c]] W fun e w' => e = .returned (.int .i64 t) ∧ Below W.heap.size W w' := by
  subst ht
  have HB := Aside0.mk (Below.refl W.heap.size W)
  have HL := Aside0.mk (Below.refl W.heap.size W)
  have HN := Aside0.mk hN
  have HR := Aside0.mk hr
  clear hN hr
  obtain ⟨b, hb_⟩ : ∃ b, rightE nm x = b := ⟨_, rfl⟩
  cases b
  · have HT := Aside0.mk (show typeE nm x = 0 by unfold typeE; rw [hb_]; rfl)
    go_enter Tryd.func38, Tryd.ntmps38
    go_wp2_with (first | (go_at_call 45; (with_reducible refine (right_c nm _ x (Nat.le_refl _) (NamesE.below (by repeat (first | (with_reducible first | exact HB.out | apply below_alloc | apply pw_below_drewN | apply below_drew1) | exact HB.out)) HN.out) (Kd.C_below HR.out (by repeat (first | (with_reducible first | exact HB.out | apply below_alloc | apply pw_below_drewN | apply below_drew1) | exact HB.out))) hc).mono ?_); rintro e w1 ⟨rfl, hb⟩; have n0_ := Aside0.mk (below_step (by repeat (first | (with_reducible first | exact HB.out | apply below_alloc | apply pw_below_drewN | apply below_drew1) | exact HB.out)) hb); clear HB; have HB := n0_; clear n0_; have hs_ := below_step (by repeat (first | (with_reducible first | exact HL.out | apply below_alloc | apply pw_below_drewN | apply below_drew1) | exact HL.out)) hb; have BE := Aside0.mk (blk_below (o := .cells #[.int .i64 x.f0, .string x.f1, .int .i64 x.f2, .string x.f3, .string x.f4, .slice A x.f5.length c] 24 (0, 0)) (g := W.heap.size) (by repeat (first | (with_reducible refine blk_drewN ?_ _) | (with_reducible refine blk_drew ?_) | exact blk_new' (by first | rfl | simp) | (with_reducible refine blk_alloc ?_ _))) hb); obtain ⟨qBE_0, qBE_1, qBE_2, qBE_3, qBE_4, qBE_5, lBE⟩ := cells6 BE.out; clear HL hs_ hb; have HL := Aside0.mk (Below.refl w1.heap.size w1)) | (go_at_call 46; (with_reducible refine (types_c _ x (Nat.le_refl _) (Kd.C_below HR.out (by repeat (first | (with_reducible first | exact HB.out | apply below_alloc | apply pw_below_drewN | apply below_drew1) | exact HB.out))) hc).mono ?_); rintro e w2 ⟨rfl, hb⟩; have n0_ := Aside0.mk (below_step (by repeat (first | (with_reducible first | exact HB.out | apply below_alloc | apply pw_below_drewN | apply below_drew1) | exact HB.out)) hb); clear HB; have HB := n0_; clear n0_; have hs_ := below_step (by repeat (first | (with_reducible first | exact HL.out | apply below_alloc | apply pw_below_drewN | apply below_drew1) | exact HL.out)) hb; have n_ := Aside0.mk (blk_below BE.out hs_); clear qBE_0 qBE_1 qBE_2 qBE_3 qBE_4 qBE_5 lBE; clear BE; have BE := n_; clear n_; obtain ⟨qBE_0, qBE_1, qBE_2, qBE_3, qBE_4, qBE_5, lBE⟩ := cells6 BE.out; clear HL hs_ hb; have HL := Aside0.mk (Below.refl w2.heap.size w2)))
    all_goals (try (exfalso; omega))
    all_goals go_ret
    all_goals exact ⟨by rw [HT.out]; rfl, (by repeat (first | (with_reducible first | exact HB.out | apply below_alloc | apply pw_below_drewN | apply below_drew1) | exact HB.out))⟩
  · have HT := Aside0.mk (show typeE nm x = typesE x by unfold typeE; rw [hb_]; rfl)
    go_enter Tryd.func38, Tryd.ntmps38
    go_wp2_with (first | (go_at_call 45; (with_reducible refine (right_c nm _ x (Nat.le_refl _) (NamesE.below (by repeat (first | (with_reducible first | exact HB.out | apply below_alloc | apply pw_below_drewN | apply below_drew1) | exact HB.out)) HN.out) (Kd.C_below HR.out (by repeat (first | (with_reducible first | exact HB.out | apply below_alloc | apply pw_below_drewN | apply below_drew1) | exact HB.out))) hc).mono ?_); rintro e w1 ⟨rfl, hb⟩; have n0_ := Aside0.mk (below_step (by repeat (first | (with_reducible first | exact HB.out | apply below_alloc | apply pw_below_drewN | apply below_drew1) | exact HB.out)) hb); clear HB; have HB := n0_; clear n0_; have hs_ := below_step (by repeat (first | (with_reducible first | exact HL.out | apply below_alloc | apply pw_below_drewN | apply below_drew1) | exact HL.out)) hb; have BE := Aside0.mk (blk_below (o := .cells #[.int .i64 x.f0, .string x.f1, .int .i64 x.f2, .string x.f3, .string x.f4, .slice A x.f5.length c] 24 (0, 0)) (g := W.heap.size) (by repeat (first | (with_reducible refine blk_drewN ?_ _) | (with_reducible refine blk_drew ?_) | exact blk_new' (by first | rfl | simp) | (with_reducible refine blk_alloc ?_ _))) hb); obtain ⟨qBE_0, qBE_1, qBE_2, qBE_3, qBE_4, qBE_5, lBE⟩ := cells6 BE.out; clear HL hs_ hb; have HL := Aside0.mk (Below.refl w1.heap.size w1)) | (go_at_call 46; (with_reducible refine (types_c _ x (Nat.le_refl _) (Kd.C_below HR.out (by repeat (first | (with_reducible first | exact HB.out | apply below_alloc | apply pw_below_drewN | apply below_drew1) | exact HB.out))) hc).mono ?_); rintro e w2 ⟨rfl, hb⟩; have n0_ := Aside0.mk (below_step (by repeat (first | (with_reducible first | exact HB.out | apply below_alloc | apply pw_below_drewN | apply below_drew1) | exact HB.out)) hb); clear HB; have HB := n0_; clear n0_; have hs_ := below_step (by repeat (first | (with_reducible first | exact HL.out | apply below_alloc | apply pw_below_drewN | apply below_drew1) | exact HL.out)) hb; have n_ := Aside0.mk (blk_below BE.out hs_); clear qBE_0 qBE_1 qBE_2 qBE_3 qBE_4 qBE_5 lBE; clear BE; have BE := n_; clear n_; obtain ⟨qBE_0, qBE_1, qBE_2, qBE_3, qBE_4, qBE_5, lBE⟩ := cells6 BE.out; clear HL hs_ hb; have HL := Aside0.mk (Below.refl w2.heap.size w2)))
    all_goals (try (exfalso; omega))
    all_goals go_ret
    all_goals exact ⟨by rw [HT.out]; rfl, (by repeat (first | (with_reducible first | exact HB.out | apply below_alloc | apply pw_below_drewN | apply below_drew1) | exact HB.out))⟩
end Go.Proofs.YtimmomhgljofnaaDoor.Hand
