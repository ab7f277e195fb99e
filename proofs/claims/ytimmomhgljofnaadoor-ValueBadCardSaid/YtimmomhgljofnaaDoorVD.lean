/- Chapter 8: value.Eval, value.Holds. -/
import Derived.Test.YtimmomhgljofnaaDoorVC
import Derived.Deep.RegionLaw
import Derived.Deep.DeepCutAuto
import Derived.Deep.CutBlock
set_option linter.unusedVariables false
set_option linter.unusedSimpArgs false
namespace Go.Proofs.YtimmomhgljofnaaDoor.Hand
open Go.Proofs.YtimmomhgljofnaaDoor.PValueBad
open Go.RowKit Go.Proofs.YtimmomhgljofnaaDoorW.PrintWords Go.Proofs.YtimmomhgljofnaaDoorW.PrintLast Go.Proofs.YtimmomhgljofnaaDoorW.PrintMore
def evalV : Vl → Int × Bool
  | .num n => (n, true)
  | .tr b => (if b then 1 else 0, true)
  | .bad => (0, false)
def evalF (nm : ByteArray → Bool) (B : List S55) (x : S24) : Int × Bool := if typeE nm x = 0 then (0, false) else evalV (reckonE B x)
def holdsF (nm : ByteArray → Bool) (B : List S55) (x : S24) : Bool := (evalF nm B x).2 && (((evalF nm B x).1 == 1) && (typeE nm x == 2))
theorem typeE_right {nm : ByteArray → Bool} {x : S24} (h : typeE nm x ≠ 0) : rightE nm x = true ∧ typesE x ≠ 0 ∧ typeE nm x = typesE x := by
  unfold typeE at h ⊢
  cases hr : rightE nm x
  · rw [hr] at h; exact absurd rfl h
  · rw [hr] at h
    exact ⟨rfl, h, rfl⟩
set_option maxHeartbeats 4000000 in
set_option maxRecDepth 100000 in
theorem eval_o (nm : ByteArray → Bool) {B : List S55} (hB : InB B) (x : S24) {W : World} {A : Option Addr} {c : Nat} {BA : Option Addr} {bl bc : Nat} (hN : NamesE nm W x) (hI : InE x) (hr : Kd.C k24 W A x.f5.length x.f5) (hc : x.f5.length ≤ c) (hCB : Kd.C k55 W BA bl B) :
    Calls Tryd.prog 24 #[.agg #[.int .i64 x.f0, .string x.f1, .int .i64 x.f2, .string x.f3, .string x.f4, .slice A x.f5.length c], .slice BA bl bc] W fun e w' => e = .returned (.tuple #[.int .i64 (evalF nm B x).1, .bool (evalF nm B x).2]) ∧ Below W.heap.size W w' := by
  have HB := Aside0.mk (Below.refl W.heap.size W)
  have HL := Aside0.mk (Below.refl W.heap.size W)
  have HN := Aside0.mk hN
  have HR := Aside0.mk hr
  have HBB := Aside0.mk hCB
  have HI := Aside0.mk hI
  clear hN hr hCB hI
  obtain ⟨t, ht⟩ : ∃ t, typeE nm x = t := ⟨_, rfl⟩
  have HT := Aside0.mk ht
  by_cases h0 : t = 0
  · have HP := Aside0.mk (show evalF nm B x = (0, false) by unfold evalF; rw [if_pos (by rw [ht]; exact h0)])
    clear ht
    subst h0
    go_enter Tryd.func24, Tryd.ntmps24
    go_wp2_with (first | (go_at_call 38; (with_reducible refine (type_c nm x (NamesE.below (by repeat (first | (with_reducible first | exact HB.out | apply below_alloc | apply pw_below_drewN | apply below_drew1) | exact HB.out)) HN.out) (Kd.C_below HR.out (by repeat (first | (with_reducible first | exact HB.out | apply below_alloc | apply pw_below_drewN | apply below_drew1) | exact HB.out))) hc _ HT.out).mono ?_); rintro e w1 ⟨rfl, hb⟩; have n0_ := Aside0.mk (below_step (by repeat (first | (with_reducible first | exact HB.out | apply below_alloc | apply pw_below_drewN | apply below_drew1) | exact HB.out)) hb); clear HB; have HB := n0_; clear n0_; have hs_ := below_step (by repeat (first | (with_reducible first | exact HL.out | apply below_alloc | apply pw_below_drewN | apply below_drew1) | exact HL.out)) hb; have BE := Aside0.mk (blk_below (o := .cells #[.int .i64 x.f0, .string x.f1, .int .i64 x.f2, .string x.f3, .string x.f4, .slice A x.f5.length c] 24 (0, 0)) (g := W.heap.size) (by repeat (first | (with_reducible refine blk_drewN ?_ _) | (with_reducible refine blk_drew ?_) | exact blk_new' (by first | rfl | simp) | (with_reducible refine blk_alloc ?_ _))) hb); obtain ⟨qBE_0, qBE_1, qBE_2, qBE_3, qBE_4, qBE_5, lBE⟩ := cells6 BE.out; clear HL hs_ hb; have HL := Aside0.mk (Below.refl w1.heap.size w1)))
    all_goals (try (exfalso; omega))
    all_goals go_ret2
    all_goals exact ⟨by rw [HP.out]; rfl, (by repeat (first | (with_reducible first | exact HB.out | apply below_alloc | apply pw_below_drewN | apply below_drew1) | exact HB.out))⟩
  · obtain ⟨hright, htn, _⟩ := typeE_right (show typeE nm x ≠ 0 by rw [ht]; exact h0)
    have ht0 : (t == 0) = false := beq_eq_false_iff_ne.mpr h0
    cases hv : reckonE B x with
    | bad =>
      have HP := Aside0.mk (show evalF nm B x = (0, false) by unfold evalF; rw [if_neg (by rw [ht]; exact h0), hv]; rfl)
      have HV := Aside0.mk (show vW (reckonE B x) = .iface 80 (.agg #[]) by rw [hv]; rfl)
      clear hv
      have t1_ := ta_bb
      have t2_ := ta_bt
      have t3_ := ta_bn
      have t4_ := ta_nb
      have t5_ := ta_nn
      have t6_ := ta_nt
      go_enter Tryd.func24, Tryd.ntmps24
      go_wp2_with (first | (go_at_call 38; (with_reducible refine (type_c nm x (NamesE.below (by repeat (first | (with_reducible first | exact HB.out | apply below_alloc | apply pw_below_drewN | apply below_drew1) | exact HB.out)) HN.out) (Kd.C_below HR.out (by repeat (first | (with_reducible first | exact HB.out | apply below_alloc | apply pw_below_drewN | apply below_drew1) | exact HB.out))) hc _ HT.out).mono ?_); rintro e w1 ⟨rfl, hb⟩; have n0_ := Aside0.mk (below_step (by repeat (first | (with_reducible first | exact HB.out | apply below_alloc | apply pw_below_drewN | apply below_drew1) | exact HB.out)) hb); clear HB; have HB := n0_; clear n0_; have hs_ := below_step (by repeat (first | (with_reducible first | exact HL.out | apply below_alloc | apply pw_below_drewN | apply below_drew1) | exact HL.out)) hb; have BE := Aside0.mk (blk_below (o := .cells #[.int .i64 x.f0, .string x.f1, .int .i64 x.f2, .string x.f3, .string x.f4, .slice A x.f5.length c] 24 (0, 0)) (g := W.heap.size) (by repeat (first | (with_reducible refine blk_drewN ?_ _) | (with_reducible refine blk_drew ?_) | exact blk_new' (by first | rfl | simp) | (with_reducible refine blk_alloc ?_ _))) hb); obtain ⟨qBE_0, qBE_1, qBE_2, qBE_3, qBE_4, qBE_5, lBE⟩ := cells6 BE.out; clear HL hs_ hb; have HL := Aside0.mk (Below.refl w1.heap.size w1)) | (go_at_call 39; (with_reducible refine (reckon_c nm hB _ x (Nat.le_refl _) hright HI.out htn (Kd.C_below HR.out (by repeat (first | (with_reducible first | exact HB.out | apply below_alloc | apply pw_below_drewN | apply below_drew1) | exact HB.out))) hc (Kd.C_below HBB.out (by repeat (first | (with_reducible first | exact HB.out | apply below_alloc | apply pw_below_drewN | apply below_drew1) | exact HB.out)))).mono ?_); rintro e w2 ⟨rfl, hb⟩; rw [HV.out]; have n0_ := Aside0.mk (below_step (by repeat (first | (with_reducible first | exact HB.out | apply below_alloc | apply pw_below_drewN | apply below_drew1) | exact HB.out)) hb); clear HB; have HB := n0_; clear n0_; have hs_ := below_step (by repeat (first | (with_reducible first | exact HL.out | apply below_alloc | apply pw_below_drewN | apply below_drew1) | exact HL.out)) hb; have n_ := Aside0.mk (blk_below BE.out hs_); clear qBE_0 qBE_1 qBE_2 qBE_3 qBE_4 qBE_5 lBE; clear BE; have BE := n_; clear n_; obtain ⟨qBE_0, qBE_1, qBE_2, qBE_3, qBE_4, qBE_5, lBE⟩ := cells6 BE.out; clear HL hs_ hb; have HL := Aside0.mk (Below.refl w2.heap.size w2)))
      all_goals (try (exfalso; omega))
      all_goals go_ret2
      all_goals exact ⟨by rw [HP.out]; rfl, (by repeat (first | (with_reducible first | exact HB.out | apply below_alloc | apply pw_below_drewN | apply below_drew1) | exact HB.out))⟩
    | num n =>
      have HP := Aside0.mk (show evalF nm B x = (n, true) by unfold evalF; rw [if_neg (by rw [ht]; exact h0), hv]; rfl)
      have HV := Aside0.mk (show vW (reckonE B x) = .iface 2 (.int .i64 n) by rw [hv]; rfl)
      clear hv
      have t1_ := ta_bb
      have t2_ := ta_bt
      have t3_ := ta_bn
      have t4_ := ta_nb
      have t5_ := ta_nn
      have t6_ := ta_nt
      go_enter Tryd.func24, Tryd.ntmps24
      go_wp2_with (first | (go_at_call 38; (with_reducible refine (type_c nm x (NamesE.below (by repeat (first | (with_reducible first | exact HB.out | apply below_alloc | apply pw_below_drewN | apply below_drew1) | exact HB.out)) HN.out) (Kd.C_below HR.out (by repeat (first | (with_reducible first | exact HB.out | apply below_alloc | apply pw_below_drewN | apply below_drew1) | exact HB.out))) hc _ HT.out).mono ?_); rintro e w1 ⟨rfl, hb⟩; have n0_ := Aside0.mk (below_step (by repeat (first | (with_reducible first | exact HB.out | apply below_alloc | apply pw_below_drewN | apply below_drew1) | exact HB.out)) hb); clear HB; have HB := n0_; clear n0_; have hs_ := below_step (by repeat (first | (with_reducible first | exact HL.out | apply below_alloc | apply pw_below_drewN | apply below_drew1) | exact HL.out)) hb; have BE := Aside0.mk (blk_below (o := .cells #[.int .i64 x.f0, .string x.f1, .int .i64 x.f2, .string x.f3, .string x.f4, .slice A x.f5.length c] 24 (0, 0)) (g := W.heap.size) (by repeat (first | (with_reducible refine blk_drewN ?_ _) | (with_reducible refine blk_drew ?_) | exact blk_new' (by first | rfl | simp) | (with_reducible refine blk_alloc ?_ _))) hb); obtain ⟨qBE_0, qBE_1, qBE_2, qBE_3, qBE_4, qBE_5, lBE⟩ := cells6 BE.out; clear HL hs_ hb; have HL := Aside0.mk (Below.refl w1.heap.size w1)) | (go_at_call 39; (with_reducible refine (reckon_c nm hB _ x (Nat.le_refl _) hright HI.out htn (Kd.C_below HR.out (by repeat (first | (with_reducible first | exact HB.out | apply below_alloc | apply pw_below_drewN | apply below_drew1) | exact HB.out))) hc (Kd.C_below HBB.out (by repeat (first | (with_reducible first | exact HB.out | apply below_alloc | apply pw_below_drewN | apply below_drew1) | exact HB.out)))).mono ?_); rintro e w2 ⟨rfl, hb⟩; rw [HV.out]; have n0_ := Aside0.mk (below_step (by repeat (first | (with_reducible first | exact HB.out | apply below_alloc | apply pw_below_drewN | apply below_drew1) | exact HB.out)) hb); clear HB; have HB := n0_; clear n0_; have hs_ := below_step (by repeat (first | (with_reducible first | exact HL.out | apply below_alloc | apply pw_below_drewN | apply below_drew1) | exact HL.out)) hb; have n_ := Aside0.mk (blk_below BE.out hs_); clear qBE_0 qBE_1 qBE_2 qBE_3 qBE_4 qBE_5 lBE; clear BE; have BE := n_; clear n_; obtain ⟨qBE_0, qBE_1, qBE_2, qBE_3, qBE_4, qBE_5, lBE⟩ := cells6 BE.out; clear HL hs_ hb; have HL := Aside0.mk (Below.refl w2.heap.size w2)))
      all_goals (try (exfalso; omega))
      all_goals go_ret2
      all_goals exact ⟨by rw [HP.out]; rfl, (by repeat (first | (with_reducible first | exact HB.out | apply below_alloc | apply pw_below_drewN | apply below_drew1) | exact HB.out))⟩
    | tr b =>
      cases b
      · have HP := Aside0.mk (show evalF nm B x = (0, true) by unfold evalF; rw [if_neg (by rw [ht]; exact h0), hv]; rfl)
        have HV := Aside0.mk (show vW (reckonE B x) = .iface 4 (.bool false) by rw [hv]; rfl)
        clear hv
        have t1_ := ta_bb
        have t2_ := ta_bt
        have t3_ := ta_bn
        have t4_ := ta_nb
        have t5_ := ta_nn
        have t6_ := ta_nt
        go_enter Tryd.func24, Tryd.ntmps24
        go_wp2_with (first | (go_at_call 38; (with_reducible refine (type_c nm x (NamesE.below (by repeat (first | (with_reducible first | exact HB.out | apply below_alloc | apply pw_below_drewN | apply below_drew1) | exact HB.out)) HN.out) (Kd.C_below HR.out (by repeat (first | (with_reducible first | exact HB.out | apply below_alloc | apply pw_below_drewN | apply below_drew1) | exact HB.out))) hc _ HT.out).mono ?_); rintro e w1 ⟨rfl, hb⟩; have n0_ := Aside0.mk (below_step (by repeat (first | (with_reducible first | exact HB.out | apply below_alloc | apply pw_below_drewN | apply below_drew1) | exact HB.out)) hb); clear HB; have HB := n0_; clear n0_; have hs_ := below_step (by repeat (first | (with_reducible first | exact HL.out | apply below_alloc | apply pw_below_drewN | apply below_drew1) | exact HL.out)) hb; have BE := Aside0.mk (blk_below (o := .cells #[.int .i64 x.f0, .string x.f1, .int .i64 x.f2, .string x.f3, .string x.f4, .slice A x.f5.length c] 24 (0, 0)) (g := W.heap.size) (by repeat (first | (with_reducible refine blk_drewN ?_ _) | (with_reducible refine blk_drew ?_) | exact blk_new' (by first | rfl | simp) | (with_reducible refine blk_alloc ?_ _))) hb); obtain ⟨qBE_0, qBE_1, qBE_2, qBE_3, qBE_4, qBE_5, lBE⟩ := cells6 BE.out; clear HL hs_ hb; have HL := Aside0.mk (Below.refl w1.heap.size w1)) | (go_at_call 39; (with_reducible refine (reckon_c nm hB _ x (Nat.le_refl _) hright HI.out htn (Kd.C_below HR.out (by repeat (first | (with_reducible first | exact HB.out | apply below_alloc | apply pw_below_drewN | apply below_drew1) | exact HB.out))) hc (Kd.C_below HBB.out (by repeat (first | (with_reducible first | exact HB.out | apply below_alloc | apply pw_below_drewN | apply below_drew1) | exact HB.out)))).mono ?_); rintro e w2 ⟨rfl, hb⟩; rw [HV.out]; have n0_ := Aside0.mk (below_step (by repeat (first | (with_reducible first | exact HB.out | apply below_alloc | apply pw_below_drewN | apply below_drew1) | exact HB.out)) hb); clear HB; have HB := n0_; clear n0_; have hs_ := below_step (by repeat (first | (with_reducible first | exact HL.out | apply below_alloc | apply pw_below_drewN | apply below_drew1) | exact HL.out)) hb; have n_ := Aside0.mk (blk_below BE.out hs_); clear qBE_0 qBE_1 qBE_2 qBE_3 qBE_4 qBE_5 lBE; clear BE; have BE := n_; clear n_; obtain ⟨qBE_0, qBE_1, qBE_2, qBE_3, qBE_4, qBE_5, lBE⟩ := cells6 BE.out; clear HL hs_ hb; have HL := Aside0.mk (Below.refl w2.heap.size w2)))
        all_goals (try (exfalso; omega))
        all_goals go_ret2
        all_goals exact ⟨by rw [HP.out]; rfl, (by repeat (first | (with_reducible first | exact HB.out | apply below_alloc | apply pw_below_drewN | apply below_drew1) | exact HB.out))⟩
      · have HP := Aside0.mk (show evalF nm B x = (1, true) by unfold evalF; rw [if_neg (by rw [ht]; exact h0), hv]; rfl)
        have HV := Aside0.mk (show vW (reckonE B x) = .iface 4 (.bool true) by rw [hv]; rfl)
        clear hv
        have t1_ := ta_bb
        have t2_ := ta_bt
        have t3_ := ta_bn
        have t4_ := ta_nb
        have t5_ := ta_nn
        have t6_ := ta_nt
        go_enter Tryd.func24, Tryd.ntmps24
        go_wp2_with (first | (go_at_call 38; (with_reducible refine (type_c nm x (NamesE.below (by repeat (first | (with_reducible first | exact HB.out | apply below_alloc | apply pw_below_drewN | apply below_drew1) | exact HB.out)) HN.out) (Kd.C_below HR.out (by repeat (first | (with_reducible first | exact HB.out | apply below_alloc | apply pw_below_drewN | apply below_drew1) | exact HB.out))) hc _ HT.out).mono ?_); rintro e w1 ⟨rfl, hb⟩; have n0_ := Aside0.mk (below_step (by repeat (first | (with_reducible first | exact HB.out | apply below_alloc | apply pw_below_drewN | apply below_drew1) | exact HB.out)) hb); clear HB; have HB := n0_; clear n0_; have hs_ := below_step (by repeat (first | (with_reducible first | exact HL.out | apply below_alloc | apply pw_below_drewN | apply below_drew1) | exact HL.out)) hb; have BE := Aside0.mk (blk_below (o := .cells #[.int .i64 x.f0, .string x.f1, .int .i64 x.f2, .string x.f3, .string x.f4, .slice A x.f5.length c] 24 (0, 0)) (g := W.heap.size) (by repeat (first | (with_reducible refine blk_drewN ?_ _) | (with_reducible refine blk_drew ?_) | exact blk_new' (by first | rfl | simp) | (with_reducible refine blk_alloc ?_ _))) hb); obtain ⟨qBE_0, qBE_1, qBE_2, qBE_3, qBE_4, qBE_5, lBE⟩ := cells6 BE.out; clear HL hs_ hb; have HL := Aside0.mk (Below.refl w1.heap.size w1)) | (go_at_call 39; (with_reducible refine (reckon_c nm hB _ x (Nat.le_refl _) hright HI.out htn (Kd.C_below HR.out (by repeat (first | (with_reducible first | exact HB.out | apply below_alloc | apply pw_below_drewN | apply below_drew1) | exact HB.out))) hc (Kd.C_below HBB.out (by repeat (first | (with_reducible first | exact HB.out | apply below_alloc | apply pw_below_drewN | apply below_drew1) | exact HB.out)))).mono ?_); rintro e w2 ⟨rfl, hb⟩; rw [HV.out]; have n0_ := Aside0.mk (below_step (by repeat (first | (with_reducible first | exact HB.out | apply below_alloc | apply pw_below_drewN | apply below_drew1) | exact HB.out)) hb); clear HB; have HB := n0_; clear n0_; have hs_ := below_step (by repeat (first | (with_reducible first | exact HL.out | apply below_alloc | apply pw_below_drewN | apply below_drew1) | exact HL.out)) hb; have n_ := Aside0.mk (blk_below BE.out hs_); clear qBE_0 qBE_1 qBE_2 qBE_3 qBE_4 qBE_5 lBE; clear BE; have BE := n_; clear n_; obtain ⟨qBE_0, qBE_1, qBE_2, qBE_3, qBE_4, qBE_5, lBE⟩ := cells6 BE.out; clear HL hs_ hb; have HL := Aside0.mk (Below.refl w2.heap.size w2)))
        all_goals (try (exfalso; omega))
        all_goals go_ret2
        all_goals exact ⟨by rw [HP.out]; rfl, (by repeat (first | (with_reducible first | exact HB.out | apply below_alloc | apply pw_below_drewN | apply below_drew1) | exact HB.out))⟩
theorem eval_c (nm : ByteArray → Bool) {B : List S55} (hB : InB B) (x : S24) {W : World} {A : Option Addr} {c : Nat} {BA : Option Addr} {bl bc : Nat} (hN : NamesE nm W x) (hI : InE x) (hr : Kd.C k24 W A x.f5.length x.f5) (hc : x.f5.length ≤ c) (hCB : Kd.C k55 W BA bl B) (n : Int) (ok : Bool) (hp : evalF nm B x = (n, ok)) :
    Calls Tryd.prog 24 #[.agg #[.int .i64 x.f0, .string x.f1, .int .i64 x.f2, .string x.f3, .string x.f4, .slice A x.f5.length c], .slice BA bl bc] W fun e w' => e = .returned (.tuple #[.int .i64 n, .bool ok]) ∧ Below W.heap.size W w' := by
  have := eval_o nm hB x (bc := bc) hN hI hr hc hCB
  rw [hp] at this
  exact this
set_option maxHeartbeats 4000000 in
set_option maxRecDepth 100000 in
theorem holds_c (nm : ByteArray → Bool) {B : List S55} (hB : InB B) (x : S24) {W : World} {A : Option Addr} {c : Nat} {BA : Option Addr} {bl bc : Nat} (hN : NamesE nm W x) (hI : InE x) (hr : Kd.C k24 W A x.f5.length x.f5) (hc : x.f5.length ≤ c) (hCB : Kd.C k55 W BA bl B) (b : Bool) (hb : holdsF nm B x = b) :
    Calls Tryd.prog 29 #[.agg #[.int .i64 x.f0, .string x.f1, .int .i64 x.f2, .string x.f3, .string x.f4, .slice A x.f5.length c], .slice BA bl bc] W fun e w' => e = .returned (.bool b) ∧ Below W.heap.size W w' := by
  have HB := Aside0.mk (Below.refl W.heap.size W)
  have HL := Aside0.mk (Below.refl W.heap.size W)
  have HN := Aside0.mk hN
  have HR := Aside0.mk hr
  have HBB := Aside0.mk hCB
  have HI := Aside0.mk hI
  clear hN hr hCB hI
  obtain ⟨t, ht⟩ : ∃ t, typeE nm x = t := ⟨_, rfl⟩
  obtain ⟨⟨n, ok⟩, hp⟩ : ∃ p, evalF nm B x = p := ⟨_, rfl⟩
  have HT := Aside0.mk ht
  have HP := Aside0.mk hp
  subst hb
  cases ok
  · have HH := Aside0.mk (show holdsF nm B x = false by unfold holdsF; rw [hp]; rfl)
    clear ht hp
    go_enter Tryd.func29, Tryd.ntmps29
    go_wp2_with (first | (go_at_call 24; (with_reducible refine (eval_c nm hB x (NamesE.below (by repeat (first | (with_reducible first | exact HB.out | apply below_alloc | apply pw_below_drewN | apply below_drew1) | exact HB.out)) HN.out) HI.out (Kd.C_below HR.out (by repeat (first | (with_reducible first | exact HB.out | apply below_alloc | apply pw_below_drewN | apply below_drew1) | exact HB.out))) hc (Kd.C_below HBB.out (by repeat (first | (with_reducible first | exact HB.out | apply below_alloc | apply pw_below_drewN | apply below_drew1) | exact HB.out))) _ _ HP.out).mono ?_); rintro e w2 ⟨rfl, hb⟩; have n0_ := Aside0.mk (below_step (by repeat (first | (with_reducible first | exact HB.out | apply below_alloc | apply pw_below_drewN | apply below_drew1) | exact HB.out)) hb); clear HB; have HB := n0_; clear n0_; have hs_ := below_step (by repeat (first | (with_reducible first | exact HL.out | apply below_alloc | apply pw_below_drewN | apply below_drew1) | exact HL.out)) hb; have BE := Aside0.mk (blk_below (o := .cells #[.int .i64 x.f0, .string x.f1, .int .i64 x.f2, .string x.f3, .string x.f4, .slice A x.f5.length c] 24 (0, 0)) (g := W.heap.size) (by repeat (first | (with_reducible refine blk_drewN ?_ _) | (with_reducible refine blk_drew ?_) | exact blk_new' (by first | rfl | simp) | (with_reducible refine blk_alloc ?_ _))) hb); obtain ⟨qBE_0, qBE_1, qBE_2, qBE_3, qBE_4, qBE_5, lBE⟩ := cells6 BE.out; clear HL hs_ hb; have HL := Aside0.mk (Below.refl w2.heap.size w2)) | (go_at_call 38; (with_reducible refine (type_c nm x (NamesE.below (by repeat (first | (with_reducible first | exact HB.out | apply below_alloc | apply pw_below_drewN | apply below_drew1) | exact HB.out)) HN.out) (Kd.C_below HR.out (by repeat (first | (with_reducible first | exact HB.out | apply below_alloc | apply pw_below_drewN | apply below_drew1) | exact HB.out))) hc _ HT.out).mono ?_); rintro e w1 ⟨rfl, hb⟩; have n0_ := Aside0.mk (below_step (by repeat (first | (with_reducible first | exact HB.out | apply below_alloc | apply pw_below_drewN | apply below_drew1) | exact HB.out)) hb); clear HB; have HB := n0_; clear n0_; have hs_ := below_step (by repeat (first | (with_reducible first | exact HL.out | apply below_alloc | apply pw_below_drewN | apply below_drew1) | exact HL.out)) hb; have n_ := Aside0.mk (blk_below BE.out hs_); clear qBE_0 qBE_1 qBE_2 qBE_3 qBE_4 qBE_5 lBE; clear BE; have BE := n_; clear n_; obtain ⟨qBE_0, qBE_1, qBE_2, qBE_3, qBE_4, qBE_5, lBE⟩ := cells6 BE.out; clear HL hs_ hb; have HL := Aside0.mk (Below.refl w1.heap.size w1)))
    all_goals (try (exfalso; omega))
    all_goals go_ret
    all_goals exact ⟨by rw [HH.out]; rfl, (by repeat (first | (with_reducible first | exact HB.out | apply below_alloc | apply pw_below_drewN | apply below_drew1) | exact HB.out))⟩
  · cases h1 : n == 1
    · have HH := Aside0.mk (show holdsF nm B x = false by unfold holdsF; rw [hp, h1]; rfl)
      clear ht hp
      go_enter Tryd.func29, Tryd.ntmps29
      go_wp2_with (first | (go_at_call 24; (with_reducible refine (eval_c nm hB x (NamesE.below (by repeat (first | (with_reducible first | exact HB.out | apply below_alloc | apply pw_below_drewN | apply below_drew1) | exact HB.out)) HN.out) HI.out (Kd.C_below HR.out (by repeat (first | (with_reducible first | exact HB.out | apply below_alloc | apply pw_below_drewN | apply below_drew1) | exact HB.out))) hc (Kd.C_below HBB.out (by repeat (first | (with_reducible first | exact HB.out | apply below_alloc | apply pw_below_drewN | apply below_drew1) | exact HB.out))) _ _ HP.out).mono ?_); rintro e w2 ⟨rfl, hb⟩; have n0_ := Aside0.mk (below_step (by repeat (first | (with_reducible first | exact HB.out | apply below_alloc | apply pw_below_drewN | apply below_drew1) | exact HB.out)) hb); clear HB; have HB := n0_; clear n0_; have hs_ := below_step (by repeat (first | (with_reducible first | exact HL.out | apply below_alloc | apply pw_below_drewN | apply below_drew1) | exact HL.out)) hb; have BE := Aside0.mk (blk_below (o := .cells #[.int .i64 x.f0, .string x.f1, .int .i64 x.f2, .string x.f3, .string x.f4, .slice A x.f5.length c] 24 (0, 0)) (g := W.heap.size) (by repeat (first | (with_reducible refine blk_drewN ?_ _) | (with_reducible refine blk_drew ?_) | exact blk_new' (by first | rfl | simp) | (with_reducible refine blk_alloc ?_ _))) hb); obtain ⟨qBE_0, qBE_1, qBE_2, qBE_3, qBE_4, qBE_5, lBE⟩ := cells6 BE.out; clear HL hs_ hb; have HL := Aside0.mk (Below.refl w2.heap.size w2)) | (go_at_call 38; (with_reducible refine (type_c nm x (NamesE.below (by repeat (first | (with_reducible first | exact HB.out | apply below_alloc | apply pw_below_drewN | apply below_drew1) | exact HB.out)) HN.out) (Kd.C_below HR.out (by repeat (first | (with_reducible first | exact HB.out | apply below_alloc | apply pw_below_drewN | apply below_drew1) | exact HB.out))) hc _ HT.out).mono ?_); rintro e w1 ⟨rfl, hb⟩; have n0_ := Aside0.mk (below_step (by repeat (first | (with_reducible first | exact HB.out | apply below_alloc | apply pw_below_drewN | apply below_drew1) | exact HB.out)) hb); clear HB; have HB := n0_; clear n0_; have hs_ := below_step (by repeat (first | (with_reducible first | exact HL.out | apply below_alloc | apply pw_below_drewN | apply below_drew1) | exact HL.out)) hb; have n_ := Aside0.mk (blk_below BE.out hs_); clear qBE_0 qBE_1 qBE_2 qBE_3 qBE_4 qBE_5 lBE; clear BE; have BE := n_; clear n_; obtain ⟨qBE_0, qBE_1, qBE_2, qBE_3, qBE_4, qBE_5, lBE⟩ := cells6 BE.out; clear HL hs_ hb; have HL := Aside0.mk (Below.refl w1.heap.size w1)))
      all_goals (try (exfalso; omega))
      all_goals go_ret
      all_goals exact ⟨by rw [HH.out]; rfl, (by repeat (first | (with_reducible first | exact HB.out | apply below_alloc | apply pw_below_drewN | apply below_drew1) | exact HB.out))⟩
    · cases h2 : t == 2
      · have HH := Aside0.mk (show holdsF nm B x = false by unfold holdsF; rw [hp, h1, ht, h2]; rfl)
        clear ht hp
        go_enter Tryd.func29, Tryd.ntmps29
        go_wp2_with (first | (go_at_call 24; (with_reducible refine (eval_c nm hB x (NamesE.below (by repeat (first | (with_reducible first | exact HB.out | apply below_alloc | apply pw_below_drewN | apply below_drew1) | exact HB.out)) HN.out) HI.out (Kd.C_below HR.out (by repeat (first | (with_reducible first | exact HB.out | apply below_alloc | apply pw_below_drewN | apply below_drew1) | exact HB.out))) hc (Kd.C_below HBB.out (by repeat (first | (with_reducible first | exact HB.out | apply below_alloc | apply pw_below_drewN | apply below_drew1) | exact HB.out))) _ _ HP.out).mono ?_); rintro e w2 ⟨rfl, hb⟩; have n0_ := Aside0.mk (below_step (by repeat (first | (with_reducible first | exact HB.out | apply below_alloc | apply pw_below_drewN | apply below_drew1) | exact HB.out)) hb); clear HB; have HB := n0_; clear n0_; have hs_ := below_step (by repeat (first | (with_reducible first | exact HL.out | apply below_alloc | apply pw_below_drewN | apply below_drew1) | exact HL.out)) hb; have BE := Aside0.mk (blk_below (o := .cells #[.int .i64 x.f0, .string x.f1, .int .i64 x.f2, .string x.f3, .string x.f4, .slice A x.f5.length c] 24 (0, 0)) (g := W.heap.size) (by repeat (first | (with_reducible refine blk_drewN ?_ _) | (with_reducible refine blk_drew ?_) | exact blk_new' (by first | rfl | simp) | (with_reducible refine blk_alloc ?_ _))) hb); obtain ⟨qBE_0, qBE_1, qBE_2, qBE_3, qBE_4, qBE_5, lBE⟩ := cells6 BE.out; clear HL hs_ hb; have HL := Aside0.mk (Below.refl w2.heap.size w2)) | (go_at_call 38; (with_reducible refine (type_c nm x (NamesE.below (by repeat (first | (with_reducible first | exact HB.out | apply below_alloc | apply pw_below_drewN | apply below_drew1) | exact HB.out)) HN.out) (Kd.C_below HR.out (by repeat (first | (with_reducible first | exact HB.out | apply below_alloc | apply pw_below_drewN | apply below_drew1) | exact HB.out))) hc _ HT.out).mono ?_); rintro e w1 ⟨rfl, hb⟩; have n0_ := Aside0.mk (below_step (by repeat (first | (with_reducible first | exact HB.out | apply below_alloc | apply pw_below_drewN | apply below_drew1) | exact HB.out)) hb); clear HB; have HB := n0_; clear n0_; have hs_ := below_step (by repeat (first | (with_reducible first | exact HL.out | apply below_alloc | apply pw_below_drewN | apply below_drew1) | exact HL.out)) hb; have n_ := Aside0.mk (blk_below BE.out hs_); clear qBE_0 qBE_1 qBE_2 qBE_3 qBE_4 qBE_5 lBE; clear BE; have BE := n_; clear n_; obtain ⟨qBE_0, qBE_1, qBE_2, qBE_3, qBE_4, qBE_5, lBE⟩ := cells6 BE.out; clear HL hs_ hb; have HL := Aside0.mk (Below.refl w1.heap.size w1)))
        all_goals (try (exfalso; omega))
        all_goals go_ret
        all_goals exact ⟨by rw [HH.out]; rfl, (by repeat (first | (with_reducible first | exact HB.out | apply below_alloc | apply pw_below_drewN | apply below_drew1) | exact HB.out))⟩
      · have HH := Aside0.mk (show holdsF nm B x = true by unfold holdsF; rw [hp, h1, ht, h2]; rfl)
        clear ht hp
        go_enter Tryd.func29, Tryd.ntmps29
        go_wp2_with (first | (go_at_call 24; (with_reducible refine (eval_c nm hB x (NamesE.below (by repeat (first | (with_reducible first | exact HB.out | apply below_alloc | apply pw_below_drewN | apply below_drew1) | exact HB.out)) HN.out) HI.out (Kd.C_below HR.out (by repeat (first | (with_reducible first | exact HB.out | apply below_alloc | apply pw_below_drewN | apply below_drew1) | exact HB.out))) hc (Kd.C_below HBB.out (by repeat (first | (with_reducible first | exact HB.out | apply below_alloc | apply pw_below_drewN | apply below_drew1) | exact HB.out))) _ _ HP.out).mono ?_); rintro e w2 ⟨rfl, hb⟩; have n0_ := Aside0.mk (below_step (by repeat (first | (with_reducible first | exact HB.out | apply below_alloc | apply pw_below_drewN | apply below_drew1) | exact HB.out)) hb); clear HB; have HB := n0_; clear n0_; have hs_ := below_step (by repeat (first | (with_reducible first | exact HL.out | apply below_alloc | apply pw_below_drewN | apply below_drew1) | exact HL.out)) hb; have BE := Aside0.mk (blk_below (o := .cells #[.int .i64 x.f0, .string x.f1, .int .i64 x.f2, .string x.f3, .string x.f4, .slice A x.f5.length c] 24 (0, 0)) (g := W.heap.size) (by repeat (first | (with_reducible refine blk_drewN ?_ _) | (with_reducible refine blk_drew ?_) | exact blk_new' (by first | rfl | simp) | (with_reducible refine blk_alloc ?_ _))) hb); obtain ⟨qBE_0, qBE_1, qBE_2, qBE_3, qBE_4, qBE_5, lBE⟩ := cells6 BE.out; clear HL hs_ hb; have HL := Aside0.mk (Below.refl w2.heap.size w2)) | (go_at_call 38; (with_reducible refine (type_c nm x (NamesE.below (by repeat (first | (with_reducible first | exact HB.out | apply below_alloc | apply pw_below_drewN | apply below_drew1) | exact HB.out)) HN.out) (Kd.C_below HR.out (by repeat (first | (with_reducible first | exact HB.out | apply below_alloc | apply pw_below_drewN | apply below_drew1) | exact HB.out))) hc _ HT.out).mono ?_); rintro e w1 ⟨rfl, hb⟩; have n0_ := Aside0.mk (below_step (by repeat (first | (with_reducible first | exact HB.out | apply below_alloc | apply pw_below_drewN | apply below_drew1) | exact HB.out)) hb); clear HB; have HB := n0_; clear n0_; have hs_ := below_step (by repeat (first | (with_reducible first | exact HL.out | apply below_alloc | apply pw_below_drewN | apply below_drew1) | exact HL.out)) hb; have n_ := Aside0.mk (blk_below BE.out hs_); clear qBE_0 qBE_1 qBE_2 qBE_3 qBE_4 qBE_5 lBE; clear BE; have BE := n_; clear n_; obtain ⟨qBE_0, qBE_1, qBE_2, qBE_3, qBE_4, qBE_5, lBE⟩ := cells6 BE.out; clear HL hs_ hb; have HL := Aside0.mk (Below.refl w1.heap.size w1)))
        all_goals (try (exfalso; omega))
        all_goals go_ret
        all_goals exact ⟨by rw [HH.out]; rfl, (by repeat (first | (with_reducible first | exact HB.out | apply below_alloc | apply pw_below_drewN | apply below_drew1) | exact HB.out))⟩
end Go.Proofs.YtimmomhgljofnaaDoor.Hand
