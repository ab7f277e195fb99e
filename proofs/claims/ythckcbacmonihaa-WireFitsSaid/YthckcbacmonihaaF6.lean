/- Chapter 5: WireFits. -/
import Derived.Test.YthckcbacmonihaaF4
import Derived.Deep.RegionHeld3
import Derived.OpenShut
set_option linter.unusedVariables false
set_option linter.unusedSimpArgs false
namespace Go.Proofs.Ythckcbacmonihaa.Hand
open Go.RowKit Go.Proofs.Ythckcbacmonihaa.PWireTells Go.Proofs.YthckcbacmonihaaW.PrintWords Go.Proofs.YthckcbacmonihaaW.PrintLast Go.Proofs.YthckcbacmonihaaW.PrintMore

theorem C_made (W : World) (m : Nat) (hm : m ≤ 1000) : Kd.C (Kd.int .i64) (W.alloc (.cells (madeCells #[.int .i64 0] m) 2)) (some ⟨W.heap.size, 0, none⟩) m (List.replicate m 0) := by
  refine ⟨by simp, by omega, fun _ => ⟨_, rfl, fun j p hp => ?_⟩⟩
  have hj : j < m := by have := (List.getElem?_eq_some_iff.1 hp).1; simpa using this
  have hp0 : p = 0 := by rw [List.getElem?_replicate, if_pos hj] at hp; exact (Option.some.inj hp).symm
  subst hp0
  refine ⟨[.int .i64 0], rfl, rfl, fun i u hu => ?_⟩
  match i, hu with
  | 0, hu =>
    simp at hu; subst hu
    have := blk_cell (blk_new W (.cells (madeCells #[.int .i64 0] m) 2)) j
    rw [add_plain]
    simp only [Kd.int, Kd.scalar, Nat.mul_one, Nat.add_zero]
    rw [this]
    simp [madeCells, hj, Nat.mod_one]

def Cells3 (W : World) (g : Nat) (a b c : Value) : Prop := W.cell? ⟨g, 0, none⟩ = some a ∧ W.cell? ⟨g, 1, none⟩ = some b ∧ W.cell? ⟨g, 2, none⟩ = some c
theorem Cells3.keep {W W1 : World} {g : Nat} {a b c : Value} (hb : Below W.heap.size W W1) (h : Cells3 W g a b c) : Cells3 W1 g a b c := ⟨pw_cell_below hb h.1, pw_cell_below hb h.2.1, pw_cell_below hb h.2.2⟩
set_option maxHeartbeats 1000000 in
set_option maxRecDepth 100000 in
theorem fits_at (kind n : Int) (m : Nat) (w : World) (hk0 : -9223372036854775808 ≤ kind) (hk1 : kind ≤ 9223372036854775807) (hn0 : 0 ≤ n) (hn1 : n ≤ 255) (hm : n % 10 = (m : Int)) (hm9 : m ≤ 9) (h : (kind.tmod 5) < 0) :
    Calls Try.prog 6 #[.int .i64 kind, .int .u8 n, .bool true] w fun e w' => e = .returned (.bool true) ∧ Below w.heap.size w w' := by
  have HB := Aside0.mk (Below.refl w.heap.size w)
  have hmk := print_make (P := Try.prog) 22 2 .i64 8 Try.underlying22 info2 (by decide) m (by omega)
  have HM := Aside0.mk hm9
  have HX : Aside0 (fitsE [2, 2, 3] (kind.tmod 5) m = 5) := ⟨by unfold fitsE; rw [if_pos h]⟩
  go_enter Try.func6, Try.ntmps6
  go_wp2_with (first | (go_at_call 8; (with_reducible refine (examples_c _).mono ?_); rintro e w1 ⟨rfl, hb⟩; have n0_ := Aside0.mk (below_step (by repeat (first | (with_reducible first | exact HB.out | apply below_alloc | apply pw_below_drewN | apply below_drew1) | exact HB.out)) hb); clear HB; have HB := n0_; clear n0_))
  have HL := Aside0.mk (Below.refl (w1.alloc (.cells (madeCells #[.int .i64 0] m) 2)).heap.size (w1.alloc (.cells (madeCells #[.int .i64 0] m) 2)))
  have hCm := Aside0.mk (C_made w1 m (by omega))
  go_region_held3 (fun w' => w'.cell? ⟨w1.heap.size + 1, 0, none⟩ = some (.int .i64 (kind.tmod 5)) ∧ w'.cell? ⟨w1.heap.size + 1, 1, none⟩ = some (.int .i64 0) ∧ w'.cell? ⟨w1.heap.size + 1, 2, none⟩ = some (.slice (some ⟨w1.heap.size, 0, none⟩) m m)) (first | (exact Cells3.keep hb (by assumption)) | (refine ⟨?_, ?_, ?_⟩ <;> go_simp) | go_keep) (first | (go_at_call 15; (with_reducible refine (kinds_n _).mono ?_); rintro e w9 ⟨A9, c9, rfl, hl9, hC9, hb⟩; have n0_ := Aside0.mk (below_step (by repeat (first | (with_reducible first | exact HB.out | apply below_alloc | apply pw_below_drewN | apply below_drew1) | exact HB.out)) hb); clear HB; have HB := n0_; clear n0_; have n0_ := Aside0.mk (below_step (by repeat (first | (with_reducible first | exact HL.out | apply below_alloc | apply pw_below_drewN | apply below_drew1) | exact HL.out)) hb); clear HL; have HL := n0_; clear n0_) | (go_at_call 19; (with_reducible refine (wfits_n _ 3 _ kindsE [2, 2, 3] (kind.tmod 5) 0 _ m m (List.replicate m 0) 5 _ hC9 hl9 (Kd.C_below hCm.out (by repeat (first | (with_reducible first | exact HL.out | apply below_alloc | apply pw_below_drewN | apply below_drew1) | exact HL.out))) (Nat.le_refl m) (by decide) HX.out).mono ?_); rintro e w9 ⟨rfl, hb⟩; have n0_ := Aside0.mk (below_step (by repeat (first | (with_reducible first | exact HB.out | apply below_alloc | apply pw_below_drewN | apply below_drew1) | exact HB.out)) hb); clear HB; have HB := n0_; clear n0_; have n0_ := Aside0.mk (below_step (by repeat (first | (with_reducible first | exact HL.out | apply below_alloc | apply pw_below_drewN | apply below_drew1) | exact HL.out)) hb); clear HL; have HL := n0_; clear n0_))
  obtain ⟨q0, q1, q2⟩ : Cells3 w9 (w1.heap.size + 1) (.int .i64 (kind.tmod 5)) (.int .i64 0) (.slice (some ⟨w1.heap.size, 0, none⟩) m m) := by assumption
  have ql := World.block_lt_of_cell? _ _ q2
  go_wp2
  go_ret
  exact ⟨rfl, (by repeat (first | (with_reducible first | exact HB.out | apply below_alloc | apply pw_below_drewN | apply below_drew1) | exact HB.out))⟩
set_option maxHeartbeats 1000000 in
set_option maxRecDepth 100000 in
theorem fits_bt (kind n : Int) (m : Nat) (w : World) (hk0 : -9223372036854775808 ≤ kind) (hk1 : kind ≤ 9223372036854775807) (hn0 : 0 ≤ n) (hn1 : n ≤ 255) (hm : n % 10 = (m : Int)) (hm9 : m ≤ 9) (h : 2 < (kind.tmod 5)) :
    Calls Try.prog 6 #[.int .i64 kind, .int .u8 n, .bool true] w fun e w' => e = .returned (.bool true) ∧ Below w.heap.size w w' := by
  have HB := Aside0.mk (Below.refl w.heap.size w)
  have hmk := print_make (P := Try.prog) 22 2 .i64 8 Try.underlying22 info2 (by decide) m (by omega)
  have HM := Aside0.mk hm9
  have h0 : 0 ≤ (kind.tmod 5) := by omega
  have HX : Aside0 (fitsE [2, 2, 3] (kind.tmod 5) m = 5) := ⟨by unfold fitsE; rw [if_neg (by omega), if_pos (by simp; omega)]⟩
  go_enter Try.func6, Try.ntmps6
  go_wp2_with (first | (go_at_call 8; (with_reducible refine (examples_c _).mono ?_); rintro e w1 ⟨rfl, hb⟩; have n0_ := Aside0.mk (below_step (by repeat (first | (with_reducible first | exact HB.out | apply below_alloc | apply pw_below_drewN | apply below_drew1) | exact HB.out)) hb); clear HB; have HB := n0_; clear n0_))
  have HL := Aside0.mk (Below.refl (w1.alloc (.cells (madeCells #[.int .i64 0] m) 2)).heap.size (w1.alloc (.cells (madeCells #[.int .i64 0] m) 2)))
  have hCm := Aside0.mk (C_made w1 m (by omega))
  go_region_held3 (fun w' => w'.cell? ⟨w1.heap.size + 1, 0, none⟩ = some (.int .i64 (kind.tmod 5)) ∧ w'.cell? ⟨w1.heap.size + 1, 1, none⟩ = some (.int .i64 0) ∧ w'.cell? ⟨w1.heap.size + 1, 2, none⟩ = some (.slice (some ⟨w1.heap.size, 0, none⟩) m m)) (first | (exact Cells3.keep hb (by assumption)) | (refine ⟨?_, ?_, ?_⟩ <;> go_simp) | go_keep) (first | (go_at_call 15; (with_reducible refine (kinds_n _).mono ?_); rintro e w9 ⟨A9, c9, rfl, hl9, hC9, hb⟩; have n0_ := Aside0.mk (below_step (by repeat (first | (with_reducible first | exact HB.out | apply below_alloc | apply pw_below_drewN | apply below_drew1) | exact HB.out)) hb); clear HB; have HB := n0_; clear n0_; have n0_ := Aside0.mk (below_step (by repeat (first | (with_reducible first | exact HL.out | apply below_alloc | apply pw_below_drewN | apply below_drew1) | exact HL.out)) hb); clear HL; have HL := n0_; clear n0_) | (go_at_call 19; (with_reducible refine (wfits_n _ 3 _ kindsE [2, 2, 3] (kind.tmod 5) 0 _ m m (List.replicate m 0) 5 _ hC9 hl9 (Kd.C_below hCm.out (by repeat (first | (with_reducible first | exact HL.out | apply below_alloc | apply pw_below_drewN | apply below_drew1) | exact HL.out))) (Nat.le_refl m) (by decide) HX.out).mono ?_); rintro e w9 ⟨rfl, hb⟩; have n0_ := Aside0.mk (below_step (by repeat (first | (with_reducible first | exact HB.out | apply below_alloc | apply pw_below_drewN | apply below_drew1) | exact HB.out)) hb); clear HB; have HB := n0_; clear n0_; have n0_ := Aside0.mk (below_step (by repeat (first | (with_reducible first | exact HL.out | apply below_alloc | apply pw_below_drewN | apply below_drew1) | exact HL.out)) hb); clear HL; have HL := n0_; clear n0_))
  obtain ⟨q0, q1, q2⟩ : Cells3 w9 (w1.heap.size + 1) (.int .i64 (kind.tmod 5)) (.int .i64 0) (.slice (some ⟨w1.heap.size, 0, none⟩) m m) := by assumption
  have ql := World.block_lt_of_cell? _ _ q2
  go_wp2
  go_ret
  exact ⟨rfl, (by repeat (first | (with_reducible first | exact HB.out | apply below_alloc | apply pw_below_drewN | apply below_drew1) | exact HB.out))⟩
set_option maxHeartbeats 1000000 in
set_option maxRecDepth 100000 in
theorem fits_ct01 (kind n : Int) (m : Nat) (w : World) (hk0 : -9223372036854775808 ≤ kind) (hk1 : kind ≤ 9223372036854775807) (hn0 : 0 ≤ n) (hn1 : n ≤ 255) (hm : n % 10 = (m : Int)) (hm9 : m ≤ 9) (h : (kind.tmod 5) = 0) (hq : m = 2) :
    Calls Try.prog 6 #[.int .i64 kind, .int .u8 n, .bool true] w fun e w' => e = .returned (.bool true) ∧ Below w.heap.size w w' := by
  have HB := Aside0.mk (Below.refl w.heap.size w)
  have hmk := print_make (P := Try.prog) 22 2 .i64 8 Try.underlying22 info2 (by decide) m (by omega)
  have HM := Aside0.mk hm9
  have HX : Aside0 (fitsE [2, 2, 3] 0 m = 0) := ⟨by unfold fitsE; rw [if_neg (by decide), if_neg (by decide), if_pos (by simpa using hq)]⟩
  have hqi : ((m : Int) == 2) = true := by simp; omega
  have HQ := Aside0.mk hq
  clear hq
  go_enter Try.func6, Try.ntmps6
  go_wp2_with (first | (go_at_call 8; (with_reducible refine (examples_c _).mono ?_); rintro e w1 ⟨rfl, hb⟩; have n0_ := Aside0.mk (below_step (by repeat (first | (with_reducible first | exact HB.out | apply below_alloc | apply pw_below_drewN | apply below_drew1) | exact HB.out)) hb); clear HB; have HB := n0_; clear n0_))
  have HL := Aside0.mk (Below.refl (w1.alloc (.cells (madeCells #[.int .i64 0] m) 2)).heap.size (w1.alloc (.cells (madeCells #[.int .i64 0] m) 2)))
  have hCm := Aside0.mk (C_made w1 m (by omega))
  go_region_held3 (fun w' => w'.cell? ⟨w1.heap.size + 1, 0, none⟩ = some (.int .i64 0) ∧ w'.cell? ⟨w1.heap.size + 1, 1, none⟩ = some (.int .i64 0) ∧ w'.cell? ⟨w1.heap.size + 1, 2, none⟩ = some (.slice (some ⟨w1.heap.size, 0, none⟩) m m)) (first | (exact Cells3.keep hb (by assumption)) | (refine ⟨?_, ?_, ?_⟩ <;> go_simp) | go_keep) (first | (go_at_call 15; (with_reducible refine (kinds_n _).mono ?_); rintro e w9 ⟨A9, c9, rfl, hl9, hC9, hb⟩; have n0_ := Aside0.mk (below_step (by repeat (first | (with_reducible first | exact HB.out | apply below_alloc | apply pw_below_drewN | apply below_drew1) | exact HB.out)) hb); clear HB; have HB := n0_; clear n0_; have n0_ := Aside0.mk (below_step (by repeat (first | (with_reducible first | exact HL.out | apply below_alloc | apply pw_below_drewN | apply below_drew1) | exact HL.out)) hb); clear HL; have HL := n0_; clear n0_) | (go_at_call 19; (with_reducible refine (wfits_n _ 3 _ kindsE [2, 2, 3] 0 0 _ m m (List.replicate m 0) 0 _ hC9 hl9 (Kd.C_below hCm.out (by repeat (first | (with_reducible first | exact HL.out | apply below_alloc | apply pw_below_drewN | apply below_drew1) | exact HL.out))) (Nat.le_refl m) (by decide) HX.out).mono ?_); rintro e w9 ⟨rfl, hb⟩; have n0_ := Aside0.mk (below_step (by repeat (first | (with_reducible first | exact HB.out | apply below_alloc | apply pw_below_drewN | apply below_drew1) | exact HB.out)) hb); clear HB; have HB := n0_; clear n0_; have n0_ := Aside0.mk (below_step (by repeat (first | (with_reducible first | exact HL.out | apply below_alloc | apply pw_below_drewN | apply below_drew1) | exact HL.out)) hb); clear HL; have HL := n0_; clear n0_))
  obtain ⟨q0, q1, q2⟩ : Cells3 w9 (w1.heap.size + 1) (.int .i64 0) (.int .i64 0) (.slice (some ⟨w1.heap.size, 0, none⟩) m m) := by assumption
  have ql := World.block_lt_of_cell? _ _ q2
  go_wp2
  go_ret
  exact ⟨rfl, (by repeat (first | (with_reducible first | exact HB.out | apply below_alloc | apply pw_below_drewN | apply below_drew1) | exact HB.out))⟩
set_option maxHeartbeats 1000000 in
set_option maxRecDepth 100000 in
theorem fits_ct00 (kind n : Int) (m : Nat) (w : World) (hk0 : -9223372036854775808 ≤ kind) (hk1 : kind ≤ 9223372036854775807) (hn0 : 0 ≤ n) (hn1 : n ≤ 255) (hm : n % 10 = (m : Int)) (hm9 : m ≤ 9) (h : (kind.tmod 5) = 0) (hq : ¬ m = 2) :
    Calls Try.prog 6 #[.int .i64 kind, .int .u8 n, .bool true] w fun e w' => e = .returned (.bool true) ∧ Below w.heap.size w w' := by
  have HB := Aside0.mk (Below.refl w.heap.size w)
  have hmk := print_make (P := Try.prog) 22 2 .i64 8 Try.underlying22 info2 (by decide) m (by omega)
  have HM := Aside0.mk hm9
  have HX : Aside0 (fitsE [2, 2, 3] 0 m = 7) := ⟨by unfold fitsE; rw [if_neg (by decide), if_neg (by decide), if_neg (by simpa using hq)]⟩
  have hqi : ((m : Int) == 2) = false := by simp; omega
  have HQ := Aside0.mk hq
  clear hq
  go_enter Try.func6, Try.ntmps6
  go_wp2_with (first | (go_at_call 8; (with_reducible refine (examples_c _).mono ?_); rintro e w1 ⟨rfl, hb⟩; have n0_ := Aside0.mk (below_step (by repeat (first | (with_reducible first | exact HB.out | apply below_alloc | apply pw_below_drewN | apply below_drew1) | exact HB.out)) hb); clear HB; have HB := n0_; clear n0_))
  have HL := Aside0.mk (Below.refl (w1.alloc (.cells (madeCells #[.int .i64 0] m) 2)).heap.size (w1.alloc (.cells (madeCells #[.int .i64 0] m) 2)))
  have hCm := Aside0.mk (C_made w1 m (by omega))
  go_region_held3 (fun w' => w'.cell? ⟨w1.heap.size + 1, 0, none⟩ = some (.int .i64 0) ∧ w'.cell? ⟨w1.heap.size + 1, 1, none⟩ = some (.int .i64 0) ∧ w'.cell? ⟨w1.heap.size + 1, 2, none⟩ = some (.slice (some ⟨w1.heap.size, 0, none⟩) m m)) (first | (exact Cells3.keep hb (by assumption)) | (refine ⟨?_, ?_, ?_⟩ <;> go_simp) | go_keep) (first | (go_at_call 15; (with_reducible refine (kinds_n _).mono ?_); rintro e w9 ⟨A9, c9, rfl, hl9, hC9, hb⟩; have n0_ := Aside0.mk (below_step (by repeat (first | (with_reducible first | exact HB.out | apply below_alloc | apply pw_below_drewN | apply below_drew1) | exact HB.out)) hb); clear HB; have HB := n0_; clear n0_; have n0_ := Aside0.mk (below_step (by repeat (first | (with_reducible first | exact HL.out | apply below_alloc | apply pw_below_drewN | apply below_drew1) | exact HL.out)) hb); clear HL; have HL := n0_; clear n0_) | (go_at_call 19; (with_reducible refine (wfits_n _ 3 _ kindsE [2, 2, 3] 0 0 _ m m (List.replicate m 0) 7 _ hC9 hl9 (Kd.C_below hCm.out (by repeat (first | (with_reducible first | exact HL.out | apply below_alloc | apply pw_below_drewN | apply below_drew1) | exact HL.out))) (Nat.le_refl m) (by decide) HX.out).mono ?_); rintro e w9 ⟨rfl, hb⟩; have n0_ := Aside0.mk (below_step (by repeat (first | (with_reducible first | exact HB.out | apply below_alloc | apply pw_below_drewN | apply below_drew1) | exact HB.out)) hb); clear HB; have HB := n0_; clear n0_; have n0_ := Aside0.mk (below_step (by repeat (first | (with_reducible first | exact HL.out | apply below_alloc | apply pw_below_drewN | apply below_drew1) | exact HL.out)) hb); clear HL; have HL := n0_; clear n0_))
  obtain ⟨q0, q1, q2⟩ : Cells3 w9 (w1.heap.size + 1) (.int .i64 0) (.int .i64 0) (.slice (some ⟨w1.heap.size, 0, none⟩) m m) := by assumption
  have ql := World.block_lt_of_cell? _ _ q2
  go_wp2
  go_ret
  exact ⟨rfl, (by repeat (first | (with_reducible first | exact HB.out | apply below_alloc | apply pw_below_drewN | apply below_drew1) | exact HB.out))⟩
set_option maxHeartbeats 1000000 in
set_option maxRecDepth 100000 in
theorem fits_ct11 (kind n : Int) (m : Nat) (w : World) (hk0 : -9223372036854775808 ≤ kind) (hk1 : kind ≤ 9223372036854775807) (hn0 : 0 ≤ n) (hn1 : n ≤ 255) (hm : n % 10 = (m : Int)) (hm9 : m ≤ 9) (h : (kind.tmod 5) = 1) (hq : m = 2) :
    Calls Try.prog 6 #[.int .i64 kind, .int .u8 n, .bool true] w fun e w' => e = .returned (.bool true) ∧ Below w.heap.size w w' := by
  have HB := Aside0.mk (Below.refl w.heap.size w)
  have hmk := print_make (P := Try.prog) 22 2 .i64 8 Try.underlying22 info2 (by decide) m (by omega)
  have HM := Aside0.mk hm9
  have HX : Aside0 (fitsE [2, 2, 3] 1 m = 0) := ⟨by unfold fitsE; rw [if_neg (by decide), if_neg (by decide), if_pos (by simpa using hq)]⟩
  have hqi : ((m : Int) == 2) = true := by simp; omega
  have HQ := Aside0.mk hq
  clear hq
  go_enter Try.func6, Try.ntmps6
  go_wp2_with (first | (go_at_call 8; (with_reducible refine (examples_c _).mono ?_); rintro e w1 ⟨rfl, hb⟩; have n0_ := Aside0.mk (below_step (by repeat (first | (with_reducible first | exact HB.out | apply below_alloc | apply pw_below_drewN | apply below_drew1) | exact HB.out)) hb); clear HB; have HB := n0_; clear n0_))
  have HL := Aside0.mk (Below.refl (w1.alloc (.cells (madeCells #[.int .i64 0] m) 2)).heap.size (w1.alloc (.cells (madeCells #[.int .i64 0] m) 2)))
  have hCm := Aside0.mk (C_made w1 m (by omega))
  go_region_held3 (fun w' => w'.cell? ⟨w1.heap.size + 1, 0, none⟩ = some (.int .i64 1) ∧ w'.cell? ⟨w1.heap.size + 1, 1, none⟩ = some (.int .i64 0) ∧ w'.cell? ⟨w1.heap.size + 1, 2, none⟩ = some (.slice (some ⟨w1.heap.size, 0, none⟩) m m)) (first | (exact Cells3.keep hb (by assumption)) | (refine ⟨?_, ?_, ?_⟩ <;> go_simp) | go_keep) (first | (go_at_call 15; (with_reducible refine (kinds_n _).mono ?_); rintro e w9 ⟨A9, c9, rfl, hl9, hC9, hb⟩; have n0_ := Aside0.mk (below_step (by repeat (first | (with_reducible first | exact HB.out | apply below_alloc | apply pw_below_drewN | apply below_drew1) | exact HB.out)) hb); clear HB; have HB := n0_; clear n0_; have n0_ := Aside0.mk (below_step (by repeat (first | (with_reducible first | exact HL.out | apply below_alloc | apply pw_below_drewN | apply below_drew1) | exact HL.out)) hb); clear HL; have HL := n0_; clear n0_) | (go_at_call 19; (with_reducible refine (wfits_n _ 3 _ kindsE [2, 2, 3] 1 0 _ m m (List.replicate m 0) 0 _ hC9 hl9 (Kd.C_below hCm.out (by repeat (first | (with_reducible first | exact HL.out | apply below_alloc | apply pw_below_drewN | apply below_drew1) | exact HL.out))) (Nat.le_refl m) (by decide) HX.out).mono ?_); rintro e w9 ⟨rfl, hb⟩; have n0_ := Aside0.mk (below_step (by repeat (first | (with_reducible first | exact HB.out | apply below_alloc | apply pw_below_drewN | apply below_drew1) | exact HB.out)) hb); clear HB; have HB := n0_; clear n0_; have n0_ := Aside0.mk (below_step (by repeat (first | (with_reducible first | exact HL.out | apply below_alloc | apply pw_below_drewN | apply below_drew1) | exact HL.out)) hb); clear HL; have HL := n0_; clear n0_))
  obtain ⟨q0, q1, q2⟩ : Cells3 w9 (w1.heap.size + 1) (.int .i64 1) (.int .i64 0) (.slice (some ⟨w1.heap.size, 0, none⟩) m m) := by assumption
  have ql := World.block_lt_of_cell? _ _ q2
  go_wp2
  go_ret
  exact ⟨rfl, (by repeat (first | (with_reducible first | exact HB.out | apply below_alloc | apply pw_below_drewN | apply below_drew1) | exact HB.out))⟩
set_option maxHeartbeats 1000000 in
set_option maxRecDepth 100000 in
theorem fits_ct10 (kind n : Int) (m : Nat) (w : World) (hk0 : -9223372036854775808 ≤ kind) (hk1 : kind ≤ 9223372036854775807) (hn0 : 0 ≤ n) (hn1 : n ≤ 255) (hm : n % 10 = (m : Int)) (hm9 : m ≤ 9) (h : (kind.tmod 5) = 1) (hq : ¬ m = 2) :
    Calls Try.prog 6 #[.int .i64 kind, .int .u8 n, .bool true] w fun e w' => e = .returned (.bool true) ∧ Below w.heap.size w w' := by
  have HB := Aside0.mk (Below.refl w.heap.size w)
  have hmk := print_make (P := Try.prog) 22 2 .i64 8 Try.underlying22 info2 (by decide) m (by omega)
  have HM := Aside0.mk hm9
  have HX : Aside0 (fitsE [2, 2, 3] 1 m = 7) := ⟨by unfold fitsE; rw [if_neg (by decide), if_neg (by decide), if_neg (by simpa using hq)]⟩
  have hqi : ((m : Int) == 2) = false := by simp; omega
  have HQ := Aside0.mk hq
  clear hq
  go_enter Try.func6, Try.ntmps6
  go_wp2_with (first | (go_at_call 8; (with_reducible refine (examples_c _).mono ?_); rintro e w1 ⟨rfl, hb⟩; have n0_ := Aside0.mk (below_step (by repeat (first | (with_reducible first | exact HB.out | apply below_alloc | apply pw_below_drewN | apply below_drew1) | exact HB.out)) hb); clear HB; have HB := n0_; clear n0_))
  have HL := Aside0.mk (Below.refl (w1.alloc (.cells (madeCells #[.int .i64 0] m) 2)).heap.size (w1.alloc (.cells (madeCells #[.int .i64 0] m) 2)))
  have hCm := Aside0.mk (C_made w1 m (by omega))
  go_region_held3 (fun w' => w'.cell? ⟨w1.heap.size + 1, 0, none⟩ = some (.int .i64 1) ∧ w'.cell? ⟨w1.heap.size + 1, 1, none⟩ = some (.int .i64 0) ∧ w'.cell? ⟨w1.heap.size + 1, 2, none⟩ = some (.slice (some ⟨w1.heap.size, 0, none⟩) m m)) (first | (exact Cells3.keep hb (by assumption)) | (refine ⟨?_, ?_, ?_⟩ <;> go_simp) | go_keep) (first | (go_at_call 15; (with_reducible refine (kinds_n _).mono ?_); rintro e w9 ⟨A9, c9, rfl, hl9, hC9, hb⟩; have n0_ := Aside0.mk (below_step (by repeat (first | (with_reducible first | exact HB.out | apply below_alloc | apply pw_below_drewN | apply below_drew1) | exact HB.out)) hb); clear HB; have HB := n0_; clear n0_; have n0_ := Aside0.mk (below_step (by repeat (first | (with_reducible first | exact HL.out | apply below_alloc | apply pw_below_drewN | apply below_drew1) | exact HL.out)) hb); clear HL; have HL := n0_; clear n0_) | (go_at_call 19; (with_reducible refine (wfits_n _ 3 _ kindsE [2, 2, 3] 1 0 _ m m (List.replicate m 0) 7 _ hC9 hl9 (Kd.C_below hCm.out (by repeat (first | (with_reducible first | exact HL.out | apply below_alloc | apply pw_below_drewN | apply below_drew1) | exact HL.out))) (Nat.le_refl m) (by decide) HX.out).mono ?_); rintro e w9 ⟨rfl, hb⟩; have n0_ := Aside0.mk (below_step (by repeat (first | (with_reducible first | exact HB.out | apply below_alloc | apply pw_below_drewN | apply below_drew1) | exact HB.out)) hb); clear HB; have HB := n0_; clear n0_; have n0_ := Aside0.mk (below_step (by repeat (first | (with_reducible first | exact HL.out | apply below_alloc | apply pw_below_drewN | apply below_drew1) | exact HL.out)) hb); clear HL; have HL := n0_; clear n0_))
  obtain ⟨q0, q1, q2⟩ : Cells3 w9 (w1.heap.size + 1) (.int .i64 1) (.int .i64 0) (.slice (some ⟨w1.heap.size, 0, none⟩) m m) := by assumption
  have ql := World.block_lt_of_cell? _ _ q2
  go_wp2
  go_ret
  exact ⟨rfl, (by repeat (first | (with_reducible first | exact HB.out | apply below_alloc | apply pw_below_drewN | apply below_drew1) | exact HB.out))⟩
set_option maxHeartbeats 1000000 in
set_option maxRecDepth 100000 in
theorem fits_ct21 (kind n : Int) (m : Nat) (w : World) (hk0 : -9223372036854775808 ≤ kind) (hk1 : kind ≤ 9223372036854775807) (hn0 : 0 ≤ n) (hn1 : n ≤ 255) (hm : n % 10 = (m : Int)) (hm9 : m ≤ 9) (h : (kind.tmod 5) = 2) (hq : m = 3) :
    Calls Try.prog 6 #[.int .i64 kind, .int .u8 n, .bool true] w fun e w' => e = .returned (.bool true) ∧ Below w.heap.size w w' := by
  have HB := Aside0.mk (Below.refl w.heap.size w)
  have hmk := print_make (P := Try.prog) 22 2 .i64 8 Try.underlying22 info2 (by decide) m (by omega)
  have HM := Aside0.mk hm9
  have HX : Aside0 (fitsE [2, 2, 3] 2 m = 0) := ⟨by unfold fitsE; rw [if_neg (by decide), if_neg (by decide), if_pos (by simpa using hq)]⟩
  have hqi : ((m : Int) == 3) = true := by simp; omega
  have HQ := Aside0.mk hq
  clear hq
  go_enter Try.func6, Try.ntmps6
  go_wp2_with (first | (go_at_call 8; (with_reducible refine (examples_c _).mono ?_); rintro e w1 ⟨rfl, hb⟩; have n0_ := Aside0.mk (below_step (by repeat (first | (with_reducible first | exact HB.out | apply below_alloc | apply pw_below_drewN | apply below_drew1) | exact HB.out)) hb); clear HB; have HB := n0_; clear n0_))
  have HL := Aside0.mk (Below.refl (w1.alloc (.cells (madeCells #[.int .i64 0] m) 2)).heap.size (w1.alloc (.cells (madeCells #[.int .i64 0] m) 2)))
  have hCm := Aside0.mk (C_made w1 m (by omega))
  go_region_held3 (fun w' => w'.cell? ⟨w1.heap.size + 1, 0, none⟩ = some (.int .i64 2) ∧ w'.cell? ⟨w1.heap.size + 1, 1, none⟩ = some (.int .i64 0) ∧ w'.cell? ⟨w1.heap.size + 1, 2, none⟩ = some (.slice (some ⟨w1.heap.size, 0, none⟩) m m)) (first | (exact Cells3.keep hb (by assumption)) | (refine ⟨?_, ?_, ?_⟩ <;> go_simp) | go_keep) (first | (go_at_call 15; (with_reducible refine (kinds_n _).mono ?_); rintro e w9 ⟨A9, c9, rfl, hl9, hC9, hb⟩; have n0_ := Aside0.mk (below_step (by repeat (first | (with_reducible first | exact HB.out | apply below_alloc | apply pw_below_drewN | apply below_drew1) | exact HB.out)) hb); clear HB; have HB := n0_; clear n0_; have n0_ := Aside0.mk (below_step (by repeat (first | (with_reducible first | exact HL.out | apply below_alloc | apply pw_below_drewN | apply below_drew1) | exact HL.out)) hb); clear HL; have HL := n0_; clear n0_) | (go_at_call 19; (with_reducible refine (wfits_n _ 3 _ kindsE [2, 2, 3] 2 0 _ m m (List.replicate m 0) 0 _ hC9 hl9 (Kd.C_below hCm.out (by repeat (first | (with_reducible first | exact HL.out | apply below_alloc | apply pw_below_drewN | apply below_drew1) | exact HL.out))) (Nat.le_refl m) (by decide) HX.out).mono ?_); rintro e w9 ⟨rfl, hb⟩; have n0_ := Aside0.mk (below_step (by repeat (first | (with_reducible first | exact HB.out | apply below_alloc | apply pw_below_drewN | apply below_drew1) | exact HB.out)) hb); clear HB; have HB := n0_; clear n0_; have n0_ := Aside0.mk (below_step (by repeat (first | (with_reducible first | exact HL.out | apply below_alloc | apply pw_below_drewN | apply below_drew1) | exact HL.out)) hb); clear HL; have HL := n0_; clear n0_))
  obtain ⟨q0, q1, q2⟩ : Cells3 w9 (w1.heap.size + 1) (.int .i64 2) (.int .i64 0) (.slice (some ⟨w1.heap.size, 0, none⟩) m m) := by assumption
  have ql := World.block_lt_of_cell? _ _ q2
  go_wp2
  go_ret
  exact ⟨rfl, (by repeat (first | (with_reducible first | exact HB.out | apply below_alloc | apply pw_below_drewN | apply below_drew1) | exact HB.out))⟩
set_option maxHeartbeats 1000000 in
set_option maxRecDepth 100000 in
theorem fits_ct20 (kind n : Int) (m : Nat) (w : World) (hk0 : -9223372036854775808 ≤ kind) (hk1 : kind ≤ 9223372036854775807) (hn0 : 0 ≤ n) (hn1 : n ≤ 255) (hm : n % 10 = (m : Int)) (hm9 : m ≤ 9) (h : (kind.tmod 5) = 2) (hq : ¬ m = 3) :
    Calls Try.prog 6 #[.int .i64 kind, .int .u8 n, .bool true] w fun e w' => e = .returned (.bool true) ∧ Below w.heap.size w w' := by
  have HB := Aside0.mk (Below.refl w.heap.size w)
  have hmk := print_make (P := Try.prog) 22 2 .i64 8 Try.underlying22 info2 (by decide) m (by omega)
  have HM := Aside0.mk hm9
  have HX : Aside0 (fitsE [2, 2, 3] 2 m = 7) := ⟨by unfold fitsE; rw [if_neg (by decide), if_neg (by decide), if_neg (by simpa using hq)]⟩
  have hqi : ((m : Int) == 3) = false := by simp; omega
  have HQ := Aside0.mk hq
  clear hq
  go_enter Try.func6, Try.ntmps6
  go_wp2_with (first | (go_at_call 8; (with_reducible refine (examples_c _).mono ?_); rintro e w1 ⟨rfl, hb⟩; have n0_ := Aside0.mk (below_step (by repeat (first | (with_reducible first | exact HB.out | apply below_alloc | apply pw_below_drewN | apply below_drew1) | exact HB.out)) hb); clear HB; have HB := n0_; clear n0_))
  have HL := Aside0.mk (Below.refl (w1.alloc (.cells (madeCells #[.int .i64 0] m) 2)).heap.size (w1.alloc (.cells (madeCells #[.int .i64 0] m) 2)))
  have hCm := Aside0.mk (C_made w1 m (by omega))
  go_region_held3 (fun w' => w'.cell? ⟨w1.heap.size + 1, 0, none⟩ = some (.int .i64 2) ∧ w'.cell? ⟨w1.heap.size + 1, 1, none⟩ = some (.int .i64 0) ∧ w'.cell? ⟨w1.heap.size + 1, 2, none⟩ = some (.slice (some ⟨w1.heap.size, 0, none⟩) m m)) (first | (exact Cells3.keep hb (by assumption)) | (refine ⟨?_, ?_, ?_⟩ <;> go_simp) | go_keep) (first | (go_at_call 15; (with_reducible refine (kinds_n _).mono ?_); rintro e w9 ⟨A9, c9, rfl, hl9, hC9, hb⟩; have n0_ := Aside0.mk (below_step (by repeat (first | (with_reducible first | exact HB.out | apply below_alloc | apply pw_below_drewN | apply below_drew1) | exact HB.out)) hb); clear HB; have HB := n0_; clear n0_; have n0_ := Aside0.mk (below_step (by repeat (first | (with_reducible first | exact HL.out | apply below_alloc | apply pw_below_drewN | apply below_drew1) | exact HL.out)) hb); clear HL; have HL := n0_; clear n0_) | (go_at_call 19; (with_reducible refine (wfits_n _ 3 _ kindsE [2, 2, 3] 2 0 _ m m (List.replicate m 0) 7 _ hC9 hl9 (Kd.C_below hCm.out (by repeat (first | (with_reducible first | exact HL.out | apply below_alloc | apply pw_below_drewN | apply below_drew1) | exact HL.out))) (Nat.le_refl m) (by decide) HX.out).mono ?_); rintro e w9 ⟨rfl, hb⟩; have n0_ := Aside0.mk (below_step (by repeat (first | (with_reducible first | exact HB.out | apply below_alloc | apply pw_below_drewN | apply below_drew1) | exact HB.out)) hb); clear HB; have HB := n0_; clear n0_; have n0_ := Aside0.mk (below_step (by repeat (first | (with_reducible first | exact HL.out | apply below_alloc | apply pw_below_drewN | apply below_drew1) | exact HL.out)) hb); clear HL; have HL := n0_; clear n0_))
  obtain ⟨q0, q1, q2⟩ : Cells3 w9 (w1.heap.size + 1) (.int .i64 2) (.int .i64 0) (.slice (some ⟨w1.heap.size, 0, none⟩) m m) := by assumption
  have ql := World.block_lt_of_cell? _ _ q2
  go_wp2
  go_ret
  exact ⟨rfl, (by repeat (first | (with_reducible first | exact HB.out | apply below_alloc | apply pw_below_drewN | apply below_drew1) | exact HB.out))⟩
set_option maxHeartbeats 1000000 in
set_option maxRecDepth 100000 in
theorem fits_af (kind n : Int) (m : Nat) (w : World) (hk0 : -9223372036854775808 ≤ kind) (hk1 : kind ≤ 9223372036854775807) (hn0 : 0 ≤ n) (hn1 : n ≤ 255) (hm : n % 10 = (m : Int)) (hm9 : m ≤ 9) (h : kind < 0) :
    Calls Try.prog 6 #[.int .i64 kind, .int .u8 n, .bool false] w fun e w' => e = .returned (.bool true) ∧ Below w.heap.size w w' := by
  have HB := Aside0.mk (Below.refl w.heap.size w)
  have hmk := print_make (P := Try.prog) 22 2 .i64 8 Try.underlying22 info2 (by decide) m (by omega)
  have HM := Aside0.mk hm9
  have HX : Aside0 (fitsE [2, 2, 3] kind m = 5) := ⟨by unfold fitsE; rw [if_pos h]⟩
  go_enter Try.func6, Try.ntmps6
  go_wp2_with (first | (go_at_call 8; (with_reducible refine (examples_c _).mono ?_); rintro e w1 ⟨rfl, hb⟩; have n0_ := Aside0.mk (below_step (by repeat (first | (with_reducible first | exact HB.out | apply below_alloc | apply pw_below_drewN | apply below_drew1) | exact HB.out)) hb); clear HB; have HB := n0_; clear n0_))
  have HL := Aside0.mk (Below.refl (w1.alloc (.cells (madeCells #[.int .i64 0] m) 2)).heap.size (w1.alloc (.cells (madeCells #[.int .i64 0] m) 2)))
  have hCm := Aside0.mk (C_made w1 m (by omega))
  go_region_held3 (fun w' => w'.cell? ⟨w1.heap.size + 1, 0, none⟩ = some (.int .i64 kind) ∧ w'.cell? ⟨w1.heap.size + 1, 1, none⟩ = some (.int .i64 0) ∧ w'.cell? ⟨w1.heap.size + 1, 2, none⟩ = some (.slice (some ⟨w1.heap.size, 0, none⟩) m m)) (first | (exact Cells3.keep hb (by assumption)) | (refine ⟨?_, ?_, ?_⟩ <;> go_simp) | go_keep) (first | (go_at_call 15; (with_reducible refine (kinds_n _).mono ?_); rintro e w9 ⟨A9, c9, rfl, hl9, hC9, hb⟩; have n0_ := Aside0.mk (below_step (by repeat (first | (with_reducible first | exact HB.out | apply below_alloc | apply pw_below_drewN | apply below_drew1) | exact HB.out)) hb); clear HB; have HB := n0_; clear n0_; have n0_ := Aside0.mk (below_step (by repeat (first | (with_reducible first | exact HL.out | apply below_alloc | apply pw_below_drewN | apply below_drew1) | exact HL.out)) hb); clear HL; have HL := n0_; clear n0_) | (go_at_call 19; (with_reducible refine (wfits_n _ 3 _ kindsE [2, 2, 3] kind 0 _ m m (List.replicate m 0) 5 _ hC9 hl9 (Kd.C_below hCm.out (by repeat (first | (with_reducible first | exact HL.out | apply below_alloc | apply pw_below_drewN | apply below_drew1) | exact HL.out))) (Nat.le_refl m) (by decide) HX.out).mono ?_); rintro e w9 ⟨rfl, hb⟩; have n0_ := Aside0.mk (below_step (by repeat (first | (with_reducible first | exact HB.out | apply below_alloc | apply pw_below_drewN | apply below_drew1) | exact HB.out)) hb); clear HB; have HB := n0_; clear n0_; have n0_ := Aside0.mk (below_step (by repeat (first | (with_reducible first | exact HL.out | apply below_alloc | apply pw_below_drewN | apply below_drew1) | exact HL.out)) hb); clear HL; have HL := n0_; clear n0_))
  obtain ⟨q0, q1, q2⟩ : Cells3 w9 (w1.heap.size + 1) (.int .i64 kind) (.int .i64 0) (.slice (some ⟨w1.heap.size, 0, none⟩) m m) := by assumption
  have ql := World.block_lt_of_cell? _ _ q2
  go_wp2
  go_ret
  exact ⟨rfl, (by repeat (first | (with_reducible first | exact HB.out | apply below_alloc | apply pw_below_drewN | apply below_drew1) | exact HB.out))⟩
set_option maxHeartbeats 1000000 in
set_option maxRecDepth 100000 in
theorem fits_bf (kind n : Int) (m : Nat) (w : World) (hk0 : -9223372036854775808 ≤ kind) (hk1 : kind ≤ 9223372036854775807) (hn0 : 0 ≤ n) (hn1 : n ≤ 255) (hm : n % 10 = (m : Int)) (hm9 : m ≤ 9) (h : 2 < kind) :
    Calls Try.prog 6 #[.int .i64 kind, .int .u8 n, .bool false] w fun e w' => e = .returned (.bool true) ∧ Below w.heap.size w w' := by
  have HB := Aside0.mk (Below.refl w.heap.size w)
  have hmk := print_make (P := Try.prog) 22 2 .i64 8 Try.underlying22 info2 (by decide) m (by omega)
  have HM := Aside0.mk hm9
  have h0 : 0 ≤ kind := by omega
  have HX : Aside0 (fitsE [2, 2, 3] kind m = 5) := ⟨by unfold fitsE; rw [if_neg (by omega), if_pos (by simp; omega)]⟩
  go_enter Try.func6, Try.ntmps6
  go_wp2_with (first | (go_at_call 8; (with_reducible refine (examples_c _).mono ?_); rintro e w1 ⟨rfl, hb⟩; have n0_ := Aside0.mk (below_step (by repeat (first | (with_reducible first | exact HB.out | apply below_alloc | apply pw_below_drewN | apply below_drew1) | exact HB.out)) hb); clear HB; have HB := n0_; clear n0_))
  have HL := Aside0.mk (Below.refl (w1.alloc (.cells (madeCells #[.int .i64 0] m) 2)).heap.size (w1.alloc (.cells (madeCells #[.int .i64 0] m) 2)))
  have hCm := Aside0.mk (C_made w1 m (by omega))
  go_region_held3 (fun w' => w'.cell? ⟨w1.heap.size + 1, 0, none⟩ = some (.int .i64 kind) ∧ w'.cell? ⟨w1.heap.size + 1, 1, none⟩ = some (.int .i64 0) ∧ w'.cell? ⟨w1.heap.size + 1, 2, none⟩ = some (.slice (some ⟨w1.heap.size, 0, none⟩) m m)) (first | (exact Cells3.keep hb (by assumption)) | (refine ⟨?_, ?_, ?_⟩ <;> go_simp) | go_keep) (first | (go_at_call 15; (with_reducible refine (kinds_n _).mono ?_); rintro e w9 ⟨A9, c9, rfl, hl9, hC9, hb⟩; have n0_ := Aside0.mk (below_step (by repeat (first | (with_reducible first | exact HB.out | apply below_alloc | apply pw_below_drewN | apply below_drew1) | exact HB.out)) hb); clear HB; have HB := n0_; clear n0_; have n0_ := Aside0.mk (below_step (by repeat (first | (with_reducible first | exact HL.out | apply below_alloc | apply pw_below_drewN | apply below_drew1) | exact HL.out)) hb); clear HL; have HL := n0_; clear n0_) | (go_at_call 19; (with_reducible refine (wfits_n _ 3 _ kindsE [2, 2, 3] kind 0 _ m m (List.replicate m 0) 5 _ hC9 hl9 (Kd.C_below hCm.out (by repeat (first | (with_reducible first | exact HL.out | apply below_alloc | apply pw_below_drewN | apply below_drew1) | exact HL.out))) (Nat.le_refl m) (by decide) HX.out).mono ?_); rintro e w9 ⟨rfl, hb⟩; have n0_ := Aside0.mk (below_step (by repeat (first | (with_reducible first | exact HB.out | apply below_alloc | apply pw_below_drewN | apply below_drew1) | exact HB.out)) hb); clear HB; have HB := n0_; clear n0_; have n0_ := Aside0.mk (below_step (by repeat (first | (with_reducible first | exact HL.out | apply below_alloc | apply pw_below_drewN | apply below_drew1) | exact HL.out)) hb); clear HL; have HL := n0_; clear n0_))
  obtain ⟨q0, q1, q2⟩ : Cells3 w9 (w1.heap.size + 1) (.int .i64 kind) (.int .i64 0) (.slice (some ⟨w1.heap.size, 0, none⟩) m m) := by assumption
  have ql := World.block_lt_of_cell? _ _ q2
  go_wp2
  go_ret
  exact ⟨rfl, (by repeat (first | (with_reducible first | exact HB.out | apply below_alloc | apply pw_below_drewN | apply below_drew1) | exact HB.out))⟩
set_option maxHeartbeats 1000000 in
set_option maxRecDepth 100000 in
theorem fits_cf01 (kind n : Int) (m : Nat) (w : World) (hk0 : -9223372036854775808 ≤ kind) (hk1 : kind ≤ 9223372036854775807) (hn0 : 0 ≤ n) (hn1 : n ≤ 255) (hm : n % 10 = (m : Int)) (hm9 : m ≤ 9) (h : kind = 0) (hq : m = 2) :
    Calls Try.prog 6 #[.int .i64 kind, .int .u8 n, .bool false] w fun e w' => e = .returned (.bool true) ∧ Below w.heap.size w w' := by
  have HB := Aside0.mk (Below.refl w.heap.size w)
  have hmk := print_make (P := Try.prog) 22 2 .i64 8 Try.underlying22 info2 (by decide) m (by omega)
  have HM := Aside0.mk hm9
  have HX : Aside0 (fitsE [2, 2, 3] 0 m = 0) := ⟨by unfold fitsE; rw [if_neg (by decide), if_neg (by decide), if_pos (by simpa using hq)]⟩
  have hqi : ((m : Int) == 2) = true := by simp; omega
  have HQ := Aside0.mk hq
  clear hq
  go_enter Try.func6, Try.ntmps6
  go_wp2_with (first | (go_at_call 8; (with_reducible refine (examples_c _).mono ?_); rintro e w1 ⟨rfl, hb⟩; have n0_ := Aside0.mk (below_step (by repeat (first | (with_reducible first | exact HB.out | apply below_alloc | apply pw_below_drewN | apply below_drew1) | exact HB.out)) hb); clear HB; have HB := n0_; clear n0_))
  have HL := Aside0.mk (Below.refl (w1.alloc (.cells (madeCells #[.int .i64 0] m) 2)).heap.size (w1.alloc (.cells (madeCells #[.int .i64 0] m) 2)))
  have hCm := Aside0.mk (C_made w1 m (by omega))
  go_region_held3 (fun w' => w'.cell? ⟨w1.heap.size + 1, 0, none⟩ = some (.int .i64 0) ∧ w'.cell? ⟨w1.heap.size + 1, 1, none⟩ = some (.int .i64 0) ∧ w'.cell? ⟨w1.heap.size + 1, 2, none⟩ = some (.slice (some ⟨w1.heap.size, 0, none⟩) m m)) (first | (exact Cells3.keep hb (by assumption)) | (refine ⟨?_, ?_, ?_⟩ <;> go_simp) | go_keep) (first | (go_at_call 15; (with_reducible refine (kinds_n _).mono ?_); rintro e w9 ⟨A9, c9, rfl, hl9, hC9, hb⟩; have n0_ := Aside0.mk (below_step (by repeat (first | (with_reducible first | exact HB.out | apply below_alloc | apply pw_below_drewN | apply below_drew1) | exact HB.out)) hb); clear HB; have HB := n0_; clear n0_; have n0_ := Aside0.mk (below_step (by repeat (first | (with_reducible first | exact HL.out | apply below_alloc | apply pw_below_drewN | apply below_drew1) | exact HL.out)) hb); clear HL; have HL := n0_; clear n0_) | (go_at_call 19; (with_reducible refine (wfits_n _ 3 _ kindsE [2, 2, 3] 0 0 _ m m (List.replicate m 0) 0 _ hC9 hl9 (Kd.C_below hCm.out (by repeat (first | (with_reducible first | exact HL.out | apply below_alloc | apply pw_below_drewN | apply below_drew1) | exact HL.out))) (Nat.le_refl m) (by decide) HX.out).mono ?_); rintro e w9 ⟨rfl, hb⟩; have n0_ := Aside0.mk (below_step (by repeat (first | (with_reducible first | exact HB.out | apply below_alloc | apply pw_below_drewN | apply below_drew1) | exact HB.out)) hb); clear HB; have HB := n0_; clear n0_; have n0_ := Aside0.mk (below_step (by repeat (first | (with_reducible first | exact HL.out | apply below_alloc | apply pw_below_drewN | apply below_drew1) | exact HL.out)) hb); clear HL; have HL := n0_; clear n0_))
  obtain ⟨q0, q1, q2⟩ : Cells3 w9 (w1.heap.size + 1) (.int .i64 0) (.int .i64 0) (.slice (some ⟨w1.heap.size, 0, none⟩) m m) := by assumption
  have ql := World.block_lt_of_cell? _ _ q2
  go_wp2
  go_ret
  exact ⟨rfl, (by repeat (first | (with_reducible first | exact HB.out | apply below_alloc | apply pw_below_drewN | apply below_drew1) | exact HB.out))⟩
set_option maxHeartbeats 1000000 in
set_option maxRecDepth 100000 in
theorem fits_cf00 (kind n : Int) (m : Nat) (w : World) (hk0 : -9223372036854775808 ≤ kind) (hk1 : kind ≤ 9223372036854775807) (hn0 : 0 ≤ n) (hn1 : n ≤ 255) (hm : n % 10 = (m : Int)) (hm9 : m ≤ 9) (h : kind = 0) (hq : ¬ m = 2) :
    Calls Try.prog 6 #[.int .i64 kind, .int .u8 n, .bool false] w fun e w' => e = .returned (.bool true) ∧ Below w.heap.size w w' := by
  have HB := Aside0.mk (Below.refl w.heap.size w)
  have hmk := print_make (P := Try.prog) 22 2 .i64 8 Try.underlying22 info2 (by decide) m (by omega)
  have HM := Aside0.mk hm9
  have HX : Aside0 (fitsE [2, 2, 3] 0 m = 7) := ⟨by unfold fitsE; rw [if_neg (by decide), if_neg (by decide), if_neg (by simpa using hq)]⟩
  have hqi : ((m : Int) == 2) = false := by simp; omega
  have HQ := Aside0.mk hq
  clear hq
  go_enter Try.func6, Try.ntmps6
  go_wp2_with (first | (go_at_call 8; (with_reducible refine (examples_c _).mono ?_); rintro e w1 ⟨rfl, hb⟩; have n0_ := Aside0.mk (below_step (by repeat (first | (with_reducible first | exact HB.out | apply below_alloc | apply pw_below_drewN | apply below_drew1) | exact HB.out)) hb); clear HB; have HB := n0_; clear n0_))
  have HL := Aside0.mk (Below.refl (w1.alloc (.cells (madeCells #[.int .i64 0] m) 2)).heap.size (w1.alloc (.cells (madeCells #[.int .i64 0] m) 2)))
  have hCm := Aside0.mk (C_made w1 m (by omega))
  go_region_held3 (fun w' => w'.cell? ⟨w1.heap.size + 1, 0, none⟩ = some (.int .i64 0) ∧ w'.cell? ⟨w1.heap.size + 1, 1, none⟩ = some (.int .i64 0) ∧ w'.cell? ⟨w1.heap.size + 1, 2, none⟩ = some (.slice (some ⟨w1.heap.size, 0, none⟩) m m)) (first | (exact Cells3.keep hb (by assumption)) | (refine ⟨?_, ?_, ?_⟩ <;> go_simp) | go_keep) (first | (go_at_call 15; (with_reducible refine (kinds_n _).mono ?_); rintro e w9 ⟨A9, c9, rfl, hl9, hC9, hb⟩; have n0_ := Aside0.mk (below_step (by repeat (first | (with_reducible first | exact HB.out | apply below_alloc | apply pw_below_drewN | apply below_drew1) | exact HB.out)) hb); clear HB; have HB := n0_; clear n0_; have n0_ := Aside0.mk (below_step (by repeat (first | (with_reducible first | exact HL.out | apply below_alloc | apply pw_below_drewN | apply below_drew1) | exact HL.out)) hb); clear HL; have HL := n0_; clear n0_) | (go_at_call 19; (with_reducible refine (wfits_n _ 3 _ kindsE [2, 2, 3] 0 0 _ m m (List.replicate m 0) 7 _ hC9 hl9 (Kd.C_below hCm.out (by repeat (first | (with_reducible first | exact HL.out | apply below_alloc | apply pw_below_drewN | apply below_drew1) | exact HL.out))) (Nat.le_refl m) (by decide) HX.out).mono ?_); rintro e w9 ⟨rfl, hb⟩; have n0_ := Aside0.mk (below_step (by repeat (first | (with_reducible first | exact HB.out | apply below_alloc | apply pw_below_drewN | apply below_drew1) | exact HB.out)) hb); clear HB; have HB := n0_; clear n0_; have n0_ := Aside0.mk (below_step (by repeat (first | (with_reducible first | exact HL.out | apply below_alloc | apply pw_below_drewN | apply below_drew1) | exact HL.out)) hb); clear HL; have HL := n0_; clear n0_))
  obtain ⟨q0, q1, q2⟩ : Cells3 w9 (w1.heap.size + 1) (.int .i64 0) (.int .i64 0) (.slice (some ⟨w1.heap.size, 0, none⟩) m m) := by assumption
  have ql := World.block_lt_of_cell? _ _ q2
  go_wp2
  go_ret
  exact ⟨rfl, (by repeat (first | (with_reducible first | exact HB.out | apply below_alloc | apply pw_below_drewN | apply below_drew1) | exact HB.out))⟩
set_option maxHeartbeats 1000000 in
set_option maxRecDepth 100000 in
theorem fits_cf11 (kind n : Int) (m : Nat) (w : World) (hk0 : -9223372036854775808 ≤ kind) (hk1 : kind ≤ 9223372036854775807) (hn0 : 0 ≤ n) (hn1 : n ≤ 255) (hm : n % 10 = (m : Int)) (hm9 : m ≤ 9) (h : kind = 1) (hq : m = 2) :
    Calls Try.prog 6 #[.int .i64 kind, .int .u8 n, .bool false] w fun e w' => e = .returned (.bool true) ∧ Below w.heap.size w w' := by
  have HB := Aside0.mk (Below.refl w.heap.size w)
  have hmk := print_make (P := Try.prog) 22 2 .i64 8 Try.underlying22 info2 (by decide) m (by omega)
  have HM := Aside0.mk hm9
  have HX : Aside0 (fitsE [2, 2, 3] 1 m = 0) := ⟨by unfold fitsE; rw [if_neg (by decide), if_neg (by decide), if_pos (by simpa using hq)]⟩
  have hqi : ((m : Int) == 2) = true := by simp; omega
  have HQ := Aside0.mk hq
  clear hq
  go_enter Try.func6, Try.ntmps6
  go_wp2_with (first | (go_at_call 8; (with_reducible refine (examples_c _).mono ?_); rintro e w1 ⟨rfl, hb⟩; have n0_ := Aside0.mk (below_step (by repeat (first | (with_reducible first | exact HB.out | apply below_alloc | apply pw_below_drewN | apply below_drew1) | exact HB.out)) hb); clear HB; have HB := n0_; clear n0_))
  have HL := Aside0.mk (Below.refl (w1.alloc (.cells (madeCells #[.int .i64 0] m) 2)).heap.size (w1.alloc (.cells (madeCells #[.int .i64 0] m) 2)))
  have hCm := Aside0.mk (C_made w1 m (by omega))
  go_region_held3 (fun w' => w'.cell? ⟨w1.heap.size + 1, 0, none⟩ = some (.int .i64 1) ∧ w'.cell? ⟨w1.heap.size + 1, 1, none⟩ = some (.int .i64 0) ∧ w'.cell? ⟨w1.heap.size + 1, 2, none⟩ = some (.slice (some ⟨w1.heap.size, 0, none⟩) m m)) (first | (exact Cells3.keep hb (by assumption)) | (refine ⟨?_, ?_, ?_⟩ <;> go_simp) | go_keep) (first | (go_at_call 15; (with_reducible refine (kinds_n _).mono ?_); rintro e w9 ⟨A9, c9, rfl, hl9, hC9, hb⟩; have n0_ := Aside0.mk (below_step (by repeat (first | (with_reducible first | exact HB.out | apply below_alloc | apply pw_below_drewN | apply below_drew1) | exact HB.out)) hb); clear HB; have HB := n0_; clear n0_; have n0_ := Aside0.mk (below_step (by repeat (first | (with_reducible first | exact HL.out | apply below_alloc | apply pw_below_drewN | apply below_drew1) | exact HL.out)) hb); clear HL; have HL := n0_; clear n0_) | (go_at_call 19; (with_reducible refine (wfits_n _ 3 _ kindsE [2, 2, 3] 1 0 _ m m (List.replicate m 0) 0 _ hC9 hl9 (Kd.C_below hCm.out (by repeat (first | (with_reducible first | exact HL.out | apply below_alloc | apply pw_below_drewN | apply below_drew1) | exact HL.out))) (Nat.le_refl m) (by decide) HX.out).mono ?_); rintro e w9 ⟨rfl, hb⟩; have n0_ := Aside0.mk (below_step (by repeat (first | (with_reducible first | exact HB.out | apply below_alloc | apply pw_below_drewN | apply below_drew1) | exact HB.out)) hb); clear HB; have HB := n0_; clear n0_; have n0_ := Aside0.mk (below_step (by repeat (first | (with_reducible first | exact HL.out | apply below_alloc | apply pw_below_drewN | apply below_drew1) | exact HL.out)) hb); clear HL; have HL := n0_; clear n0_))
  obtain ⟨q0, q1, q2⟩ : Cells3 w9 (w1.heap.size + 1) (.int .i64 1) (.int .i64 0) (.slice (some ⟨w1.heap.size, 0, none⟩) m m) := by assumption
  have ql := World.block_lt_of_cell? _ _ q2
  go_wp2
  go_ret
  exact ⟨rfl, (by repeat (first | (with_reducible first | exact HB.out | apply below_alloc | apply pw_below_drewN | apply below_drew1) | exact HB.out))⟩
set_option maxHeartbeats 1000000 in
set_option maxRecDepth 100000 in
theorem fits_cf10 (kind n : Int) (m : Nat) (w : World) (hk0 : -9223372036854775808 ≤ kind) (hk1 : kind ≤ 9223372036854775807) (hn0 : 0 ≤ n) (hn1 : n ≤ 255) (hm : n % 10 = (m : Int)) (hm9 : m ≤ 9) (h : kind = 1) (hq : ¬ m = 2) :
    Calls Try.prog 6 #[.int .i64 kind, .int .u8 n, .bool false] w fun e w' => e = .returned (.bool true) ∧ Below w.heap.size w w' := by
  have HB := Aside0.mk (Below.refl w.heap.size w)
  have hmk := print_make (P := Try.prog) 22 2 .i64 8 Try.underlying22 info2 (by decide) m (by omega)
  have HM := Aside0.mk hm9
  have HX : Aside0 (fitsE [2, 2, 3] 1 m = 7) := ⟨by unfold fitsE; rw [if_neg (by decide), if_neg (by decide), if_neg (by simpa using hq)]⟩
  have hqi : ((m : Int) == 2) = false := by simp; omega
  have HQ := Aside0.mk hq
  clear hq
  go_enter Try.func6, Try.ntmps6
  go_wp2_with (first | (go_at_call 8; (with_reducible refine (examples_c _).mono ?_); rintro e w1 ⟨rfl, hb⟩; have n0_ := Aside0.mk (below_step (by repeat (first | (with_reducible first | exact HB.out | apply below_alloc | apply pw_below_drewN | apply below_drew1) | exact HB.out)) hb); clear HB; have HB := n0_; clear n0_))
  have HL := Aside0.mk (Below.refl (w1.alloc (.cells (madeCells #[.int .i64 0] m) 2)).heap.size (w1.alloc (.cells (madeCells #[.int .i64 0] m) 2)))
  have hCm := Aside0.mk (C_made w1 m (by omega))
  go_region_held3 (fun w' => w'.cell? ⟨w1.heap.size + 1, 0, none⟩ = some (.int .i64 1) ∧ w'.cell? ⟨w1.heap.size + 1, 1, none⟩ = some (.int .i64 0) ∧ w'.cell? ⟨w1.heap.size + 1, 2, none⟩ = some (.slice (some ⟨w1.heap.size, 0, none⟩) m m)) (first | (exact Cells3.keep hb (by assumption)) | (refine ⟨?_, ?_, ?_⟩ <;> go_simp) | go_keep) (first | (go_at_call 15; (with_reducible refine (kinds_n _).mono ?_); rintro e w9 ⟨A9, c9, rfl, hl9, hC9, hb⟩; have n0_ := Aside0.mk (below_step (by repeat (first | (with_reducible first | exact HB.out | apply below_alloc | apply pw_below_drewN | apply below_drew1) | exact HB.out)) hb); clear HB; have HB := n0_; clear n0_; have n0_ := Aside0.mk (below_step (by repeat (first | (with_reducible first | exact HL.out | apply below_alloc | apply pw_below_drewN | apply below_drew1) | exact HL.out)) hb); clear HL; have HL := n0_; clear n0_) | (go_at_call 19; (with_reducible refine (wfits_n _ 3 _ kindsE [2, 2, 3] 1 0 _ m m (List.replicate m 0) 7 _ hC9 hl9 (Kd.C_below hCm.out (by repeat (first | (with_reducible first | exact HL.out | apply below_alloc | apply pw_below_drewN | apply below_drew1) | exact HL.out))) (Nat.le_refl m) (by decide) HX.out).mono ?_); rintro e w9 ⟨rfl, hb⟩; have n0_ := Aside0.mk (below_step (by repeat (first | (with_reducible first | exact HB.out | apply below_alloc | apply pw_below_drewN | apply below_drew1) | exact HB.out)) hb); clear HB; have HB := n0_; clear n0_; have n0_ := Aside0.mk (below_step (by repeat (first | (with_reducible first | exact HL.out | apply below_alloc | apply pw_below_drewN | apply below_drew1) | exact HL.out)) hb); clear HL; have HL := n0_; clear n0_))
  obtain ⟨q0, q1, q2⟩ : Cells3 w9 (w1.heap.size + 1) (.int .i64 1) (.int .i64 0) (.slice (some ⟨w1.heap.size, 0, none⟩) m m) := by assumption
  have ql := World.block_lt_of_cell? _ _ q2
  go_wp2
  go_ret
  exact ⟨rfl, (by repeat (first | (with_reducible first | exact HB.out | apply below_alloc | apply pw_below_drewN | apply below_drew1) | exact HB.out))⟩
set_option maxHeartbeats 1000000 in
set_option maxRecDepth 100000 in
theorem fits_cf21 (kind n : Int) (m : Nat) (w : World) (hk0 : -9223372036854775808 ≤ kind) (hk1 : kind ≤ 9223372036854775807) (hn0 : 0 ≤ n) (hn1 : n ≤ 255) (hm : n % 10 = (m : Int)) (hm9 : m ≤ 9) (h : kind = 2) (hq : m = 3) :
    Calls Try.prog 6 #[.int .i64 kind, .int .u8 n, .bool false] w fun e w' => e = .returned (.bool true) ∧ Below w.heap.size w w' := by
  have HB := Aside0.mk (Below.refl w.heap.size w)
  have hmk := print_make (P := Try.prog) 22 2 .i64 8 Try.underlying22 info2 (by decide) m (by omega)
  have HM := Aside0.mk hm9
  have HX : Aside0 (fitsE [2, 2, 3] 2 m = 0) := ⟨by unfold fitsE; rw [if_neg (by decide), if_neg (by decide), if_pos (by simpa using hq)]⟩
  have hqi : ((m : Int) == 3) = true := by simp; omega
  have HQ := Aside0.mk hq
  clear hq
  go_enter Try.func6, Try.ntmps6
  go_wp2_with (first | (go_at_call 8; (with_reducible refine (examples_c _).mono ?_); rintro e w1 ⟨rfl, hb⟩; have n0_ := Aside0.mk (below_step (by repeat (first | (with_reducible first | exact HB.out | apply below_alloc | apply pw_below_drewN | apply below_drew1) | exact HB.out)) hb); clear HB; have HB := n0_; clear n0_))
  have HL := Aside0.mk (Below.refl (w1.alloc (.cells (madeCells #[.int .i64 0] m) 2)).heap.size (w1.alloc (.cells (madeCells #[.int .i64 0] m) 2)))
  have hCm := Aside0.mk (C_made w1 m (by omega))
  go_region_held3 (fun w' => w'.cell? ⟨w1.heap.size + 1, 0, none⟩ = some (.int .i64 2) ∧ w'.cell? ⟨w1.heap.size + 1, 1, none⟩ = some (.int .i64 0) ∧ w'.cell? ⟨w1.heap.size + 1, 2, none⟩ = some (.slice (some ⟨w1.heap.size, 0, none⟩) m m)) (first | (exact Cells3.keep hb (by assumption)) | (refine ⟨?_, ?_, ?_⟩ <;> go_simp) | go_keep) (first | (go_at_call 15; (with_reducible refine (kinds_n _).mono ?_); rintro e w9 ⟨A9, c9, rfl, hl9, hC9, hb⟩; have n0_ := Aside0.mk (below_step (by repeat (first | (with_reducible first | exact HB.out | apply below_alloc | apply pw_below_drewN | apply below_drew1) | exact HB.out)) hb); clear HB; have HB := n0_; clear n0_; have n0_ := Aside0.mk (below_step (by repeat (first | (with_reducible first | exact HL.out | apply below_alloc | apply pw_below_drewN | apply below_drew1) | exact HL.out)) hb); clear HL; have HL := n0_; clear n0_) | (go_at_call 19; (with_reducible refine (wfits_n _ 3 _ kindsE [2, 2, 3] 2 0 _ m m (List.replicate m 0) 0 _ hC9 hl9 (Kd.C_below hCm.out (by repeat (first | (with_reducible first | exact HL.out | apply below_alloc | apply pw_below_drewN | apply below_drew1) | exact HL.out))) (Nat.le_refl m) (by decide) HX.out).mono ?_); rintro e w9 ⟨rfl, hb⟩; have n0_ := Aside0.mk (below_step (by repeat (first | (with_reducible first | exact HB.out | apply below_alloc | apply pw_below_drewN | apply below_drew1) | exact HB.out)) hb); clear HB; have HB := n0_; clear n0_; have n0_ := Aside0.mk (below_step (by repeat (first | (with_reducible first | exact HL.out | apply below_alloc | apply pw_below_drewN | apply below_drew1) | exact HL.out)) hb); clear HL; have HL := n0_; clear n0_))
  obtain ⟨q0, q1, q2⟩ : Cells3 w9 (w1.heap.size + 1) (.int .i64 2) (.int .i64 0) (.slice (some ⟨w1.heap.size, 0, none⟩) m m) := by assumption
  have ql := World.block_lt_of_cell? _ _ q2
  go_wp2
  go_ret
  exact ⟨rfl, (by repeat (first | (with_reducible first | exact HB.out | apply below_alloc | apply pw_below_drewN | apply below_drew1) | exact HB.out))⟩
set_option maxHeartbeats 1000000 in
set_option maxRecDepth 100000 in
theorem fits_cf20 (kind n : Int) (m : Nat) (w : World) (hk0 : -9223372036854775808 ≤ kind) (hk1 : kind ≤ 9223372036854775807) (hn0 : 0 ≤ n) (hn1 : n ≤ 255) (hm : n % 10 = (m : Int)) (hm9 : m ≤ 9) (h : kind = 2) (hq : ¬ m = 3) :
    Calls Try.prog 6 #[.int .i64 kind, .int .u8 n, .bool false] w fun e w' => e = .returned (.bool true) ∧ Below w.heap.size w w' := by
  have HB := Aside0.mk (Below.refl w.heap.size w)
  have hmk := print_make (P := Try.prog) 22 2 .i64 8 Try.underlying22 info2 (by decide) m (by omega)
  have HM := Aside0.mk hm9
  have HX : Aside0 (fitsE [2, 2, 3] 2 m = 7) := ⟨by unfold fitsE; rw [if_neg (by decide), if_neg (by decide), if_neg (by simpa using hq)]⟩
  have hqi : ((m : Int) == 3) = false := by simp; omega
  have HQ := Aside0.mk hq
  clear hq
  go_enter Try.func6, Try.ntmps6
  go_wp2_with (first | (go_at_call 8; (with_reducible refine (examples_c _).mono ?_); rintro e w1 ⟨rfl, hb⟩; have n0_ := Aside0.mk (below_step (by repeat (first | (with_reducible first | exact HB.out | apply below_alloc | apply pw_below_drewN | apply below_drew1) | exact HB.out)) hb); clear HB; have HB := n0_; clear n0_))
  have HL := Aside0.mk (Below.refl (w1.alloc (.cells (madeCells #[.int .i64 0] m) 2)).heap.size (w1.alloc (.cells (madeCells #[.int .i64 0] m) 2)))
  have hCm := Aside0.mk (C_made w1 m (by omega))
  go_region_held3 (fun w' => w'.cell? ⟨w1.heap.size + 1, 0, none⟩ = some (.int .i64 2) ∧ w'.cell? ⟨w1.heap.size + 1, 1, none⟩ = some (.int .i64 0) ∧ w'.cell? ⟨w1.heap.size + 1, 2, none⟩ = some (.slice (some ⟨w1.heap.size, 0, none⟩) m m)) (first | (exact Cells3.keep hb (by assumption)) | (refine ⟨?_, ?_, ?_⟩ <;> go_simp) | go_keep) (first | (go_at_call 15; (with_reducible refine (kinds_n _).mono ?_); rintro e w9 ⟨A9, c9, rfl, hl9, hC9, hb⟩; have n0_ := Aside0.mk (below_step (by repeat (first | (with_reducible first | exact HB.out | apply below_alloc | apply pw_below_drewN | apply below_drew1) | exact HB.out)) hb); clear HB; have HB := n0_; clear n0_; have n0_ := Aside0.mk (below_step (by repeat (first | (with_reducible first | exact HL.out | apply below_alloc | apply pw_below_drewN | apply below_drew1) | exact HL.out)) hb); clear HL; have HL := n0_; clear n0_) | (go_at_call 19; (with_reducible refine (wfits_n _ 3 _ kindsE [2, 2, 3] 2 0 _ m m (List.replicate m 0) 7 _ hC9 hl9 (Kd.C_below hCm.out (by repeat (first | (with_reducible first | exact HL.out | apply below_alloc | apply pw_below_drewN | apply below_drew1) | exact HL.out))) (Nat.le_refl m) (by decide) HX.out).mono ?_); rintro e w9 ⟨rfl, hb⟩; have n0_ := Aside0.mk (below_step (by repeat (first | (with_reducible first | exact HB.out | apply below_alloc | apply pw_below_drewN | apply below_drew1) | exact HB.out)) hb); clear HB; have HB := n0_; clear n0_; have n0_ := Aside0.mk (below_step (by repeat (first | (with_reducible first | exact HL.out | apply below_alloc | apply pw_below_drewN | apply below_drew1) | exact HL.out)) hb); clear HL; have HL := n0_; clear n0_))
  obtain ⟨q0, q1, q2⟩ : Cells3 w9 (w1.heap.size + 1) (.int .i64 2) (.int .i64 0) (.slice (some ⟨w1.heap.size, 0, none⟩) m m) := by assumption
  have ql := World.block_lt_of_cell? _ _ q2
  go_wp2
  go_ret
  exact ⟨rfl, (by repeat (first | (with_reducible first | exact HB.out | apply below_alloc | apply pw_below_drewN | apply below_drew1) | exact HB.out))⟩

theorem WireFits_walk (kind n : Int) (near : Bool) (w : World) (w0 : (Lit.int .i64 kind).wf = true) (w1 : (Lit.int .u8 n).wf = true) :
    Calls Try.prog 6 #[.int .i64 kind, .int .u8 n, .bool near] w fun e w' => e = .returned (.bool true) ∧ Below w.heap.size w w' := by
  have hk : -9223372036854775808 ≤ kind ∧ kind ≤ 9223372036854775807 := by have := Go.bounds_i64 w0; omega
  have hn : 0 ≤ n ∧ n ≤ 255 := by have := Go.bounds_u8 w1; omega
  obtain ⟨m, hm⟩ := Int.eq_ofNat_of_zero_le (show 0 ≤ n % 10 by omega)
  have hm' : n % 10 = (m : Int) := hm
  cases near
  · rcases Int.lt_or_le kind 0 with h | h
    · exact fits_af kind n m w hk.1 hk.2 hn.1 hn.2 hm' (by omega) h
    rcases Int.lt_or_le 2 kind with h2 | h2
    · exact fits_bf kind n m w hk.1 hk.2 hn.1 hn.2 hm' (by omega) h2
    have h3 : kind = 0 ∨ kind = 1 ∨ kind = 2 := by omega
    rcases h3 with h3 | h3 | h3
    · by_cases hq : m = 2
      · exact fits_cf01 kind n m w hk.1 hk.2 hn.1 hn.2 hm' (by omega) h3 hq
      · exact fits_cf00 kind n m w hk.1 hk.2 hn.1 hn.2 hm' (by omega) h3 hq
    · by_cases hq : m = 2
      · exact fits_cf11 kind n m w hk.1 hk.2 hn.1 hn.2 hm' (by omega) h3 hq
      · exact fits_cf10 kind n m w hk.1 hk.2 hn.1 hn.2 hm' (by omega) h3 hq
    · by_cases hq : m = 3
      · exact fits_cf21 kind n m w hk.1 hk.2 hn.1 hn.2 hm' (by omega) h3 hq
      · exact fits_cf20 kind n m w hk.1 hk.2 hn.1 hn.2 hm' (by omega) h3 hq
  · rcases Int.lt_or_le (kind.tmod 5) 0 with h | h
    · exact fits_at kind n m w hk.1 hk.2 hn.1 hn.2 hm' (by omega) h
    rcases Int.lt_or_le 2 (kind.tmod 5) with h2 | h2
    · exact fits_bt kind n m w hk.1 hk.2 hn.1 hn.2 hm' (by omega) h2
    have h3 : (kind.tmod 5) = 0 ∨ (kind.tmod 5) = 1 ∨ (kind.tmod 5) = 2 := by omega
    rcases h3 with h3 | h3 | h3
    · by_cases hq : m = 2
      · exact fits_ct01 kind n m w hk.1 hk.2 hn.1 hn.2 hm' (by omega) h3 hq
      · exact fits_ct00 kind n m w hk.1 hk.2 hn.1 hn.2 hm' (by omega) h3 hq
    · by_cases hq : m = 2
      · exact fits_ct11 kind n m w hk.1 hk.2 hn.1 hn.2 hm' (by omega) h3 hq
      · exact fits_ct10 kind n m w hk.1 hk.2 hn.1 hn.2 hm' (by omega) h3 hq
    · by_cases hq : m = 3
      · exact fits_ct21 kind n m w hk.1 hk.2 hn.1 hn.2 hm' (by omega) h3 hq
      · exact fits_ct20 kind n m w hk.1 hk.2 hn.1 hn.2 hm' (by omega) h3 hq
end Go.Proofs.Ythckcbacmonihaa.Hand
