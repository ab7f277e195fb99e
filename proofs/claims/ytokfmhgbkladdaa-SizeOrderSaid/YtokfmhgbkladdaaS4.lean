/- SizeTells: the walk. -/
import Derived.Test.YtokfmhgbkladdaaS3
import Derived.Test.YtokfmhgbkladdaaU0
import Derived.OpenShut
set_option linter.unusedVariables false
namespace Go.Proofs.Ytokfmhgbkladdaa.Hand
open Go.RowKit Go.Proofs.Ytokfmhgbkladdaa.PSizeTells Go.Proofs.YtokfmhgbkladdaaW.PrintWords Go.Proofs.YtokfmhgbkladdaaW.PrintLast Go.Proofs.YtokfmhgbkladdaaW.PrintMore

theorem Sevens.below {w w' : World} {g : Nat} (h : Sevens w g) (hb : Below w.heap.size w w') : Sevens w' g := fun i hi => pw_cell_below hb (h i hi)
theorem Sevens.drewN {w : World} {g : Nat} (h : Sevens w g) (n : Nat) : Sevens (w.drewN n) g := h
theorem rclasses_g (w : World) : Calls Try.prog 14 #[] w fun e w' => ∃ g c, e = .returned (.slice (some ⟨g, 0, none⟩) 7 c) ∧ Below w.heap.size w w' ∧ Sevens w' g :=
  (rclasses_c w).mono fun e w' ⟨v, he, ho, hb⟩ => by
    obtain ⟨g, c, ev, hcs⟩ := R_ints ho (by decide)
    exact ⟨g, c, by rw [he, ev]; rfl, hb, hcs⟩
theorem sum_at (A : Option Addr) (n c : Nat) (l : List Int) (x : Int) (b : Bool) (w : World) (hn : n = l.length) (hr : Kd.C (Kd.int .i64) w A n l) (hc : n ≤ c) (hl : n ≤ 9223372036854775806) (e : sumV l = (x, b)) :
    Calls Try.prog 11 #[.slice A n c] w fun e w' => e = .returned (.tuple #[.int .i64 x, .bool b]) ∧ Drawn0 w w' := by
  subst hn; have := sum_c A c l w hr hc hl; rw [e] at this; exact this
theorem rsum_at (A : Option Addr) (n c : Nat) (l : List Int) (x : Int) (b : Bool) (w : World) (hn : n = l.length) (hr : Kd.C (Kd.int .i64) w A n l) (hc : n ≤ c) (hl : n ≤ 9223372036854775806) (e : sumV l = (x, b)) :
    Calls Try.prog 12 #[.slice A n c] w fun e w' => e = .returned (.tuple #[.int .i64 x, .bool b]) ∧ Below w.heap.size w w' := by
  subst hn; have := rsum_c A c l w hr hc hl; rw [e] at this; exact this
theorem slice_to (A : Option Addr) (c : Nat) (l : List Int) (m : Nat) (hm : m ≤ l.length) (hc : l.length ≤ c) {w : World} (hr : ReadsInt w .i64 A l.length l) :
    (∀ W : World, (Instr.slice 22 (.slice A l.length c) none (some (.int .i64 (m : Int))) none).run Try.prog W = .ok (.slice A m c) W) ∧ Kd.C (Kd.int .i64) w A m (l.take m) := by
  obtain ⟨i, hi, _, hsz, _⟩ := info_parts info3
  obtain ⟨h1, h2, _⟩ := print_take_of (P := Try.prog) (Value.int .i64) 0 22 3 .i64 Try.underlying22 hi hsz A c l (m : Int) (by omega) (by omega) hc
  have hl : (l.take ((m : Int)).toNat).length = m := by simp; omega
  rw [hl] at h1
  refine ⟨h1, ?_⟩
  have h3 := h2 w hr
  rw [hl, Int.toNat_natCast] at h3
  exact Kd.C_of_reads (h1 := fun _ => rfl) h3
set_option maxHeartbeats 1000000 in
set_option maxRecDepth 100000 in
theorem tells_short_true (n : Int) (A : Option Addr) (c : Nat) (l : List Int) (w : World) (hr : ReadsInt w .i64 A l.length l) (hc : l.length ≤ c) (hm : l.length ≤ 9223372036854775806) (hs : l.length ≤ 8) :
    Calls Try.prog 3 #[.int .i64 n, .bool true, .slice A l.length c] w fun e w' => e = .returned (.bool true) ∧ Below w.heap.size w w' := by
  have HB := Aside0.mk (Below.refl w.heap.size w)
  obtain ⟨hcut, hC⟩ := slice_to A c l l.length (by omega) hc hr
  obtain ⟨L, hL⟩ : ∃ L, l.take l.length = L := ⟨_, rfl⟩
  rw [hL] at hC
  have hlen : l.length = L.length := by rw [← hL, List.length_take]; omega
  clear hL
  obtain ⟨x, b, hE⟩ : ∃ x b, sumV L = (x, b) := ⟨_, _, rfl⟩
  have HE := Aside0.mk hE; clear hE
  have HL := Aside0.mk hlen; clear hlen
  have HC := Aside0.mk hC; clear hC
  have HM : Aside0 (l.length ≤ c) := ⟨by omega⟩
  have HX : Aside0 (l.length ≤ 9223372036854775806) := ⟨by omega⟩
  clear hr hm
  go_enter Try.func3, Try.ntmps3
  go_wp2_with (first | (go_at_call 8; (with_reducible refine (examples_c _).mono ?_); rintro e w1 ⟨rfl, hb⟩; have n0_ := Aside0.mk (below_step (by repeat (first | (with_reducible first | exact HB.out | apply below_alloc | apply pw_below_drewN | apply below_drew1) | exact HB.out)) hb); clear HB; have HB := n0_; clear n0_) | (go_at_call 9; (with_reducible refine (round_c _ _).mono ?_); rintro e w' ⟨rfl, ⟨nd, rfl⟩⟩) | (go_at_call 10; (with_reducible refine (rround_c _ _).mono ?_); rintro e w1 ⟨rfl, hb⟩; have n0_ := Aside0.mk (below_step (by repeat (first | (with_reducible first | exact HB.out | apply below_alloc | apply pw_below_drewN | apply below_drew1) | exact HB.out)) hb); clear HB; have HB := n0_; clear n0_) | (go_at_call 11; (with_reducible refine (sum_at A l.length c L _ _ _ HL.out (Kd.C_below HC.out (by repeat (first | (with_reducible first | exact HB.out | apply below_alloc | apply pw_below_drewN | apply below_drew1) | exact HB.out))) HM.out HX.out HE.out).mono ?_); rintro e w' ⟨rfl, ⟨nd, rfl⟩⟩) | (go_at_call 12; (with_reducible refine (rsum_at A l.length c L _ _ _ HL.out (Kd.C_below HC.out (by repeat (first | (with_reducible first | exact HB.out | apply below_alloc | apply pw_below_drewN | apply below_drew1) | exact HB.out))) HM.out HX.out HE.out).mono ?_); rintro e w1 ⟨rfl, hb⟩; have n0_ := Aside0.mk (below_step (by repeat (first | (with_reducible first | exact HB.out | apply below_alloc | apply pw_below_drewN | apply below_drew1) | exact HB.out)) hb); clear HB; have HB := n0_; clear n0_) | (go_at_call 13; (with_reducible refine (classes_c _).mono ?_); rintro e w2 ⟨g, c1, rfl, hb, hs⟩; have n0_ := Aside0.mk (below_step (by repeat (first | (with_reducible first | exact HB.out | apply below_alloc | apply pw_below_drewN | apply below_drew1) | exact HB.out)) hb); clear HB; have HB := n0_; clear n0_; have S1 := Aside0.mk hs; clear hs) | (go_at_call 14; (with_reducible refine (rclasses_g _).mono ?_); rintro e w3 ⟨g', c2, rfl, hb, hs⟩; have S2 := Aside0.mk hs; have n1_ := Aside0.mk (Sevens.below S1.out hb); clear S1 hs; have S1 := n1_; clear n1_; have n0_ := Aside0.mk (below_step (by repeat (first | (with_reducible first | exact HB.out | apply below_alloc | apply pw_below_drewN | apply below_drew1) | exact HB.out)) hb); clear HB; have HB := n0_; clear n0_ hb))
  go_loopw [18] (fun v wr => ∃ i : Nat, i ≤ 7 ∧ v = .int .i64 i ∧ Aside0 (Below w.heap.size w wr) ∧ Aside0 (Sevens wr g) ∧ Aside0 (Sevens wr g')) (fun v _ => 7 - (intOf v).toNat)
  case atStart => exact ⟨0, by omega, rfl, ⟨(by repeat (first | (with_reducible first | exact HB.out | apply below_alloc | apply pw_below_drewN | apply below_drew1) | exact HB.out))⟩, ⟨S1.out⟩, ⟨S2.out⟩⟩
  case round =>
    clear HB S1 S2
    obtain ⟨i, hi, rfl, HB, S1, S2⟩ := hrel
    by_cases hlt : i < 7
    · obtain ⟨x', h1⟩ : ∃ x, sevens.getD i 0 = x := ⟨_, rfl⟩
      have h2 := S1.out i hlt
      have h3 := S2.out i hlt
      rw [h1] at h2 h3
      clear h1
      go_wp2
      go_quiet (fail)
      go_wp2
      go_roundw
      case rel => exact ⟨i + 1, by omega, by go_num, ⟨(by repeat (first | (with_reducible first | exact HB.out | apply below_alloc | apply pw_below_drewN | apply below_drew1) | exact HB.out))⟩, ⟨S1.out.drewN _⟩, ⟨S2.out.drewN _⟩⟩
      case measure => simp [intOf]; omega
    · obtain rfl : i = 7 := by omega
      go_wp2_with (first | (go_at_call 15; (with_reducible refine (class_c _ _).mono ?_); rintro e w' ⟨rfl, ⟨nd, rfl⟩⟩) | (go_at_call 16; (with_reducible refine (rclass_c _ _).mono ?_); rintro e w1 ⟨rfl, hb⟩; have n0_ := Aside0.mk (below_step (by repeat (first | (with_reducible first | exact HB.out | apply below_alloc | apply pw_below_drewN | apply below_drew1) | exact HB.out)) hb); clear HB; have HB := n0_; clear n0_))
      go_ret
      exact ⟨rfl, (by repeat (first | (with_reducible first | exact HB.out | apply below_alloc | apply pw_below_drewN | apply below_drew1) | exact HB.out))⟩
set_option maxHeartbeats 1000000 in
set_option maxRecDepth 100000 in
theorem tells_long_true (n : Int) (A : Option Addr) (c : Nat) (l : List Int) (w : World) (hr : ReadsInt w .i64 A l.length l) (hc : l.length ≤ c) (hm : l.length ≤ 9223372036854775806) (hs : 8 < l.length) :
    Calls Try.prog 3 #[.int .i64 n, .bool true, .slice A l.length c] w fun e w' => e = .returned (.bool true) ∧ Below w.heap.size w w' := by
  have HB := Aside0.mk (Below.refl w.heap.size w)
  obtain ⟨hcut, hC⟩ := slice_to A c l 8 (by omega) hc hr
  replace hcut : ∀ W : World, (Instr.slice 22 (.slice A l.length c) none (some (.int .i64 8)) none).run Try.prog W = .ok (.slice A 8 c) W := hcut
  obtain ⟨L, hL⟩ : ∃ L, l.take 8 = L := ⟨_, rfl⟩
  rw [hL] at hC
  have hlen : 8 = L.length := by rw [← hL, List.length_take]; omega
  clear hL
  obtain ⟨x, b, hE⟩ : ∃ x b, sumV L = (x, b) := ⟨_, _, rfl⟩
  have HE := Aside0.mk hE; clear hE
  have HL := Aside0.mk hlen; clear hlen
  have HC := Aside0.mk hC; clear hC
  have HM : Aside0 (8 ≤ c) := ⟨by omega⟩
  have HX : Aside0 (8 ≤ 9223372036854775806) := ⟨by omega⟩
  clear hr hm
  go_enter Try.func3, Try.ntmps3
  go_wp2_with (first | (go_at_call 8; (with_reducible refine (examples_c _).mono ?_); rintro e w1 ⟨rfl, hb⟩; have n0_ := Aside0.mk (below_step (by repeat (first | (with_reducible first | exact HB.out | apply below_alloc | apply pw_below_drewN | apply below_drew1) | exact HB.out)) hb); clear HB; have HB := n0_; clear n0_) | (go_at_call 9; (with_reducible refine (round_c _ _).mono ?_); rintro e w' ⟨rfl, ⟨nd, rfl⟩⟩) | (go_at_call 10; (with_reducible refine (rround_c _ _).mono ?_); rintro e w1 ⟨rfl, hb⟩; have n0_ := Aside0.mk (below_step (by repeat (first | (with_reducible first | exact HB.out | apply below_alloc | apply pw_below_drewN | apply below_drew1) | exact HB.out)) hb); clear HB; have HB := n0_; clear n0_) | (go_at_call 11; (with_reducible refine (sum_at A 8 c L _ _ _ HL.out (Kd.C_below HC.out (by repeat (first | (with_reducible first | exact HB.out | apply below_alloc | apply pw_below_drewN | apply below_drew1) | exact HB.out))) HM.out HX.out HE.out).mono ?_); rintro e w' ⟨rfl, ⟨nd, rfl⟩⟩) | (go_at_call 12; (with_reducible refine (rsum_at A 8 c L _ _ _ HL.out (Kd.C_below HC.out (by repeat (first | (with_reducible first | exact HB.out | apply below_alloc | apply pw_below_drewN | apply below_drew1) | exact HB.out))) HM.out HX.out HE.out).mono ?_); rintro e w1 ⟨rfl, hb⟩; have n0_ := Aside0.mk (below_step (by repeat (first | (with_reducible first | exact HB.out | apply below_alloc | apply pw_below_drewN | apply below_drew1) | exact HB.out)) hb); clear HB; have HB := n0_; clear n0_) | (go_at_call 13; (with_reducible refine (classes_c _).mono ?_); rintro e w2 ⟨g, c1, rfl, hb, hs⟩; have n0_ := Aside0.mk (below_step (by repeat (first | (with_reducible first | exact HB.out | apply below_alloc | apply pw_below_drewN | apply below_drew1) | exact HB.out)) hb); clear HB; have HB := n0_; clear n0_; have S1 := Aside0.mk hs; clear hs) | (go_at_call 14; (with_reducible refine (rclasses_g _).mono ?_); rintro e w3 ⟨g', c2, rfl, hb, hs⟩; have S2 := Aside0.mk hs; have n1_ := Aside0.mk (Sevens.below S1.out hb); clear S1 hs; have S1 := n1_; clear n1_; have n0_ := Aside0.mk (below_step (by repeat (first | (with_reducible first | exact HB.out | apply below_alloc | apply pw_below_drewN | apply below_drew1) | exact HB.out)) hb); clear HB; have HB := n0_; clear n0_ hb))
  go_loopw [18] (fun v wr => ∃ i : Nat, i ≤ 7 ∧ v = .int .i64 i ∧ Aside0 (Below w.heap.size w wr) ∧ Aside0 (Sevens wr g) ∧ Aside0 (Sevens wr g')) (fun v _ => 7 - (intOf v).toNat)
  case atStart => exact ⟨0, by omega, rfl, ⟨(by repeat (first | (with_reducible first | exact HB.out | apply below_alloc | apply pw_below_drewN | apply below_drew1) | exact HB.out))⟩, ⟨S1.out⟩, ⟨S2.out⟩⟩
  case round =>
    clear HB S1 S2
    obtain ⟨i, hi, rfl, HB, S1, S2⟩ := hrel
    by_cases hlt : i < 7
    · obtain ⟨x', h1⟩ : ∃ x, sevens.getD i 0 = x := ⟨_, rfl⟩
      have h2 := S1.out i hlt
      have h3 := S2.out i hlt
      rw [h1] at h2 h3
      clear h1
      go_wp2
      go_quiet (fail)
      go_wp2
      go_roundw
      case rel => exact ⟨i + 1, by omega, by go_num, ⟨(by repeat (first | (with_reducible first | exact HB.out | apply below_alloc | apply pw_below_drewN | apply below_drew1) | exact HB.out))⟩, ⟨S1.out.drewN _⟩, ⟨S2.out.drewN _⟩⟩
      case measure => simp [intOf]; omega
    · obtain rfl : i = 7 := by omega
      go_wp2_with (first | (go_at_call 15; (with_reducible refine (class_c _ _).mono ?_); rintro e w' ⟨rfl, ⟨nd, rfl⟩⟩) | (go_at_call 16; (with_reducible refine (rclass_c _ _).mono ?_); rintro e w1 ⟨rfl, hb⟩; have n0_ := Aside0.mk (below_step (by repeat (first | (with_reducible first | exact HB.out | apply below_alloc | apply pw_below_drewN | apply below_drew1) | exact HB.out)) hb); clear HB; have HB := n0_; clear n0_))
      go_ret
      exact ⟨rfl, (by repeat (first | (with_reducible first | exact HB.out | apply below_alloc | apply pw_below_drewN | apply below_drew1) | exact HB.out))⟩
set_option maxHeartbeats 1000000 in
set_option maxRecDepth 100000 in
theorem tells_short_false (n : Int) (A : Option Addr) (c : Nat) (l : List Int) (w : World) (hr : ReadsInt w .i64 A l.length l) (hc : l.length ≤ c) (hm : l.length ≤ 9223372036854775806) (hs : l.length ≤ 8) :
    Calls Try.prog 3 #[.int .i64 n, .bool false, .slice A l.length c] w fun e w' => e = .returned (.bool true) ∧ Below w.heap.size w w' := by
  have HB := Aside0.mk (Below.refl w.heap.size w)
  obtain ⟨hcut, hC⟩ := slice_to A c l l.length (by omega) hc hr
  obtain ⟨L, hL⟩ : ∃ L, l.take l.length = L := ⟨_, rfl⟩
  rw [hL] at hC
  have hlen : l.length = L.length := by rw [← hL, List.length_take]; omega
  clear hL
  obtain ⟨x, b, hE⟩ : ∃ x b, sumV L = (x, b) := ⟨_, _, rfl⟩
  have HE := Aside0.mk hE; clear hE
  have HL := Aside0.mk hlen; clear hlen
  have HC := Aside0.mk hC; clear hC
  have HM : Aside0 (l.length ≤ c) := ⟨by omega⟩
  have HX : Aside0 (l.length ≤ 9223372036854775806) := ⟨by omega⟩
  clear hr hm
  go_enter Try.func3, Try.ntmps3
  go_wp2_with (first | (go_at_call 8; (with_reducible refine (examples_c _).mono ?_); rintro e w1 ⟨rfl, hb⟩; have n0_ := Aside0.mk (below_step (by repeat (first | (with_reducible first | exact HB.out | apply below_alloc | apply pw_below_drewN | apply below_drew1) | exact HB.out)) hb); clear HB; have HB := n0_; clear n0_) | (go_at_call 9; (with_reducible refine (round_c _ _).mono ?_); rintro e w' ⟨rfl, ⟨nd, rfl⟩⟩) | (go_at_call 10; (with_reducible refine (rround_c _ _).mono ?_); rintro e w1 ⟨rfl, hb⟩; have n0_ := Aside0.mk (below_step (by repeat (first | (with_reducible first | exact HB.out | apply below_alloc | apply pw_below_drewN | apply below_drew1) | exact HB.out)) hb); clear HB; have HB := n0_; clear n0_) | (go_at_call 11; (with_reducible refine (sum_at A l.length c L _ _ _ HL.out (Kd.C_below HC.out (by repeat (first | (with_reducible first | exact HB.out | apply below_alloc | apply pw_below_drewN | apply below_drew1) | exact HB.out))) HM.out HX.out HE.out).mono ?_); rintro e w' ⟨rfl, ⟨nd, rfl⟩⟩) | (go_at_call 12; (with_reducible refine (rsum_at A l.length c L _ _ _ HL.out (Kd.C_below HC.out (by repeat (first | (with_reducible first | exact HB.out | apply below_alloc | apply pw_below_drewN | apply below_drew1) | exact HB.out))) HM.out HX.out HE.out).mono ?_); rintro e w1 ⟨rfl, hb⟩; have n0_ := Aside0.mk (below_step (by repeat (first | (with_reducible first | exact HB.out | apply below_alloc | apply pw_below_drewN | apply below_drew1) | exact HB.out)) hb); clear HB; have HB := n0_; clear n0_) | (go_at_call 13; (with_reducible refine (classes_c _).mono ?_); rintro e w2 ⟨g, c1, rfl, hb, hs⟩; have n0_ := Aside0.mk (below_step (by repeat (first | (with_reducible first | exact HB.out | apply below_alloc | apply pw_below_drewN | apply below_drew1) | exact HB.out)) hb); clear HB; have HB := n0_; clear n0_; have S1 := Aside0.mk hs; clear hs) | (go_at_call 14; (with_reducible refine (rclasses_g _).mono ?_); rintro e w3 ⟨g', c2, rfl, hb, hs⟩; have S2 := Aside0.mk hs; have n1_ := Aside0.mk (Sevens.below S1.out hb); clear S1 hs; have S1 := n1_; clear n1_; have n0_ := Aside0.mk (below_step (by repeat (first | (with_reducible first | exact HB.out | apply below_alloc | apply pw_below_drewN | apply below_drew1) | exact HB.out)) hb); clear HB; have HB := n0_; clear n0_ hb))
  go_loopw [18] (fun v wr => ∃ i : Nat, i ≤ 7 ∧ v = .int .i64 i ∧ Aside0 (Below w.heap.size w wr) ∧ Aside0 (Sevens wr g) ∧ Aside0 (Sevens wr g')) (fun v _ => 7 - (intOf v).toNat)
  case atStart => exact ⟨0, by omega, rfl, ⟨(by repeat (first | (with_reducible first | exact HB.out | apply below_alloc | apply pw_below_drewN | apply below_drew1) | exact HB.out))⟩, ⟨S1.out⟩, ⟨S2.out⟩⟩
  case round =>
    clear HB S1 S2
    obtain ⟨i, hi, rfl, HB, S1, S2⟩ := hrel
    by_cases hlt : i < 7
    · obtain ⟨x', h1⟩ : ∃ x, sevens.getD i 0 = x := ⟨_, rfl⟩
      have h2 := S1.out i hlt
      have h3 := S2.out i hlt
      rw [h1] at h2 h3
      clear h1
      go_wp2
      go_quiet (fail)
      go_wp2
      go_roundw
      case rel => exact ⟨i + 1, by omega, by go_num, ⟨(by repeat (first | (with_reducible first | exact HB.out | apply below_alloc | apply pw_below_drewN | apply below_drew1) | exact HB.out))⟩, ⟨S1.out.drewN _⟩, ⟨S2.out.drewN _⟩⟩
      case measure => simp [intOf]; omega
    · obtain rfl : i = 7 := by omega
      go_wp2_with (first | (go_at_call 15; (with_reducible refine (class_c _ _).mono ?_); rintro e w' ⟨rfl, ⟨nd, rfl⟩⟩) | (go_at_call 16; (with_reducible refine (rclass_c _ _).mono ?_); rintro e w1 ⟨rfl, hb⟩; have n0_ := Aside0.mk (below_step (by repeat (first | (with_reducible first | exact HB.out | apply below_alloc | apply pw_below_drewN | apply below_drew1) | exact HB.out)) hb); clear HB; have HB := n0_; clear n0_))
      go_ret
      exact ⟨rfl, (by repeat (first | (with_reducible first | exact HB.out | apply below_alloc | apply pw_below_drewN | apply below_drew1) | exact HB.out))⟩
set_option maxHeartbeats 1000000 in
set_option maxRecDepth 100000 in
theorem tells_long_false (n : Int) (A : Option Addr) (c : Nat) (l : List Int) (w : World) (hr : ReadsInt w .i64 A l.length l) (hc : l.length ≤ c) (hm : l.length ≤ 9223372036854775806) (hs : 8 < l.length) :
    Calls Try.prog 3 #[.int .i64 n, .bool false, .slice A l.length c] w fun e w' => e = .returned (.bool true) ∧ Below w.heap.size w w' := by
  have HB := Aside0.mk (Below.refl w.heap.size w)
  obtain ⟨hcut, hC⟩ := slice_to A c l 8 (by omega) hc hr
  replace hcut : ∀ W : World, (Instr.slice 22 (.slice A l.length c) none (some (.int .i64 8)) none).run Try.prog W = .ok (.slice A 8 c) W := hcut
  obtain ⟨L, hL⟩ : ∃ L, l.take 8 = L := ⟨_, rfl⟩
  rw [hL] at hC
  have hlen : 8 = L.length := by rw [← hL, List.length_take]; omega
  clear hL
  obtain ⟨x, b, hE⟩ : ∃ x b, sumV L = (x, b) := ⟨_, _, rfl⟩
  have HE := Aside0.mk hE; clear hE
  have HL := Aside0.mk hlen; clear hlen
  have HC := Aside0.mk hC; clear hC
  have HM : Aside0 (8 ≤ c) := ⟨by omega⟩
  have HX : Aside0 (8 ≤ 9223372036854775806) := ⟨by omega⟩
  clear hr hm
  go_enter Try.func3, Try.ntmps3
  go_wp2_with (first | (go_at_call 8; (with_reducible refine (examples_c _).mono ?_); rintro e w1 ⟨rfl, hb⟩; have n0_ := Aside0.mk (below_step (by repeat (first | (with_reducible first | exact HB.out | apply below_alloc | apply pw_below_drewN | apply below_drew1) | exact HB.out)) hb); clear HB; have HB := n0_; clear n0_) | (go_at_call 9; (with_reducible refine (round_c _ _).mono ?_); rintro e w' ⟨rfl, ⟨nd, rfl⟩⟩) | (go_at_call 10; (with_reducible refine (rround_c _ _).mono ?_); rintro e w1 ⟨rfl, hb⟩; have n0_ := Aside0.mk (below_step (by repeat (first | (with_reducible first | exact HB.out | apply below_alloc | apply pw_below_drewN | apply below_drew1) | exact HB.out)) hb); clear HB; have HB := n0_; clear n0_) | (go_at_call 11; (with_reducible refine (sum_at A 8 c L _ _ _ HL.out (Kd.C_below HC.out (by repeat (first | (with_reducible first | exact HB.out | apply below_alloc | apply pw_below_drewN | apply below_drew1) | exact HB.out))) HM.out HX.out HE.out).mono ?_); rintro e w' ⟨rfl, ⟨nd, rfl⟩⟩) | (go_at_call 12; (with_reducible refine (rsum_at A 8 c L _ _ _ HL.out (Kd.C_below HC.out (by repeat (first | (with_reducible first | exact HB.out | apply below_alloc | apply pw_below_drewN | apply below_drew1) | exact HB.out))) HM.out HX.out HE.out).mono ?_); rintro e w1 ⟨rfl, hb⟩; have n0_ := Aside0.mk (below_step (by repeat (first | (with_reducible first | exact HB.out | apply below_alloc | apply pw_below_drewN | apply below_drew1) | exact HB.out)) hb); clear HB; have HB := n0_; clear n0_) | (go_at_call 13; (with_reducible refine (classes_c _).mono ?_); rintro e w2 ⟨g, c1, rfl, hb, hs⟩; have n0_ := Aside0.mk (below_step (by repeat (first | (with_reducible first | exact HB.out | apply below_alloc | apply pw_below_drewN | apply below_drew1) | exact HB.out)) hb); clear HB; have HB := n0_; clear n0_; have S1 := Aside0.mk hs; clear hs) | (go_at_call 14; (with_reducible refine (rclasses_g _).mono ?_); rintro e w3 ⟨g', c2, rfl, hb, hs⟩; have S2 := Aside0.mk hs; have n1_ := Aside0.mk (Sevens.below S1.out hb); clear S1 hs; have S1 := n1_; clear n1_; have n0_ := Aside0.mk (below_step (by repeat (first | (with_reducible first | exact HB.out | apply below_alloc | apply pw_below_drewN | apply below_drew1) | exact HB.out)) hb); clear HB; have HB := n0_; clear n0_ hb))
  go_loopw [18] (fun v wr => ∃ i : Nat, i ≤ 7 ∧ v = .int .i64 i ∧ Aside0 (Below w.heap.size w wr) ∧ Aside0 (Sevens wr g) ∧ Aside0 (Sevens wr g')) (fun v _ => 7 - (intOf v).toNat)
  case atStart => exact ⟨0, by omega, rfl, ⟨(by repeat (first | (with_reducible first | exact HB.out | apply below_alloc | apply pw_below_drewN | apply below_drew1) | exact HB.out))⟩, ⟨S1.out⟩, ⟨S2.out⟩⟩
  case round =>
    clear HB S1 S2
    obtain ⟨i, hi, rfl, HB, S1, S2⟩ := hrel
    by_cases hlt : i < 7
    · obtain ⟨x', h1⟩ : ∃ x, sevens.getD i 0 = x := ⟨_, rfl⟩
      have h2 := S1.out i hlt
      have h3 := S2.out i hlt
      rw [h1] at h2 h3
      clear h1
      go_wp2
      go_quiet (fail)
      go_wp2
      go_roundw
      case rel => exact ⟨i + 1, by omega, by go_num, ⟨(by repeat (first | (with_reducible first | exact HB.out | apply below_alloc | apply pw_below_drewN | apply below_drew1) | exact HB.out))⟩, ⟨S1.out.drewN _⟩, ⟨S2.out.drewN _⟩⟩
      case measure => simp [intOf]; omega
    · obtain rfl : i = 7 := by omega
      go_wp2_with (first | (go_at_call 15; (with_reducible refine (class_c _ _).mono ?_); rintro e w' ⟨rfl, ⟨nd, rfl⟩⟩) | (go_at_call 16; (with_reducible refine (rclass_c _ _).mono ?_); rintro e w1 ⟨rfl, hb⟩; have n0_ := Aside0.mk (below_step (by repeat (first | (with_reducible first | exact HB.out | apply below_alloc | apply pw_below_drewN | apply below_drew1) | exact HB.out)) hb); clear HB; have HB := n0_; clear n0_))
      go_ret
      exact ⟨rfl, (by repeat (first | (with_reducible first | exact HB.out | apply below_alloc | apply pw_below_drewN | apply below_drew1) | exact HB.out))⟩

theorem SizeTells_walk (n : Int) (b : Bool) (A : Option Addr) (c : Nat) (l : List Int) (w : World) (w0 : (Lit.int .i64 n).wf = true) (hr : ReadsInt w .i64 A l.length l) (hm : l.length ≤ maxLen) (hw : ∀ x ∈ l, (Lit.int .i64 x).wf = true) (hc : l.length ≤ c) (hy : l.length * 8 ≤ 140737488351232) :
    Calls Try.prog 3 #[.int .i64 n, .bool b, .slice A l.length c] w fun e w' => e = .returned (.bool true) ∧ Below w.heap.size w w' := by
  rcases Nat.lt_or_ge 8 l.length with h | h <;> cases b
  · exact tells_long_false n A c l w hr hc (by omega) h
  · exact tells_long_true n A c l w hr hc (by omega) h
  · exact tells_short_false n A c l w hr hc (by omega) h
  · exact tells_short_true n A c l w hr hc (by omega) h
end Go.Proofs.Ytokfmhgbkladdaa.Hand
