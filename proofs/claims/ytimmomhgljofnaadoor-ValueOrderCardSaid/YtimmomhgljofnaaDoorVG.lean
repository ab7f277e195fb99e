/- Chapter 8: near; ValueSums, walked. -/
import Derived.Test.YtimmomhgljofnaaDoorVF
import Derived.Deep.RegionLaw
import Derived.Deep.DeepCutAuto
import Derived.Deep.CutBlock
set_option linter.unusedVariables false
set_option linter.unusedSimpArgs false
namespace Go.Proofs.YtimmomhgljofnaaDoor.Hand
open Go.Proofs.YtimmomhgljofnaaDoor.PValueBad
open Go.RowKit Go.Proofs.YtimmomhgljofnaaDoorW.PrintWords Go.Proofs.YtimmomhgljofnaaDoorW.PrintLast Go.Proofs.YtimmomhgljofnaaDoorW.PrintMore
set_option maxHeartbeats 1000000 in
set_option maxRecDepth 100000 in
theorem near_e {W : World} (n k : Int) (hn : InI n) (hk : 0 ≤ k) (hk8 : k ≤ 255) :
    Calls Tryd.prog 10 #[.int .i64 n, .int .u8 k] W fun e w' => ∃ r, e = .returned (.int .i64 r) ∧ InI r ∧ Below W.heap.size W w' := by
  have HB := Aside0.mk (Below.refl W.heap.size W)
  by_cases h1 : k < 80
  · go_enter Tryd.func10, Tryd.ntmps10
    go_wp2
    all_goals (try (exfalso; omega))
    all_goals go_ret
    all_goals exact ⟨_, rfl, by have h1 := Int.natAbs_tmod n 70; have h2 : n.natAbs % 70 < 70 := Nat.mod_lt _ (by decide); have h3 : (70 : Int).natAbs = 70 := rfl; rw [h3] at h1; show InI (Int.tmod n 70); unfold InI; omega, (by repeat (first | (with_reducible first | exact HB.out | apply below_alloc | apply pw_below_drewN | apply below_drew1) | exact HB.out))⟩
  by_cases h2 : k < 140
  · obtain h3 | h3 | h3 | h3 | h3 | h3 | h3 : k % 7 = 0 ∨ k % 7 = 1 ∨ k % 7 = 2 ∨ k % 7 = 3 ∨ k % 7 = 4 ∨ k % 7 = 5 ∨ k % 7 = 6 := by omega
    · have h4 : Int.tmod k 7 = 0 := by rw [Int.tmod_eq_emod_of_nonneg hk]; exact h3
      go_enter Tryd.func10, Tryd.ntmps10
      go_wp2
      all_goals (try (exfalso; omega))
      all_goals go_ret
      all_goals exact ⟨_, rfl, by show InI (-9223372036854775808); unfold InI; omega, (by repeat (first | (with_reducible first | exact HB.out | apply below_alloc | apply pw_below_drewN | apply below_drew1) | exact HB.out))⟩
    · have h4 : Int.tmod k 7 = 1 := by rw [Int.tmod_eq_emod_of_nonneg hk]; exact h3
      go_enter Tryd.func10, Tryd.ntmps10
      go_wp2
      all_goals (try (exfalso; omega))
      all_goals go_ret
      all_goals exact ⟨_, rfl, by show InI (9223372036854775807); unfold InI; omega, (by repeat (first | (with_reducible first | exact HB.out | apply below_alloc | apply pw_below_drewN | apply below_drew1) | exact HB.out))⟩
    · have h4 : Int.tmod k 7 = 2 := by rw [Int.tmod_eq_emod_of_nonneg hk]; exact h3
      go_enter Tryd.func10, Tryd.ntmps10
      go_wp2
      all_goals (try (exfalso; omega))
      all_goals go_ret
      all_goals exact ⟨_, rfl, by show InI (0); unfold InI; omega, (by repeat (first | (with_reducible first | exact HB.out | apply below_alloc | apply pw_below_drewN | apply below_drew1) | exact HB.out))⟩
    · have h4 : Int.tmod k 7 = 3 := by rw [Int.tmod_eq_emod_of_nonneg hk]; exact h3
      go_enter Tryd.func10, Tryd.ntmps10
      go_wp2
      all_goals (try (exfalso; omega))
      all_goals go_ret
      all_goals exact ⟨_, rfl, by show InI (1); unfold InI; omega, (by repeat (first | (with_reducible first | exact HB.out | apply below_alloc | apply pw_below_drewN | apply below_drew1) | exact HB.out))⟩
    · have h4 : Int.tmod k 7 = 4 := by rw [Int.tmod_eq_emod_of_nonneg hk]; exact h3
      go_enter Tryd.func10, Tryd.ntmps10
      go_wp2
      all_goals (try (exfalso; omega))
      all_goals go_ret
      all_goals exact ⟨_, rfl, by show InI (-1); unfold InI; omega, (by repeat (first | (with_reducible first | exact HB.out | apply below_alloc | apply pw_below_drewN | apply below_drew1) | exact HB.out))⟩
    · have h4 : Int.tmod k 7 = 5 := by rw [Int.tmod_eq_emod_of_nonneg hk]; exact h3
      go_enter Tryd.func10, Tryd.ntmps10
      go_wp2
      all_goals (try (exfalso; omega))
      all_goals go_ret
      all_goals exact ⟨_, rfl, by show InI (4294967296); unfold InI; omega, (by repeat (first | (with_reducible first | exact HB.out | apply below_alloc | apply pw_below_drewN | apply below_drew1) | exact HB.out))⟩
    · have h4 : Int.tmod k 7 = 6 := by rw [Int.tmod_eq_emod_of_nonneg hk]; exact h3
      go_enter Tryd.func10, Tryd.ntmps10
      go_wp2
      all_goals (try (exfalso; omega))
      all_goals go_ret
      all_goals exact ⟨_, rfl, by show InI (-2147483648); unfold InI; omega, (by repeat (first | (with_reducible first | exact HB.out | apply below_alloc | apply pw_below_drewN | apply below_drew1) | exact HB.out))⟩
  · go_enter Tryd.func10, Tryd.ntmps10
    go_wp2
    all_goals (try (exfalso; omega))
    all_goals go_ret
    all_goals exact ⟨_, rfl, by exact hn, (by repeat (first | (with_reducible first | exact HB.out | apply below_alloc | apply pw_below_drewN | apply below_drew1) | exact HB.out))⟩
set_option maxHeartbeats 4000000 in
set_option maxRecDepth 100000 in
theorem sums_walk {W : World} (a0 b0 x y : Int) (ha0 : InI a0) (hb0 : InI b0) (hx : 0 ≤ x) (hx8 : x ≤ 255) (hy : 0 ≤ y) (hy8 : y ≤ 255) :
    Calls Tryd.prog 4 #[.int .i64 a0, .int .i64 b0, .int .u8 x, .int .u8 y] W fun e w' => e = .returned (.bool true) ∧ Below W.heap.size W w' := by
  have HB := Aside0.mk (Below.refl W.heap.size W)
  have HL := Aside0.mk (Below.refl W.heap.size W)
  go_enter Tryd.func4, Tryd.ntmps4
  go_upto_region 6 with (first | (go_at_call 9; (with_reducible refine (examples_c _).mono ?_); rintro e w1 ⟨rfl, hb⟩; have n0_ := Aside0.mk (below_step (by repeat (first | (with_reducible first | exact HB.out | apply below_alloc | apply pw_below_drewN | apply below_drew1) | exact HB.out)) hb); clear HB; have HB := n0_; clear n0_; have hs_ := below_step (by repeat (first | (with_reducible first | exact HL.out | apply below_alloc | apply pw_below_drewN | apply below_drew1) | exact HL.out)) hb; clear HL hs_ hb; have HL := Aside0.mk (Below.refl w1.heap.size w1)) | (go_at_call 10; (with_reducible refine (near_e a0 x ha0 hx hx8).mono ?_); rintro e w2 ⟨a, rfl, ha, hb_⟩; have n0_ := Aside0.mk (below_step (by repeat (first | (with_reducible first | exact HB.out | apply below_alloc | apply pw_below_drewN | apply below_drew1) | exact HB.out)) hb_); clear HB; have HB := n0_; clear n0_ hb_ HL; have HL := Aside0.mk (Below.refl w2.heap.size w2)) | (go_at_call 10; (with_reducible refine (near_e b0 y hb0 hy hy8).mono ?_); rintro e w3 ⟨b, rfl, hb, hb_⟩; have n0_ := Aside0.mk (below_step (by repeat (first | (with_reducible first | exact HB.out | apply below_alloc | apply pw_below_drewN | apply below_drew1) | exact HB.out)) hb_); clear HB; have HB := n0_; clear n0_ hb_ HL; have HL := Aside0.mk (Below.refl w3.heap.size w3)))
  by_cases hpos : 0 ≤ b
  · by_cases hs : InI (a + b)
    · by_cases hd : InI (a - b)
      · have e1 : okF (a + b) = (a + b, true) := by unfold okF; rw [if_pos hs]
        have e2 : okF (b + a) = (a + b, true) := by rw [Int.add_comm]; exact e1
        have e3 : okF (a - b) = (a - b, true) := by unfold okF; rw [if_pos hd]
        obtain ⟨s, hs_⟩ : ∃ s, a + b = s := ⟨_, rfl⟩
        rw [hs_] at hs
        have e1 : okF (a + b) = (s, true) := by rw [e1, hs_]
        have e2 : okF (b + a) = (s, true) := by rw [e2, hs_]
        have e4 : okF (s - b) = (a, true) := by rw [← hs_, Int.add_sub_cancel]; unfold okF; rw [if_pos ha]
        obtain ⟨t, ht_⟩ : ∃ t, a - b = t := ⟨_, rfl⟩
        rw [ht_] at hd
        have e3 : okF (a - b) = (t, true) := by rw [e3, ht_]
        have e5 : okF (t + b) = (a, true) := by rw [← ht_, Int.sub_add_cancel]; unfold okF; rw [if_pos ha]
        have E1 := Aside0.mk e1
        have E2 := Aside0.mk e2
        have E3 := Aside0.mk e3
        have E4 := Aside0.mk e4
        have E5 := Aside0.mk e5
        clear e1 e2 e3 e4 e5
        have HS := hs
        have HD := hd
        unfold InI at hs hd ha hb
        have HA := Aside0.mk (show InI a from ha)
        have HBI := Aside0.mk (show InI b from hb)
        have HSI := Aside0.mk (show InI s from hs)
        have HTI := Aside0.mk (show InI t from hd)
        clear HS HD
        have c1 : a ≤ 9223372036854775807 - b := by omega
        have c2 : -9223372036854775808 + b ≤ a := by omega
        go_wp2_with (first | (go_at_call 14; (with_reducible refine (add_c HA.out HBI.out _ _ E1.out).mono ?_); rintro e w4 ⟨rfl, hb⟩; have n0_ := Aside0.mk (below_step (by repeat (first | (with_reducible first | exact HB.out | apply below_alloc | apply pw_below_drewN | apply below_drew1) | exact HB.out)) hb); clear HB; have HB := n0_; clear n0_; have hs_ := below_step (by repeat (first | (with_reducible first | exact HL.out | apply below_alloc | apply pw_below_drewN | apply below_drew1) | exact HL.out)) hb; clear HL hs_ hb; have HL := Aside0.mk (Below.refl w4.heap.size w4)) | (go_at_call 14; (with_reducible refine (add_c HBI.out HA.out _ _ E2.out).mono ?_); rintro e w5 ⟨rfl, hb⟩; have n0_ := Aside0.mk (below_step (by repeat (first | (with_reducible first | exact HB.out | apply below_alloc | apply pw_below_drewN | apply below_drew1) | exact HB.out)) hb); clear HB; have HB := n0_; clear n0_; have hs_ := below_step (by repeat (first | (with_reducible first | exact HL.out | apply below_alloc | apply pw_below_drewN | apply below_drew1) | exact HL.out)) hb; clear HL hs_ hb; have HL := Aside0.mk (Below.refl w5.heap.size w5)) | (go_at_call 16; (with_reducible refine (sub_c HA.out HBI.out _ _ E3.out).mono ?_); rintro e w6 ⟨rfl, hb⟩; have n0_ := Aside0.mk (below_step (by repeat (first | (with_reducible first | exact HB.out | apply below_alloc | apply pw_below_drewN | apply below_drew1) | exact HB.out)) hb); clear HB; have HB := n0_; clear n0_; have hs_ := below_step (by repeat (first | (with_reducible first | exact HL.out | apply below_alloc | apply pw_below_drewN | apply below_drew1) | exact HL.out)) hb; clear HL hs_ hb; have HL := Aside0.mk (Below.refl w6.heap.size w6)) | (go_at_call 16; (with_reducible refine (sub_c HSI.out HBI.out _ _ E4.out).mono ?_); rintro e w7 ⟨rfl, hb⟩; have n0_ := Aside0.mk (below_step (by repeat (first | (with_reducible first | exact HB.out | apply below_alloc | apply pw_below_drewN | apply below_drew1) | exact HB.out)) hb); clear HB; have HB := n0_; clear n0_; have hs_ := below_step (by repeat (first | (with_reducible first | exact HL.out | apply below_alloc | apply pw_below_drewN | apply below_drew1) | exact HL.out)) hb; clear HL hs_ hb; have HL := Aside0.mk (Below.refl w7.heap.size w7)) | (go_at_call 14; (with_reducible refine (add_c HTI.out HBI.out _ _ E5.out).mono ?_); rintro e w8 ⟨rfl, hb⟩; have n0_ := Aside0.mk (below_step (by repeat (first | (with_reducible first | exact HB.out | apply below_alloc | apply pw_below_drewN | apply below_drew1) | exact HB.out)) hb); clear HB; have HB := n0_; clear n0_; have hs_ := below_step (by repeat (first | (with_reducible first | exact HL.out | apply below_alloc | apply pw_below_drewN | apply below_drew1) | exact HL.out)) hb; clear HL hs_ hb; have HL := Aside0.mk (Below.refl w8.heap.size w8)))
        all_goals (try (exfalso; omega))
        all_goals go_ret
        all_goals exact ⟨rfl, (by repeat (first | (with_reducible first | exact HB.out | apply below_alloc | apply pw_below_drewN | apply below_drew1) | exact HB.out))⟩
      · have e1 : okF (a + b) = (a + b, true) := by unfold okF; rw [if_pos hs]
        have e2 : okF (b + a) = (a + b, true) := by rw [Int.add_comm]; exact e1
        have e3 : okF (a - b) = (0, false) := by unfold okF; rw [if_neg hd]
        obtain ⟨s, hs_⟩ : ∃ s, a + b = s := ⟨_, rfl⟩
        rw [hs_] at hs
        have e1 : okF (a + b) = (s, true) := by rw [e1, hs_]
        have e2 : okF (b + a) = (s, true) := by rw [e2, hs_]
        have e4 : okF (s - b) = (a, true) := by rw [← hs_, Int.add_sub_cancel]; unfold okF; rw [if_pos ha]
        have e5 : okF (0 + b) = (b, true) := by rw [Int.zero_add]; unfold okF; rw [if_pos hb]
        have E1 := Aside0.mk e1
        have E2 := Aside0.mk e2
        have E3 := Aside0.mk e3
        have E4 := Aside0.mk e4
        have E5 := Aside0.mk e5
        clear e1 e2 e3 e4 e5
        have HS := hs
        have HD := hd
        unfold InI at hs hd ha hb
        have HA := Aside0.mk (show InI a from ha)
        have HBI := Aside0.mk (show InI b from hb)
        have HSI := Aside0.mk (show InI s from hs)
        clear HS HD
        have c1 : a ≤ 9223372036854775807 - b := by omega
        have c2 : ¬-9223372036854775808 + b ≤ a := by omega
        go_wp2_with (first | (go_at_call 14; (with_reducible refine (add_c HA.out HBI.out _ _ E1.out).mono ?_); rintro e w4 ⟨rfl, hb⟩; have n0_ := Aside0.mk (below_step (by repeat (first | (with_reducible first | exact HB.out | apply below_alloc | apply pw_below_drewN | apply below_drew1) | exact HB.out)) hb); clear HB; have HB := n0_; clear n0_; have hs_ := below_step (by repeat (first | (with_reducible first | exact HL.out | apply below_alloc | apply pw_below_drewN | apply below_drew1) | exact HL.out)) hb; clear HL hs_ hb; have HL := Aside0.mk (Below.refl w4.heap.size w4)) | (go_at_call 14; (with_reducible refine (add_c HBI.out HA.out _ _ E2.out).mono ?_); rintro e w5 ⟨rfl, hb⟩; have n0_ := Aside0.mk (below_step (by repeat (first | (with_reducible first | exact HB.out | apply below_alloc | apply pw_below_drewN | apply below_drew1) | exact HB.out)) hb); clear HB; have HB := n0_; clear n0_; have hs_ := below_step (by repeat (first | (with_reducible first | exact HL.out | apply below_alloc | apply pw_below_drewN | apply below_drew1) | exact HL.out)) hb; clear HL hs_ hb; have HL := Aside0.mk (Below.refl w5.heap.size w5)) | (go_at_call 16; (with_reducible refine (sub_c HA.out HBI.out _ _ E3.out).mono ?_); rintro e w6 ⟨rfl, hb⟩; have n0_ := Aside0.mk (below_step (by repeat (first | (with_reducible first | exact HB.out | apply below_alloc | apply pw_below_drewN | apply below_drew1) | exact HB.out)) hb); clear HB; have HB := n0_; clear n0_; have hs_ := below_step (by repeat (first | (with_reducible first | exact HL.out | apply below_alloc | apply pw_below_drewN | apply below_drew1) | exact HL.out)) hb; clear HL hs_ hb; have HL := Aside0.mk (Below.refl w6.heap.size w6)) | (go_at_call 16; (with_reducible refine (sub_c HSI.out HBI.out _ _ E4.out).mono ?_); rintro e w7 ⟨rfl, hb⟩; have n0_ := Aside0.mk (below_step (by repeat (first | (with_reducible first | exact HB.out | apply below_alloc | apply pw_below_drewN | apply below_drew1) | exact HB.out)) hb); clear HB; have HB := n0_; clear n0_; have hs_ := below_step (by repeat (first | (with_reducible first | exact HL.out | apply below_alloc | apply pw_below_drewN | apply below_drew1) | exact HL.out)) hb; clear HL hs_ hb; have HL := Aside0.mk (Below.refl w7.heap.size w7)) | (go_at_call 14; (with_reducible refine (add_c in0 HBI.out _ _ E5.out).mono ?_); rintro e w8 ⟨rfl, hb⟩; have n0_ := Aside0.mk (below_step (by repeat (first | (with_reducible first | exact HB.out | apply below_alloc | apply pw_below_drewN | apply below_drew1) | exact HB.out)) hb); clear HB; have HB := n0_; clear n0_; have hs_ := below_step (by repeat (first | (with_reducible first | exact HL.out | apply below_alloc | apply pw_below_drewN | apply below_drew1) | exact HL.out)) hb; clear HL hs_ hb; have HL := Aside0.mk (Below.refl w8.heap.size w8)))
        all_goals (try (exfalso; omega))
        all_goals go_ret
        all_goals exact ⟨rfl, (by repeat (first | (with_reducible first | exact HB.out | apply below_alloc | apply pw_below_drewN | apply below_drew1) | exact HB.out))⟩
    · by_cases hd : InI (a - b)
      · have e1 : okF (a + b) = (0, false) := by unfold okF; rw [if_neg hs]
        have e2 : okF (b + a) = (0, false) := by rw [Int.add_comm]; exact e1
        have e3 : okF (a - b) = (a - b, true) := by unfold okF; rw [if_pos hd]
        obtain ⟨⟨s4, o4⟩, e4⟩ : ∃ p, okF (0 - b) = p := ⟨_, rfl⟩
        obtain ⟨t, ht_⟩ : ∃ t, a - b = t := ⟨_, rfl⟩
        rw [ht_] at hd
        have e3 : okF (a - b) = (t, true) := by rw [e3, ht_]
        have e5 : okF (t + b) = (a, true) := by rw [← ht_, Int.sub_add_cancel]; unfold okF; rw [if_pos ha]
        have E1 := Aside0.mk e1
        have E2 := Aside0.mk e2
        have E3 := Aside0.mk e3
        have E4 := Aside0.mk e4
        have E5 := Aside0.mk e5
        clear e1 e2 e3 e4 e5
        have HS := hs
        have HD := hd
        unfold InI at hs hd ha hb
        have HA := Aside0.mk (show InI a from ha)
        have HBI := Aside0.mk (show InI b from hb)
        have HTI := Aside0.mk (show InI t from hd)
        clear HS HD
        have c1 : ¬a ≤ 9223372036854775807 - b := by omega
        have c2 : -9223372036854775808 + b ≤ a := by omega
        go_wp2_with (first | (go_at_call 14; (with_reducible refine (add_c HA.out HBI.out _ _ E1.out).mono ?_); rintro e w4 ⟨rfl, hb⟩; have n0_ := Aside0.mk (below_step (by repeat (first | (with_reducible first | exact HB.out | apply below_alloc | apply pw_below_drewN | apply below_drew1) | exact HB.out)) hb); clear HB; have HB := n0_; clear n0_; have hs_ := below_step (by repeat (first | (with_reducible first | exact HL.out | apply below_alloc | apply pw_below_drewN | apply below_drew1) | exact HL.out)) hb; clear HL hs_ hb; have HL := Aside0.mk (Below.refl w4.heap.size w4)) | (go_at_call 14; (with_reducible refine (add_c HBI.out HA.out _ _ E2.out).mono ?_); rintro e w5 ⟨rfl, hb⟩; have n0_ := Aside0.mk (below_step (by repeat (first | (with_reducible first | exact HB.out | apply below_alloc | apply pw_below_drewN | apply below_drew1) | exact HB.out)) hb); clear HB; have HB := n0_; clear n0_; have hs_ := below_step (by repeat (first | (with_reducible first | exact HL.out | apply below_alloc | apply pw_below_drewN | apply below_drew1) | exact HL.out)) hb; clear HL hs_ hb; have HL := Aside0.mk (Below.refl w5.heap.size w5)) | (go_at_call 16; (with_reducible refine (sub_c HA.out HBI.out _ _ E3.out).mono ?_); rintro e w6 ⟨rfl, hb⟩; have n0_ := Aside0.mk (below_step (by repeat (first | (with_reducible first | exact HB.out | apply below_alloc | apply pw_below_drewN | apply below_drew1) | exact HB.out)) hb); clear HB; have HB := n0_; clear n0_; have hs_ := below_step (by repeat (first | (with_reducible first | exact HL.out | apply below_alloc | apply pw_below_drewN | apply below_drew1) | exact HL.out)) hb; clear HL hs_ hb; have HL := Aside0.mk (Below.refl w6.heap.size w6)) | (go_at_call 16; (with_reducible refine (sub_c in0 HBI.out _ _ E4.out).mono ?_); rintro e w7 ⟨rfl, hb⟩; have n0_ := Aside0.mk (below_step (by repeat (first | (with_reducible first | exact HB.out | apply below_alloc | apply pw_below_drewN | apply below_drew1) | exact HB.out)) hb); clear HB; have HB := n0_; clear n0_; have hs_ := below_step (by repeat (first | (with_reducible first | exact HL.out | apply below_alloc | apply pw_below_drewN | apply below_drew1) | exact HL.out)) hb; clear HL hs_ hb; have HL := Aside0.mk (Below.refl w7.heap.size w7)) | (go_at_call 14; (with_reducible refine (add_c HTI.out HBI.out _ _ E5.out).mono ?_); rintro e w8 ⟨rfl, hb⟩; have n0_ := Aside0.mk (below_step (by repeat (first | (with_reducible first | exact HB.out | apply below_alloc | apply pw_below_drewN | apply below_drew1) | exact HB.out)) hb); clear HB; have HB := n0_; clear n0_; have hs_ := below_step (by repeat (first | (with_reducible first | exact HL.out | apply below_alloc | apply pw_below_drewN | apply below_drew1) | exact HL.out)) hb; clear HL hs_ hb; have HL := Aside0.mk (Below.refl w8.heap.size w8)))
        all_goals (try (exfalso; omega))
        all_goals go_ret
        all_goals exact ⟨rfl, (by repeat (first | (with_reducible first | exact HB.out | apply below_alloc | apply pw_below_drewN | apply below_drew1) | exact HB.out))⟩
      · have e1 : okF (a + b) = (0, false) := by unfold okF; rw [if_neg hs]
        have e2 : okF (b + a) = (0, false) := by rw [Int.add_comm]; exact e1
        have e3 : okF (a - b) = (0, false) := by unfold okF; rw [if_neg hd]
        obtain ⟨⟨s4, o4⟩, e4⟩ : ∃ p, okF (0 - b) = p := ⟨_, rfl⟩
        have e5 : okF (0 + b) = (b, true) := by rw [Int.zero_add]; unfold okF; rw [if_pos hb]
        have E1 := Aside0.mk e1
        have E2 := Aside0.mk e2
        have E3 := Aside0.mk e3
        have E4 := Aside0.mk e4
        have E5 := Aside0.mk e5
        clear e1 e2 e3 e4 e5
        have HS := hs
        have HD := hd
        unfold InI at hs hd ha hb
        have HA := Aside0.mk (show InI a from ha)
        have HBI := Aside0.mk (show InI b from hb)
        clear HS HD
        have c1 : ¬a ≤ 9223372036854775807 - b := by omega
        have c2 : ¬-9223372036854775808 + b ≤ a := by omega
        go_wp2_with (first | (go_at_call 14; (with_reducible refine (add_c HA.out HBI.out _ _ E1.out).mono ?_); rintro e w4 ⟨rfl, hb⟩; have n0_ := Aside0.mk (below_step (by repeat (first | (with_reducible first | exact HB.out | apply below_alloc | apply pw_below_drewN | apply below_drew1) | exact HB.out)) hb); clear HB; have HB := n0_; clear n0_; have hs_ := below_step (by repeat (first | (with_reducible first | exact HL.out | apply below_alloc | apply pw_below_drewN | apply below_drew1) | exact HL.out)) hb; clear HL hs_ hb; have HL := Aside0.mk (Below.refl w4.heap.size w4)) | (go_at_call 14; (with_reducible refine (add_c HBI.out HA.out _ _ E2.out).mono ?_); rintro e w5 ⟨rfl, hb⟩; have n0_ := Aside0.mk (below_step (by repeat (first | (with_reducible first | exact HB.out | apply below_alloc | apply pw_below_drewN | apply below_drew1) | exact HB.out)) hb); clear HB; have HB := n0_; clear n0_; have hs_ := below_step (by repeat (first | (with_reducible first | exact HL.out | apply below_alloc | apply pw_below_drewN | apply below_drew1) | exact HL.out)) hb; clear HL hs_ hb; have HL := Aside0.mk (Below.refl w5.heap.size w5)) | (go_at_call 16; (with_reducible refine (sub_c HA.out HBI.out _ _ E3.out).mono ?_); rintro e w6 ⟨rfl, hb⟩; have n0_ := Aside0.mk (below_step (by repeat (first | (with_reducible first | exact HB.out | apply below_alloc | apply pw_below_drewN | apply below_drew1) | exact HB.out)) hb); clear HB; have HB := n0_; clear n0_; have hs_ := below_step (by repeat (first | (with_reducible first | exact HL.out | apply below_alloc | apply pw_below_drewN | apply below_drew1) | exact HL.out)) hb; clear HL hs_ hb; have HL := Aside0.mk (Below.refl w6.heap.size w6)) | (go_at_call 16; (with_reducible refine (sub_c in0 HBI.out _ _ E4.out).mono ?_); rintro e w7 ⟨rfl, hb⟩; have n0_ := Aside0.mk (below_step (by repeat (first | (with_reducible first | exact HB.out | apply below_alloc | apply pw_below_drewN | apply below_drew1) | exact HB.out)) hb); clear HB; have HB := n0_; clear n0_; have hs_ := below_step (by repeat (first | (with_reducible first | exact HL.out | apply below_alloc | apply pw_below_drewN | apply below_drew1) | exact HL.out)) hb; clear HL hs_ hb; have HL := Aside0.mk (Below.refl w7.heap.size w7)) | (go_at_call 14; (with_reducible refine (add_c in0 HBI.out _ _ E5.out).mono ?_); rintro e w8 ⟨rfl, hb⟩; have n0_ := Aside0.mk (below_step (by repeat (first | (with_reducible first | exact HB.out | apply below_alloc | apply pw_below_drewN | apply below_drew1) | exact HB.out)) hb); clear HB; have HB := n0_; clear n0_; have hs_ := below_step (by repeat (first | (with_reducible first | exact HL.out | apply below_alloc | apply pw_below_drewN | apply below_drew1) | exact HL.out)) hb; clear HL hs_ hb; have HL := Aside0.mk (Below.refl w8.heap.size w8)))
        all_goals (try (exfalso; omega))
        all_goals go_ret
        all_goals exact ⟨rfl, (by repeat (first | (with_reducible first | exact HB.out | apply below_alloc | apply pw_below_drewN | apply below_drew1) | exact HB.out))⟩
  · by_cases hs : InI (a + b)
    · by_cases hd : InI (a - b)
      · have e1 : okF (a + b) = (a + b, true) := by unfold okF; rw [if_pos hs]
        have e2 : okF (b + a) = (a + b, true) := by rw [Int.add_comm]; exact e1
        have e3 : okF (a - b) = (a - b, true) := by unfold okF; rw [if_pos hd]
        obtain ⟨s, hs_⟩ : ∃ s, a + b = s := ⟨_, rfl⟩
        rw [hs_] at hs
        have e1 : okF (a + b) = (s, true) := by rw [e1, hs_]
        have e2 : okF (b + a) = (s, true) := by rw [e2, hs_]
        have e4 : okF (s - b) = (a, true) := by rw [← hs_, Int.add_sub_cancel]; unfold okF; rw [if_pos ha]
        obtain ⟨t, ht_⟩ : ∃ t, a - b = t := ⟨_, rfl⟩
        rw [ht_] at hd
        have e3 : okF (a - b) = (t, true) := by rw [e3, ht_]
        have e5 : okF (t + b) = (a, true) := by rw [← ht_, Int.sub_add_cancel]; unfold okF; rw [if_pos ha]
        have E1 := Aside0.mk e1
        have E2 := Aside0.mk e2
        have E3 := Aside0.mk e3
        have E4 := Aside0.mk e4
        have E5 := Aside0.mk e5
        clear e1 e2 e3 e4 e5
        have HS := hs
        have HD := hd
        unfold InI at hs hd ha hb
        have HA := Aside0.mk (show InI a from ha)
        have HBI := Aside0.mk (show InI b from hb)
        have HSI := Aside0.mk (show InI s from hs)
        have HTI := Aside0.mk (show InI t from hd)
        clear HS HD
        have c1 : -9223372036854775808 - b ≤ a := by omega
        have c2 : a ≤ 9223372036854775807 + b := by omega
        go_wp2_with (first | (go_at_call 14; (with_reducible refine (add_c HA.out HBI.out _ _ E1.out).mono ?_); rintro e w4 ⟨rfl, hb⟩; have n0_ := Aside0.mk (below_step (by repeat (first | (with_reducible first | exact HB.out | apply below_alloc | apply pw_below_drewN | apply below_drew1) | exact HB.out)) hb); clear HB; have HB := n0_; clear n0_; have hs_ := below_step (by repeat (first | (with_reducible first | exact HL.out | apply below_alloc | apply pw_below_drewN | apply below_drew1) | exact HL.out)) hb; clear HL hs_ hb; have HL := Aside0.mk (Below.refl w4.heap.size w4)) | (go_at_call 14; (with_reducible refine (add_c HBI.out HA.out _ _ E2.out).mono ?_); rintro e w5 ⟨rfl, hb⟩; have n0_ := Aside0.mk (below_step (by repeat (first | (with_reducible first | exact HB.out | apply below_alloc | apply pw_below_drewN | apply below_drew1) | exact HB.out)) hb); clear HB; have HB := n0_; clear n0_; have hs_ := below_step (by repeat (first | (with_reducible first | exact HL.out | apply below_alloc | apply pw_below_drewN | apply below_drew1) | exact HL.out)) hb; clear HL hs_ hb; have HL := Aside0.mk (Below.refl w5.heap.size w5)) | (go_at_call 16; (with_reducible refine (sub_c HA.out HBI.out _ _ E3.out).mono ?_); rintro e w6 ⟨rfl, hb⟩; have n0_ := Aside0.mk (below_step (by repeat (first | (with_reducible first | exact HB.out | apply below_alloc | apply pw_below_drewN | apply below_drew1) | exact HB.out)) hb); clear HB; have HB := n0_; clear n0_; have hs_ := below_step (by repeat (first | (with_reducible first | exact HL.out | apply below_alloc | apply pw_below_drewN | apply below_drew1) | exact HL.out)) hb; clear HL hs_ hb; have HL := Aside0.mk (Below.refl w6.heap.size w6)) | (go_at_call 16; (with_reducible refine (sub_c HSI.out HBI.out _ _ E4.out).mono ?_); rintro e w7 ⟨rfl, hb⟩; have n0_ := Aside0.mk (below_step (by repeat (first | (with_reducible first | exact HB.out | apply below_alloc | apply pw_below_drewN | apply below_drew1) | exact HB.out)) hb); clear HB; have HB := n0_; clear n0_; have hs_ := below_step (by repeat (first | (with_reducible first | exact HL.out | apply below_alloc | apply pw_below_drewN | apply below_drew1) | exact HL.out)) hb; clear HL hs_ hb; have HL := Aside0.mk (Below.refl w7.heap.size w7)) | (go_at_call 14; (with_reducible refine (add_c HTI.out HBI.out _ _ E5.out).mono ?_); rintro e w8 ⟨rfl, hb⟩; have n0_ := Aside0.mk (below_step (by repeat (first | (with_reducible first | exact HB.out | apply below_alloc | apply pw_below_drewN | apply below_drew1) | exact HB.out)) hb); clear HB; have HB := n0_; clear n0_; have hs_ := below_step (by repeat (first | (with_reducible first | exact HL.out | apply below_alloc | apply pw_below_drewN | apply below_drew1) | exact HL.out)) hb; clear HL hs_ hb; have HL := Aside0.mk (Below.refl w8.heap.size w8)))
        all_goals (try (exfalso; omega))
        all_goals go_ret
        all_goals exact ⟨rfl, (by repeat (first | (with_reducible first | exact HB.out | apply below_alloc | apply pw_below_drewN | apply below_drew1) | exact HB.out))⟩
      · have e1 : okF (a + b) = (a + b, true) := by unfold okF; rw [if_pos hs]
        have e2 : okF (b + a) = (a + b, true) := by rw [Int.add_comm]; exact e1
        have e3 : okF (a - b) = (0, false) := by unfold okF; rw [if_neg hd]
        obtain ⟨s, hs_⟩ : ∃ s, a + b = s := ⟨_, rfl⟩
        rw [hs_] at hs
        have e1 : okF (a + b) = (s, true) := by rw [e1, hs_]
        have e2 : okF (b + a) = (s, true) := by rw [e2, hs_]
        have e4 : okF (s - b) = (a, true) := by rw [← hs_, Int.add_sub_cancel]; unfold okF; rw [if_pos ha]
        have e5 : okF (0 + b) = (b, true) := by rw [Int.zero_add]; unfold okF; rw [if_pos hb]
        have E1 := Aside0.mk e1
        have E2 := Aside0.mk e2
        have E3 := Aside0.mk e3
        have E4 := Aside0.mk e4
        have E5 := Aside0.mk e5
        clear e1 e2 e3 e4 e5
        have HS := hs
        have HD := hd
        unfold InI at hs hd ha hb
        have HA := Aside0.mk (show InI a from ha)
        have HBI := Aside0.mk (show InI b from hb)
        have HSI := Aside0.mk (show InI s from hs)
        clear HS HD
        have c1 : -9223372036854775808 - b ≤ a := by omega
        have c2 : ¬a ≤ 9223372036854775807 + b := by omega
        go_wp2_with (first | (go_at_call 14; (with_reducible refine (add_c HA.out HBI.out _ _ E1.out).mono ?_); rintro e w4 ⟨rfl, hb⟩; have n0_ := Aside0.mk (below_step (by repeat (first | (with_reducible first | exact HB.out | apply below_alloc | apply pw_below_drewN | apply below_drew1) | exact HB.out)) hb); clear HB; have HB := n0_; clear n0_; have hs_ := below_step (by repeat (first | (with_reducible first | exact HL.out | apply below_alloc | apply pw_below_drewN | apply below_drew1) | exact HL.out)) hb; clear HL hs_ hb; have HL := Aside0.mk (Below.refl w4.heap.size w4)) | (go_at_call 14; (with_reducible refine (add_c HBI.out HA.out _ _ E2.out).mono ?_); rintro e w5 ⟨rfl, hb⟩; have n0_ := Aside0.mk (below_step (by repeat (first | (with_reducible first | exact HB.out | apply below_alloc | apply pw_below_drewN | apply below_drew1) | exact HB.out)) hb); clear HB; have HB := n0_; clear n0_; have hs_ := below_step (by repeat (first | (with_reducible first | exact HL.out | apply below_alloc | apply pw_below_drewN | apply below_drew1) | exact HL.out)) hb; clear HL hs_ hb; have HL := Aside0.mk (Below.refl w5.heap.size w5)) | (go_at_call 16; (with_reducible refine (sub_c HA.out HBI.out _ _ E3.out).mono ?_); rintro e w6 ⟨rfl, hb⟩; have n0_ := Aside0.mk (below_step (by repeat (first | (with_reducible first | exact HB.out | apply below_alloc | apply pw_below_drewN | apply below_drew1) | exact HB.out)) hb); clear HB; have HB := n0_; clear n0_; have hs_ := below_step (by repeat (first | (with_reducible first | exact HL.out | apply below_alloc | apply pw_below_drewN | apply below_drew1) | exact HL.out)) hb; clear HL hs_ hb; have HL := Aside0.mk (Below.refl w6.heap.size w6)) | (go_at_call 16; (with_reducible refine (sub_c HSI.out HBI.out _ _ E4.out).mono ?_); rintro e w7 ⟨rfl, hb⟩; have n0_ := Aside0.mk (below_step (by repeat (first | (with_reducible first | exact HB.out | apply below_alloc | apply pw_below_drewN | apply below_drew1) | exact HB.out)) hb); clear HB; have HB := n0_; clear n0_; have hs_ := below_step (by repeat (first | (with_reducible first | exact HL.out | apply below_alloc | apply pw_below_drewN | apply below_drew1) | exact HL.out)) hb; clear HL hs_ hb; have HL := Aside0.mk (Below.refl w7.heap.size w7)) | (go_at_call 14; (with_reducible refine (add_c in0 HBI.out _ _ E5.out).mono ?_); rintro e w8 ⟨rfl, hb⟩; have n0_ := Aside0.mk (below_step (by repeat (first | (with_reducible first | exact HB.out | apply below_alloc | apply pw_below_drewN | apply below_drew1) | exact HB.out)) hb); clear HB; have HB := n0_; clear n0_; have hs_ := below_step (by repeat (first | (with_reducible first | exact HL.out | apply below_alloc | apply pw_below_drewN | apply below_drew1) | exact HL.out)) hb; clear HL hs_ hb; have HL := Aside0.mk (Below.refl w8.heap.size w8)))
        all_goals (try (exfalso; omega))
        all_goals go_ret
        all_goals exact ⟨rfl, (by repeat (first | (with_reducible first | exact HB.out | apply below_alloc | apply pw_below_drewN | apply below_drew1) | exact HB.out))⟩
    · by_cases hd : InI (a - b)
      · have e1 : okF (a + b) = (0, false) := by unfold okF; rw [if_neg hs]
        have e2 : okF (b + a) = (0, false) := by rw [Int.add_comm]; exact e1
        have e3 : okF (a - b) = (a - b, true) := by unfold okF; rw [if_pos hd]
        obtain ⟨⟨s4, o4⟩, e4⟩ : ∃ p, okF (0 - b) = p := ⟨_, rfl⟩
        obtain ⟨t, ht_⟩ : ∃ t, a - b = t := ⟨_, rfl⟩
        rw [ht_] at hd
        have e3 : okF (a - b) = (t, true) := by rw [e3, ht_]
        have e5 : okF (t + b) = (a, true) := by rw [← ht_, Int.sub_add_cancel]; unfold okF; rw [if_pos ha]
        have E1 := Aside0.mk e1
        have E2 := Aside0.mk e2
        have E3 := Aside0.mk e3
        have E4 := Aside0.mk e4
        have E5 := Aside0.mk e5
        clear e1 e2 e3 e4 e5
        have HS := hs
        have HD := hd
        unfold InI at hs hd ha hb
        have HA := Aside0.mk (show InI a from ha)
        have HBI := Aside0.mk (show InI b from hb)
        have HTI := Aside0.mk (show InI t from hd)
        clear HS HD
        have c1 : ¬-9223372036854775808 - b ≤ a := by omega
        have c2 : a ≤ 9223372036854775807 + b := by omega
        go_wp2_with (first | (go_at_call 14; (with_reducible refine (add_c HA.out HBI.out _ _ E1.out).mono ?_); rintro e w4 ⟨rfl, hb⟩; have n0_ := Aside0.mk (below_step (by repeat (first | (with_reducible first | exact HB.out | apply below_alloc | apply pw_below_drewN | apply below_drew1) | exact HB.out)) hb); clear HB; have HB := n0_; clear n0_; have hs_ := below_step (by repeat (first | (with_reducible first | exact HL.out | apply below_alloc | apply pw_below_drewN | apply below_drew1) | exact HL.out)) hb; clear HL hs_ hb; have HL := Aside0.mk (Below.refl w4.heap.size w4)) | (go_at_call 14; (with_reducible refine (add_c HBI.out HA.out _ _ E2.out).mono ?_); rintro e w5 ⟨rfl, hb⟩; have n0_ := Aside0.mk (below_step (by repeat (first | (with_reducible first | exact HB.out | apply below_alloc | apply pw_below_drewN | apply below_drew1) | exact HB.out)) hb); clear HB; have HB := n0_; clear n0_; have hs_ := below_step (by repeat (first | (with_reducible first | exact HL.out | apply below_alloc | apply pw_below_drewN | apply below_drew1) | exact HL.out)) hb; clear HL hs_ hb; have HL := Aside0.mk (Below.refl w5.heap.size w5)) | (go_at_call 16; (with_reducible refine (sub_c HA.out HBI.out _ _ E3.out).mono ?_); rintro e w6 ⟨rfl, hb⟩; have n0_ := Aside0.mk (below_step (by repeat (first | (with_reducible first | exact HB.out | apply below_alloc | apply pw_below_drewN | apply below_drew1) | exact HB.out)) hb); clear HB; have HB := n0_; clear n0_; have hs_ := below_step (by repeat (first | (with_reducible first | exact HL.out | apply below_alloc | apply pw_below_drewN | apply below_drew1) | exact HL.out)) hb; clear HL hs_ hb; have HL := Aside0.mk (Below.refl w6.heap.size w6)) | (go_at_call 16; (with_reducible refine (sub_c in0 HBI.out _ _ E4.out).mono ?_); rintro e w7 ⟨rfl, hb⟩; have n0_ := Aside0.mk (below_step (by repeat (first | (with_reducible first | exact HB.out | apply below_alloc | apply pw_below_drewN | apply below_drew1) | exact HB.out)) hb); clear HB; have HB := n0_; clear n0_; have hs_ := below_step (by repeat (first | (with_reducible first | exact HL.out | apply below_alloc | apply pw_below_drewN | apply below_drew1) | exact HL.out)) hb; clear HL hs_ hb; have HL := Aside0.mk (Below.refl w7.heap.size w7)) | (go_at_call 14; (with_reducible refine (add_c HTI.out HBI.out _ _ E5.out).mono ?_); rintro e w8 ⟨rfl, hb⟩; have n0_ := Aside0.mk (below_step (by repeat (first | (with_reducible first | exact HB.out | apply below_alloc | apply pw_below_drewN | apply below_drew1) | exact HB.out)) hb); clear HB; have HB := n0_; clear n0_; have hs_ := below_step (by repeat (first | (with_reducible first | exact HL.out | apply below_alloc | apply pw_below_drewN | apply below_drew1) | exact HL.out)) hb; clear HL hs_ hb; have HL := Aside0.mk (Below.refl w8.heap.size w8)))
        all_goals (try (exfalso; omega))
        all_goals go_ret
        all_goals exact ⟨rfl, (by repeat (first | (with_reducible first | exact HB.out | apply below_alloc | apply pw_below_drewN | apply below_drew1) | exact HB.out))⟩
      · have e1 : okF (a + b) = (0, false) := by unfold okF; rw [if_neg hs]
        have e2 : okF (b + a) = (0, false) := by rw [Int.add_comm]; exact e1
        have e3 : okF (a - b) = (0, false) := by unfold okF; rw [if_neg hd]
        obtain ⟨⟨s4, o4⟩, e4⟩ : ∃ p, okF (0 - b) = p := ⟨_, rfl⟩
        have e5 : okF (0 + b) = (b, true) := by rw [Int.zero_add]; unfold okF; rw [if_pos hb]
        have E1 := Aside0.mk e1
        have E2 := Aside0.mk e2
        have E3 := Aside0.mk e3
        have E4 := Aside0.mk e4
        have E5 := Aside0.mk e5
        clear e1 e2 e3 e4 e5
        have HS := hs
        have HD := hd
        unfold InI at hs hd ha hb
        have HA := Aside0.mk (show InI a from ha)
        have HBI := Aside0.mk (show InI b from hb)
        clear HS HD
        have c1 : ¬-9223372036854775808 - b ≤ a := by omega
        have c2 : ¬a ≤ 9223372036854775807 + b := by omega
        go_wp2_with (first | (go_at_call 14; (with_reducible refine (add_c HA.out HBI.out _ _ E1.out).mono ?_); rintro e w4 ⟨rfl, hb⟩; have n0_ := Aside0.mk (below_step (by repeat (first | (with_reducible first | exact HB.out | apply below_alloc | apply pw_below_drewN | apply below_drew1) | exact HB.out)) hb); clear HB; have HB := n0_; clear n0_; have hs_ := below_step (by repeat (first | (with_reducible first | exact HL.out | apply below_alloc | apply pw_below_drewN | apply below_drew1) | exact HL.out)) hb; clear HL hs_ hb; have HL := Aside0.mk (Below.refl w4.heap.size w4)) | (go_at_call 14; (with_reducible refine (add_c HBI.out HA.out _ _ E2.out).mono ?_); rintro e w5 ⟨rfl, hb⟩; have n0_ := Aside0.mk (below_step (by repeat (first | (with_reducible first | exact HB.out | apply below_alloc | apply pw_below_drewN | apply below_drew1) | exact HB.out)) hb); clear HB; have HB := n0_; clear n0_; have hs_ := below_step (by repeat (first | (with_reducible first | exact HL.out | apply below_alloc | apply pw_below_drewN | apply below_drew1) | exact HL.out)) hb; clear HL hs_ hb; have HL := Aside0.mk (Below.refl w5.heap.size w5)) | (go_at_call 16; (with_reducible refine (sub_c HA.out HBI.out _ _ E3.out).mono ?_); rintro e w6 ⟨rfl, hb⟩; have n0_ := Aside0.mk (below_step (by repeat (first | (with_reducible first | exact HB.out | apply below_alloc | apply pw_below_drewN | apply below_drew1) | exact HB.out)) hb); clear HB; have HB := n0_; clear n0_; have hs_ := below_step (by repeat (first | (with_reducible first | exact HL.out | apply below_alloc | apply pw_below_drewN | apply below_drew1) | exact HL.out)) hb; clear HL hs_ hb; have HL := Aside0.mk (Below.refl w6.heap.size w6)) | (go_at_call 16; (with_reducible refine (sub_c in0 HBI.out _ _ E4.out).mono ?_); rintro e w7 ⟨rfl, hb⟩; have n0_ := Aside0.mk (below_step (by repeat (first | (with_reducible first | exact HB.out | apply below_alloc | apply pw_below_drewN | apply below_drew1) | exact HB.out)) hb); clear HB; have HB := n0_; clear n0_; have hs_ := below_step (by repeat (first | (with_reducible first | exact HL.out | apply below_alloc | apply pw_below_drewN | apply below_drew1) | exact HL.out)) hb; clear HL hs_ hb; have HL := Aside0.mk (Below.refl w7.heap.size w7)) | (go_at_call 14; (with_reducible refine (add_c in0 HBI.out _ _ E5.out).mono ?_); rintro e w8 ⟨rfl, hb⟩; have n0_ := Aside0.mk (below_step (by repeat (first | (with_reducible first | exact HB.out | apply below_alloc | apply pw_below_drewN | apply below_drew1) | exact HB.out)) hb); clear HB; have HB := n0_; clear n0_; have hs_ := below_step (by repeat (first | (with_reducible first | exact HL.out | apply below_alloc | apply pw_below_drewN | apply below_drew1) | exact HL.out)) hb; clear HL hs_ hb; have HL := Aside0.mk (Below.refl w8.heap.size w8)))
        all_goals (try (exfalso; omega))
        all_goals go_ret
        all_goals exact ⟨rfl, (by repeat (first | (with_reducible first | exact HB.out | apply below_alloc | apply pw_below_drewN | apply below_drew1) | exact HB.out))⟩
theorem in_i64 {n : Int} (h : (Lit.int .i64 n).wf = true) : InI n := by
  simp [Lit.wf, IntKind.min, IntKind.max, IntKind.signed, IntKind.bits] at h
  unfold InI
  omega
theorem in_u8 {n : Int} (h : (Lit.int .u8 n).wf = true) : 0 ≤ n ∧ n ≤ 255 := by
  simp [Lit.wf, IntKind.min, IntKind.max, IntKind.signed, IntKind.bits] at h
  omega
theorem ValueSums_walk (a0 a1 a2 a3 : Int) (W : World) (w0 : (Lit.int .i64 a0).wf = true) (w1 : (Lit.int .i64 a1).wf = true) (w2 : (Lit.int .u8 a2).wf = true) (w3 : (Lit.int .u8 a3).wf = true) :
    Calls Tryd.prog 4 #[.int .i64 a0, .int .i64 a1, .int .u8 a2, .int .u8 a3] W fun e W' => e = .returned (.bool true) ∧ Below W.heap.size W W' :=
  sums_walk a0 a1 a2 a3 (in_i64 w0) (in_i64 w1) (in_u8 w2).1 (in_u8 w2).2 (in_u8 w3).1 (in_u8 w3).2
end Go.Proofs.YtimmomhgljofnaaDoor.Hand
