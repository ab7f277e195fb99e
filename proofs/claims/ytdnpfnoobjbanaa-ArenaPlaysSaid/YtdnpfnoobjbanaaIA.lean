/- ArenaPlays: its walk. -/
import Derived.Test.YtdnpfnoobjbanaaI8
import Derived.Test.YtdnpfnoobjbanaaI9
set_option linter.unusedVariables false
set_option linter.unusedSimpArgs false
namespace Go.Proofs.Ytdnpfnoobjbanaa.Hand
open Go.RowKit Go.Proofs.Ytdnpfnoobjbanaa.PArenaPlays Go.Proofs.YtdnpfnoobjbanaaW.PrintWords Go.Proofs.YtdnpfnoobjbanaaW.PrintLast Go.Proofs.YtdnpfnoobjbanaaW.PrintMore
set_option maxHeartbeats 1000000 in
set_option maxRecDepth 100000 in
theorem plays_badF (a0 L : Int) (A : Option Addr) (l c : Nat) (w : World) (h0 : L < 0 ∨ 16777216 < L) (ha0 : -9223372036854775808 ≤ a0) (ha1 : a0 ≤ 9223372036854775807) (hL : a0 = L) : Calls Try.prog 7 #[.int .i64 a0, .bool false, .slice A l c] w fun e w' => e = .returned (.bool true) ∧ Below w.heap.size w w' := by
  have hL2 := hL.symm
  clear hL
  subst hL2
  have HB := Aside0.mk (Below.refl w.heap.size w)
  have HL := Aside0.mk (Below.refl w.heap.size w)
  go_enter Try.func7, Try.ntmps7
  go_wp2_with (first | (go_at_call 10; (with_reducible refine (examples_c _).mono ?_); rintro e w1 ⟨rfl, hb⟩; have n0_ := Aside0.mk (below_step (by repeat (first | (with_reducible first | exact HB.out | apply below_alloc | apply pw_below_drewN | apply below_drew1) | exact HB.out)) hb); clear HB; have HB := n0_; clear n0_; have hs_ := below_step (by repeat (first | (with_reducible first | exact HL.out | apply below_alloc | apply pw_below_drewN | apply below_drew1) | exact HL.out)) hb; have hg := below_size HB.out; clear HL hs_ hb; have HL := Aside0.mk (Below.refl w1.heap.size w1)) | (go_at_call 11; (with_reducible refine (anew_no L _ h0).mono ?_); rintro e w2 ⟨rfl, hb⟩; have n0_ := Aside0.mk (below_step (by repeat (first | (with_reducible first | exact HB.out | apply below_alloc | apply pw_below_drewN | apply below_drew1) | exact HB.out)) hb); clear HB; have HB := n0_; clear n0_; have hs_ := below_step (by repeat (first | (with_reducible first | exact HL.out | apply below_alloc | apply pw_below_drewN | apply below_drew1) | exact HL.out)) hb; clear HL hs_ hb; have HL := Aside0.mk (Below.refl w2.heap.size w2)) | (go_at_call 21; (with_reducible refine (rnew_no L _ h0).mono ?_); rintro e w3 ⟨rfl, hb⟩; have n0_ := Aside0.mk (below_step (by repeat (first | (with_reducible first | exact HB.out | apply below_alloc | apply pw_below_drewN | apply below_drew1) | exact HB.out)) hb); clear HB; have HB := n0_; clear n0_; have hs_ := below_step (by repeat (first | (with_reducible first | exact HL.out | apply below_alloc | apply pw_below_drewN | apply below_drew1) | exact HL.out)) hb; clear HL hs_ hb; have HL := Aside0.mk (Below.refl w3.heap.size w3)))
  go_ret
  exact ⟨rfl, (by repeat (first | (with_reducible first | exact HB.out | apply below_alloc | apply pw_below_drewN | apply below_drew1) | exact HB.out))⟩
set_option maxHeartbeats 1000000 in
set_option maxRecDepth 100000 in
theorem plays_badN (a0 L : Int) (A : Option Addr) (l c : Nat) (w : World) (h0 : L < 0 ∨ 16777216 < L) (ha0 : -9223372036854775808 ≤ a0) (ha1 : a0 ≤ 9223372036854775807) (hL : a0.tmod 600 = L) : Calls Try.prog 7 #[.int .i64 a0, .bool true, .slice A l c] w fun e w' => e = .returned (.bool true) ∧ Below w.heap.size w w' := by
  have HB := Aside0.mk (Below.refl w.heap.size w)
  have HL := Aside0.mk (Below.refl w.heap.size w)
  go_enter Try.func7, Try.ntmps7
  go_wp2_with (first | (go_at_call 10; (with_reducible refine (examples_c _).mono ?_); rintro e w1 ⟨rfl, hb⟩; have n0_ := Aside0.mk (below_step (by repeat (first | (with_reducible first | exact HB.out | apply below_alloc | apply pw_below_drewN | apply below_drew1) | exact HB.out)) hb); clear HB; have HB := n0_; clear n0_; have hs_ := below_step (by repeat (first | (with_reducible first | exact HL.out | apply below_alloc | apply pw_below_drewN | apply below_drew1) | exact HL.out)) hb; have hg := below_size HB.out; clear HL hs_ hb; have HL := Aside0.mk (Below.refl w1.heap.size w1)) | (go_at_call 11; (with_reducible refine (anew_no L _ h0).mono ?_); rintro e w2 ⟨rfl, hb⟩; have n0_ := Aside0.mk (below_step (by repeat (first | (with_reducible first | exact HB.out | apply below_alloc | apply pw_below_drewN | apply below_drew1) | exact HB.out)) hb); clear HB; have HB := n0_; clear n0_; have hs_ := below_step (by repeat (first | (with_reducible first | exact HL.out | apply below_alloc | apply pw_below_drewN | apply below_drew1) | exact HL.out)) hb; clear HL hs_ hb; have HL := Aside0.mk (Below.refl w2.heap.size w2)) | (go_at_call 21; (with_reducible refine (rnew_no L _ h0).mono ?_); rintro e w3 ⟨rfl, hb⟩; have n0_ := Aside0.mk (below_step (by repeat (first | (with_reducible first | exact HB.out | apply below_alloc | apply pw_below_drewN | apply below_drew1) | exact HB.out)) hb); clear HB; have HB := n0_; clear n0_; have hs_ := below_step (by repeat (first | (with_reducible first | exact HL.out | apply below_alloc | apply pw_below_drewN | apply below_drew1) | exact HL.out)) hb; clear HL hs_ hb; have HL := Aside0.mk (Below.refl w3.heap.size w3)))
  go_ret
  exact ⟨rfl, (by repeat (first | (with_reducible first | exact HB.out | apply below_alloc | apply pw_below_drewN | apply below_drew1) | exact HB.out))⟩
set_option maxHeartbeats 4000000 in
set_option maxRecDepth 100000 in
theorem plays_far0 (a0 L : Int) (c : Nat) (w : World) (h0 : 0 ≤ L) (h1 : L ≤ 16777216) (ha0 : -9223372036854775808 ≤ a0) (ha1 : a0 ≤ 9223372036854775807) (hL : a0 = L)  : Calls Try.prog 7 #[.int .i64 a0, .bool false, .slice none 0 c] w fun e w' => e = .returned (.bool true) ∧ Below w.heap.size w w' := by
  have hL2 := hL.symm
  clear hL
  subst hL2
  have HB := Aside0.mk (Below.refl w.heap.size w)
  have HL := Aside0.mk (Below.refl w.heap.size w)
  go_enter Try.func7, Try.ntmps7
  go_wp2_with (first | (go_at_call 10; (with_reducible refine (examples_c _).mono ?_); rintro e w1 ⟨rfl, hb⟩; have n0_ := Aside0.mk (below_step (by repeat (first | (with_reducible first | exact HB.out | apply below_alloc | apply pw_below_drewN | apply below_drew1) | exact HB.out)) hb); clear HB; have HB := n0_; clear n0_; have hs_ := below_step (by repeat (first | (with_reducible first | exact HL.out | apply below_alloc | apply pw_below_drewN | apply below_drew1) | exact HL.out)) hb; have hg := below_size HB.out; clear HL hs_ hb; have HL := Aside0.mk (Below.refl w1.heap.size w1)) | (go_at_call 11; (with_reducible refine (x_new L _ h0 h1).mono ?_); rintro e w2 ⟨rfl, hA, hb⟩; have HA := Aside0.mk hA; clear hA; have n0_ := Aside0.mk (below_step (by repeat (first | (with_reducible first | exact HB.out | apply below_alloc | apply pw_below_drewN | apply below_drew1) | exact HB.out)) hb); clear HB; have HB := n0_; clear n0_; have hs_ := below_step (by repeat (first | (with_reducible first | exact HL.out | apply below_alloc | apply pw_below_drewN | apply below_drew1) | exact HL.out)) hb; have hgr := below_size HB.out; clear HL hs_ hb; have HL := Aside0.mk (Below.refl w2.heap.size w2)) | (go_at_call 21; (with_reducible refine (rnew_yes L _ h0 h1).mono ?_); rintro e w3 ⟨rfl, hR, hb⟩; have RR := Aside0.mk hR; clear hR; have n0_ := Aside0.mk (below_step (by repeat (first | (with_reducible first | exact HB.out | apply below_alloc | apply pw_below_drewN | apply below_drew1) | exact HB.out)) hb); clear HB; have HB := n0_; clear n0_; have hs_ := below_step (by repeat (first | (with_reducible first | exact HL.out | apply below_alloc | apply pw_below_drewN | apply below_drew1) | exact HL.out)) hb; have n_ := Aside0.mk (AX.below HA.out hs_); clear HA; have HA := n_; clear n_; clear HL hs_ hb; have HL := Aside0.mk (Below.refl w3.heap.size w3)))
  go_loopw [10, 11] (fun v10 v11 wr => ∃ (i : Nat) (hv : Value) (xs : List (Int × Int)) (bs : List S77) (lim : Int), hv = v10 ∧ v11 = .int .i64 i ∧ i ≤ 40 ∧ xs.length ≤ i ∧ Aside0 (Good bs) ∧ Aside0 (∀ p ∈ xs, 0 ≤ p.1 ∧ p.1 ≤ 4294967295) ∧ Aside0 (Below w.heap.size w wr) ∧ Aside0 (AX wr w1.heap.size L lim bs) ∧ Aside0 (RX wr w2.heap.size L lim bs) ∧ Aside0 (HRow wr w.heap.size hv xs)) (fun _ v _ => 40 - (intOf v).toNat)
  case atStart => exact ⟨0, _, [], [], L, rfl, rfl, by omega, Nat.le_refl _, ⟨Good.nil⟩, ⟨by simp⟩, ⟨(by repeat (first | (with_reducible first | exact HB.out | apply below_alloc | apply pw_below_drewN | apply below_drew1) | exact HB.out))⟩, ⟨HA.out.below (by repeat (first | (with_reducible first | exact HL.out | apply below_alloc | apply pw_below_drewN | apply below_drew1) | exact HL.out))⟩, ⟨RR.out.below (by repeat (first | (with_reducible first | exact HL.out | apply below_alloc | apply pw_below_drewN | apply below_drew1) | exact HL.out))⟩, ⟨HRow.none_ _ _⟩⟩
  case round =>
    clear HB HA HL RR
    obtain ⟨i, hv, xs, bs, lim, rfl, rfl, hi, hxl, HG, HX, HB, HA, RR, HS⟩ := hrel
    have HL := Aside0.mk (Below.refl wr.heap.size wr)
    obtain ⟨hA_, hc_, eh⟩ := HRow.slice HS.out
    subst eh
    go_wp2
    all_goals go_ret
    all_goals exact ⟨rfl, (by repeat (first | (with_reducible first | exact HB.out | apply below_alloc | apply pw_below_drewN | apply below_drew1) | exact HB.out))⟩
set_option maxHeartbeats 4000000 in
set_option maxRecDepth 100000 in
theorem plays_near0 (a0 L : Int) (c : Nat) (w : World) (h0 : 0 ≤ L) (h1 : L ≤ 16777216) (ha0 : -9223372036854775808 ≤ a0) (ha1 : a0 ≤ 9223372036854775807) (hL : a0.tmod 600 = L)  : Calls Try.prog 7 #[.int .i64 a0, .bool true, .slice none 0 c] w fun e w' => e = .returned (.bool true) ∧ Below w.heap.size w w' := by
  have HB := Aside0.mk (Below.refl w.heap.size w)
  have HL := Aside0.mk (Below.refl w.heap.size w)
  go_enter Try.func7, Try.ntmps7
  go_wp2_with (first | (go_at_call 10; (with_reducible refine (examples_c _).mono ?_); rintro e w1 ⟨rfl, hb⟩; have n0_ := Aside0.mk (below_step (by repeat (first | (with_reducible first | exact HB.out | apply below_alloc | apply pw_below_drewN | apply below_drew1) | exact HB.out)) hb); clear HB; have HB := n0_; clear n0_; have hs_ := below_step (by repeat (first | (with_reducible first | exact HL.out | apply below_alloc | apply pw_below_drewN | apply below_drew1) | exact HL.out)) hb; have hg := below_size HB.out; clear HL hs_ hb; have HL := Aside0.mk (Below.refl w1.heap.size w1)) | (go_at_call 11; (with_reducible refine (x_new L _ h0 h1).mono ?_); rintro e w2 ⟨rfl, hA, hb⟩; have HA := Aside0.mk hA; clear hA; have n0_ := Aside0.mk (below_step (by repeat (first | (with_reducible first | exact HB.out | apply below_alloc | apply pw_below_drewN | apply below_drew1) | exact HB.out)) hb); clear HB; have HB := n0_; clear n0_; have hs_ := below_step (by repeat (first | (with_reducible first | exact HL.out | apply below_alloc | apply pw_below_drewN | apply below_drew1) | exact HL.out)) hb; have hgr := below_size HB.out; clear HL hs_ hb; have HL := Aside0.mk (Below.refl w2.heap.size w2)) | (go_at_call 21; (with_reducible refine (rnew_yes L _ h0 h1).mono ?_); rintro e w3 ⟨rfl, hR, hb⟩; have RR := Aside0.mk hR; clear hR; have n0_ := Aside0.mk (below_step (by repeat (first | (with_reducible first | exact HB.out | apply below_alloc | apply pw_below_drewN | apply below_drew1) | exact HB.out)) hb); clear HB; have HB := n0_; clear n0_; have hs_ := below_step (by repeat (first | (with_reducible first | exact HL.out | apply below_alloc | apply pw_below_drewN | apply below_drew1) | exact HL.out)) hb; have n_ := Aside0.mk (AX.below HA.out hs_); clear HA; have HA := n_; clear n_; clear HL hs_ hb; have HL := Aside0.mk (Below.refl w3.heap.size w3)))
  go_loopw [10, 11] (fun v10 v11 wr => ∃ (i : Nat) (hv : Value) (xs : List (Int × Int)) (bs : List S77) (lim : Int), hv = v10 ∧ v11 = .int .i64 i ∧ i ≤ 40 ∧ xs.length ≤ i ∧ Aside0 (Good bs) ∧ Aside0 (∀ p ∈ xs, 0 ≤ p.1 ∧ p.1 ≤ 4294967295) ∧ Aside0 (Below w.heap.size w wr) ∧ Aside0 (AX wr w1.heap.size L lim bs) ∧ Aside0 (RX wr w2.heap.size L lim bs) ∧ Aside0 (HRow wr w.heap.size hv xs)) (fun _ v _ => 40 - (intOf v).toNat)
  case atStart => exact ⟨0, _, [], [], L, rfl, rfl, by omega, Nat.le_refl _, ⟨Good.nil⟩, ⟨by simp⟩, ⟨(by repeat (first | (with_reducible first | exact HB.out | apply below_alloc | apply pw_below_drewN | apply below_drew1) | exact HB.out))⟩, ⟨HA.out.below (by repeat (first | (with_reducible first | exact HL.out | apply below_alloc | apply pw_below_drewN | apply below_drew1) | exact HL.out))⟩, ⟨RR.out.below (by repeat (first | (with_reducible first | exact HL.out | apply below_alloc | apply pw_below_drewN | apply below_drew1) | exact HL.out))⟩, ⟨HRow.none_ _ _⟩⟩
  case round =>
    clear HB HA HL RR
    obtain ⟨i, hv, xs, bs, lim, rfl, rfl, hi, hxl, HG, HX, HB, HA, RR, HS⟩ := hrel
    have HL := Aside0.mk (Below.refl wr.heap.size wr)
    obtain ⟨hA_, hc_, eh⟩ := HRow.slice HS.out
    subst eh
    go_wp2
    all_goals go_ret
    all_goals exact ⟨rfl, (by repeat (first | (with_reducible first | exact HB.out | apply below_alloc | apply pw_below_drewN | apply below_drew1) | exact HB.out))⟩
theorem ArenaPlays_walk (a0 : Int) (near : Bool) (y : List (Int × Int × Int × Int × List Int × Int × Int)) (A : Option Addr) (c : Nat) (w : World) (w0 : (Lit.int .i64 a0).wf = true) (hl : y.length ≤ c) (hk : ∀ W', Has w W' → Kd.C (Kd.pair (Kd.int .u8) (Kd.pair (Kd.int .u8) (Kd.pair (Kd.int .u8) (Kd.pair (Kd.int .i64) (Kd.pair (Kd.slice 3 (Kd.int .i64)) (Kd.pair (Kd.int .u32) (Kd.int .u32))))))) W' A y.length y) (hg : ShortRow (Try.prog.bytesOf 53) (fun x : Int × Int × Int × Int × List Int × Int × Int => (Lit.int .u8 x.1).wf = true ∧ (Lit.int .u8 x.2.1).wf = true ∧ (Lit.int .u8 x.2.2.1).wf = true ∧ (Lit.int .i64 x.2.2.2.1).wf = true ∧ ShortRow (Try.prog.bytesOf 3) (fun n => (Lit.int .i64 n).wf = true) x.2.2.2.2.1 ∧ (Lit.int .u32 x.2.2.2.2.2.1).wf = true ∧ (Lit.int .u32 x.2.2.2.2.2.2).wf = true) y) :
    Calls Try.prog 7 #[.int .i64 a0, .bool near, .slice A y.length c] w fun e w' => e = .returned (.bool true) ∧ Below w.heap.size w w' := by
  obtain ⟨n0, n1⟩ := Go.bounds_i64 w0
  have e1 : Try.prog.bytesOf 53 = 48 := by kernel_rfl
  have hlm := hg.1
  rw [e1] at hlm
  have hlm2 : y.length ≤ 140737488351232 := by omega
  have main : ∀ L : Int, (if near then a0.tmod 600 else a0) = L → Calls Try.prog 7 #[.int .i64 a0, .bool near, .slice A y.length c] w fun e w' => e = .returned (.bool true) ∧ Below w.heap.size w w' := by
    intro L hL
    by_cases hc : 0 ≤ L ∧ L ≤ 16777216
    · rcases A with _ | ad
      · have hy : y.length = 0 := by
          rcases Nat.eq_zero_or_pos y.length with h | h
          · exact h
          · obtain ⟨ad, e, _⟩ := (hk w (Has.refl w)).2.2 h
            exact absurd e (by simp)
        rw [hy]
        cases near
        · exact plays_far0 a0 L c w hc.1 hc.2 n0 n1 hL
        · exact plays_near0 a0 L c w hc.1 hc.2 n0 n1 hL
      · have HK := Aside0.mk (fun i hi => deed_at hk hg i hi)
        cases near
        · exact plays_far a0 L ad y.length c w hc.1 hc.2 n0 n1 hL hlm2 HK
        · exact plays_near a0 L ad y.length c w hc.1 hc.2 n0 n1 hL hlm2 HK
    · have hc' : L < 0 ∨ 16777216 < L := by omega
      cases near
      · exact plays_badF a0 L A y.length c w hc' n0 n1 hL
      · exact plays_badN a0 L A y.length c w hc' n0 n1 hL
  exact main _ rfl
end Go.Proofs.Ytdnpfnoobjbanaa.Hand
