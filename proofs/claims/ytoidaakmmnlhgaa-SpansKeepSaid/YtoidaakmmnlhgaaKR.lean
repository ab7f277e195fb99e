/- Intervals: the chapter's examples. -/
import Derived.Test.YtoidaakmmnlhgaaKQ
import Derived.Deep.RegionLaw
import Derived.Deep.DeepCutAuto
import Derived.Deep.CutBlock
set_option linter.unusedVariables false
set_option linter.unusedSimpArgs false
namespace Go.Proofs.Ytoidaakmmnlhgaa.Hand
open Go.RowKit Go.Proofs.YtoidaakmmnlhgaaW.PrintWords Go.Proofs.YtoidaakmmnlhgaaW.PrintLast Go.Proofs.YtoidaakmmnlhgaaW.PrintMore
theorem add_n {W : World} {A : Option Addr} {n c : Nat} {L : List Iv} (hr : Kd.C kI W A n L) (hc : n ≤ c) (hlm : n ≤ 140737488351232) (x : Int) (M : List Iv) (hM : addL L x = M) :
    Calls Try.prog 11 #[.agg #[.slice A n c], .int .i64 x] W fun e w' => ∃ A' n' c', e = .returned (.agg #[.slice A' n' c']) ∧ Kd.C kI w' A' n' M ∧ n' ≤ c' ∧ n' ≤ max n 4 ∧ Below W.heap.size W w' := by
  have hl := addL_len L x
  rw [hM, hr.1] at hl
  refine (add_c hr hc hlm x M hM).mono ?_
  rintro e w1 ⟨A', c', rfl, h1, h2, h3⟩
  exact ⟨A', M.length, c', rfl, h1, h2, hl, h3⟩
theorem radd_n {W : World} {A : Option Addr} {n c : Nat} {L : List Iv} (hr : Kd.C kI W A n L) (hc : n ≤ c) (hlm : n ≤ 140737488351232) (x : Int) (M : List Iv) (hM : addL L x = M) :
    Calls Try.prog 12 #[.agg #[.slice A n c], .int .i64 x] W fun e w' => ∃ A' n' c', e = .returned (.agg #[.slice A' n' c']) ∧ Kd.C kI w' A' n' M ∧ n' ≤ c' ∧ n' ≤ max n 4 ∧ Below W.heap.size W w' := by
  have hl := addL_len L x
  rw [hM, hr.1] at hl
  refine (radd_c hr hc hlm x M hM).mono ?_
  rintro e w1 ⟨A', c', rfl, h1, h2, h3⟩
  exact ⟨A', M.length, c', rfl, h1, h2, hl, h3⟩
/-- The cell of a struct that holds a slice is none of a row of intervals. -/
theorem C_box {w : World} {A : Option Addr} {n g t' : Nat} {L : List Iv} {B : Option Addr} {m d : Nat} (h : Kd.C kI w A n L) (hb : w.heap[g]? = some (.cells #[.slice B m d] t' (0, 0))) (v : Value) : Kd.C kI (w.setCell ⟨g, 0, none⟩ v) A n L := by
  have s0 := blk_cell hb 0
  refine ⟨h.1, h.2.1, fun hp => ?_⟩
  obtain ⟨ad, e, hr⟩ := h.2.2 hp
  refine ⟨ad, e, fun j p hj => ?_⟩
  obtain ⟨cs, hl, hK, hc⟩ := hr j p hj
  refine ⟨cs, hl, hK, fun i u hu => ?_⟩
  rw [World.cell?_setCell_other _ _ _ _ (fun e => ?_)]
  · exact hc i u hu
  · have h1 := hc i u hu
    rw [← e, s0] at h1
    obtain ⟨c1, c2, rfl, k1, k2⟩ := hK
    obtain rfl : c1 = [.int .i64 p.1] := k1
    obtain rfl : c2 = [.int .i64 p.2] := k2
    rcases i with _ | _ | i
    · simp at hu h1; rw [← h1] at hu; cases hu
    · simp at hu h1; rw [← h1] at hu; cases hu
    · simp at hu
theorem blk_put {w : World} {g t' : Nat} {u : Value} (hb : w.heap[g]? = some (.cells #[u] t' (0, 0))) (v : Value) : (w.setCell ⟨g, 0, none⟩ v).heap[g]? = some (.cells #[v] t' (0, 0)) := blk_set hb 0 v
theorem ints_C {w : World} {z t' : Nat} (l : List Int) (h : w.heap[z]? = some (.cells (l.map (Value.int .i64)).toArray t' (0, 0))) (hl : l.length ≤ 9223372036854775807 := by decide) : Kd.C (Kd.int .i64) w (some ⟨z, 0, none⟩) l.length l := by
  refine ⟨rfl, hl, fun _ => ⟨_, rfl, fun j p hj => ⟨[.int .i64 p], rfl, rfl, fun i u hu => ?_⟩⟩⟩
  rcases i with _ | i
  · rw [Addr.add_lit, blk_cell h, Nat.zero_add, List.getElem?_toArray, List.getElem?_map, show j * (Kd.int .i64).sz + 0 = j from by rw [show (Kd.int .i64).sz = 1 from rfl]; omega, hj]
    exact hu
  · simp at hu
theorem ivs_C {w : World} {z t' : Nat} (L : List Iv) (h : w.heap[z]? = some (.cells (flatI L).toArray t' (0, 0))) (hl : L.length ≤ 9223372036854775807 := by decide) : Kd.C kI w (some ⟨z, 0, none⟩) L.length L := by
  refine ⟨rfl, hl, fun _ => ⟨_, rfl, fun j p hj => ⟨[.int .i64 p.1, .int .i64 p.2], rfl, ⟨_, _, rfl, rfl, rfl⟩, fun i u hu => ?_⟩⟩⟩
  obtain ⟨f1, f2⟩ := flat_at L j p hj
  rw [Addr.add_lit, blk_cell h, Nat.zero_add, List.getElem?_toArray, show kI.sz = 2 from rfl]
  rcases i with _ | _ | i
  · rw [Nat.add_zero, f1]; exact hu
  · rw [f2]; exact hu
  · simp at hu
theorem iv1_at {W : World} {ad : Addr} {n : Nat} {L : List Iv} (h : Kd.C kI W (some ad) n L) (x : Iv) (hx : L[1]? = some x) : W.cell? ⟨ad.block, ad.off + 2, none⟩ = some (.int .i64 x.1) ∧ W.cell? ⟨ad.block, ad.off + 2 + 1, none⟩ = some (.int .i64 x.2) ∧ W.cell? ⟨ad.block, ad.off + 3, none⟩ = some (.int .i64 x.2) := by
  obtain ⟨h1, h2⟩ := iv_at h 1 x hx
  exact ⟨h1, h2, h2⟩
def exN : Nat → Int
  | 0 => 10 | 1 => 0 | 2 => 3 | 3 => 20 | _ => 5
def exL : Nat → List Iv
  | 0 => [] | 1 => [(10, 10)] | 2 => [(0, 0), (10, 10)] | 3 => [(0, 0), (3, 3), (10, 10)] | 4 => [(0, 0), (3, 3), (10, 10), (20, 20)] | _ => [(0, 0), (3, 5), (10, 10), (20, 20)]
theorem exL_step : ∀ k, k < 5 → addL (exL k) (exN k) = exL (k + 1)
  | 0, _ => by decide +kernel
  | 1, _ => by decide +kernel
  | 2, _ => by decide +kernel
  | 3, _ => by decide +kernel
  | 4, _ => by decide +kernel
set_option maxHeartbeats 4000000 in
set_option maxRecDepth 100000 in
theorem examples_c (W : World) : Calls Try.prog 8 #[] W fun e w' => e = .returned (.bool true) ∧ Below W.heap.size W w' := by
  have HB := Aside0.mk (Below.refl W.heap.size W)
  have HL := Aside0.mk (Below.refl W.heap.size W)
  go_enter Try.func8, Try.ntmps8
  go_wp2
  go_loopw [2] (fun v2 wr => ∃ k : Nat, v2 = .int .i64 (k : Int) ∧ k ≤ 5 ∧ Aside0 (Below W.heap.size W wr) ∧ ∃ (A : Option Addr) (n c : Nat), n ≤ c ∧ n ≤ 4 ∧ Aside0 (wr.heap[W.heap.size]? = some (.cells #[.slice A n c] 24 (0, 0))) ∧ Aside0 (Kd.C kI wr A n (exL k))) (fun v _ => 5 - (intOf v).toNat)
  case atStart => exact ⟨0, rfl, by omega, ⟨(by repeat (first | (with_reducible first | exact HB.out | apply below_alloc | apply pw_below_drewN | apply below_drew1) | exact HB.out))⟩, none, 0, 0, by omega, by omega, ⟨(by repeat (first | (with_reducible refine blk_drewN ?_ _) | (with_reducible refine blk_drew ?_) | exact blk_new' (by first | rfl | simp) | (with_reducible refine blk_alloc ?_ _)))⟩, ⟨rfl, by omega, fun h => absurd h (by omega)⟩⟩
  case round =>
    clear HB HL
    obtain ⟨k, rfl, hk, HB, A, n, c, hnc, hn4, HS, HC⟩ := hrel
    have HL := Aside0.mk (Below.refl wr.heap.size wr)
    have s0 := blk_cell HS.out 0
    have sl := blk_lt HS.out
    have sf := blk_frozen HS.out 0
    simp only [List.getElem?_toArray, List.getElem?_cons_zero] at s0
    by_cases hlt : k < 5
    · have HA := Aside0.mk (exL_step k hlt)
      rcases k with _ | _ | _ | _ | _ | k
      · go_wp2
        go_region_law (first | (refine goes_ Try.func11 (by kernel_rfl) rfl #[.agg #[.slice A n c], .int .i64 10] (by rfl) rfl rfl (by simp only [List.map_toArray, List.map_cons, List.map_nil]; rfl) ?_; refine (add_n (Kd.C_below HC.out (by repeat (first | (with_reducible first | exact HL.out | apply below_alloc | apply pw_below_drewN | apply below_drew1) | exact HL.out))) hnc (by omega) (exN 0) _ HA.out).mono ?_; rintro e w1 ⟨A1, n1, c1, rfl, hC, hnc1, hn1, hb⟩; refine ⟨_, rfl, ?_⟩; have n_ := Aside0.mk (below_step (by repeat (first | (with_reducible first | exact HB.out | apply below_alloc | apply pw_below_drewN | apply below_drew1) | exact HB.out)) hb); clear HB; have HB := n_; clear n_; have n_ := Aside0.mk (blk_below (o := .cells #[.slice A n c] 24 (0, 0)) (g := W.heap.size) (by repeat (first | exact HS.out | (with_reducible refine blk_drewN ?_ _) | (with_reducible refine blk_drew ?_) | (with_reducible refine blk_alloc ?_ _))) hb); clear HS s0 sl sf; have HS := n_; clear n_; have s0 := blk_cell HS.out 0; have sl := blk_lt HS.out; have sf := blk_frozen HS.out 0; simp only [List.getElem?_toArray, List.getElem?_cons_zero] at s0; have HC1 := Aside0.mk hC; clear hC HC HL hb; have HL := Aside0.mk (Below.refl w1.heap.size w1)))
        all_goals go_wp2
        all_goals go_roundw
        all_goals (try (case rel => exact ⟨1, by go_num, by omega, ⟨below_set HB.out (Nat.le_refl _)⟩, A1, n1, c1, hnc1, by omega, ⟨blk_put HS.out _⟩, ⟨C_box HC1.out HS.out _⟩⟩))
        all_goals (try (case measure => (simp [intOf])))
      · go_wp2
        go_region_law (first | (refine goes_ Try.func11 (by kernel_rfl) rfl #[.agg #[.slice A n c], .int .i64 0] (by rfl) rfl rfl (by simp only [List.map_toArray, List.map_cons, List.map_nil]; rfl) ?_; refine (add_n (Kd.C_below HC.out (by repeat (first | (with_reducible first | exact HL.out | apply below_alloc | apply pw_below_drewN | apply below_drew1) | exact HL.out))) hnc (by omega) (exN 1) _ HA.out).mono ?_; rintro e w1 ⟨A1, n1, c1, rfl, hC, hnc1, hn1, hb⟩; refine ⟨_, rfl, ?_⟩; have n_ := Aside0.mk (below_step (by repeat (first | (with_reducible first | exact HB.out | apply below_alloc | apply pw_below_drewN | apply below_drew1) | exact HB.out)) hb); clear HB; have HB := n_; clear n_; have n_ := Aside0.mk (blk_below (o := .cells #[.slice A n c] 24 (0, 0)) (g := W.heap.size) (by repeat (first | exact HS.out | (with_reducible refine blk_drewN ?_ _) | (with_reducible refine blk_drew ?_) | (with_reducible refine blk_alloc ?_ _))) hb); clear HS s0 sl sf; have HS := n_; clear n_; have s0 := blk_cell HS.out 0; have sl := blk_lt HS.out; have sf := blk_frozen HS.out 0; simp only [List.getElem?_toArray, List.getElem?_cons_zero] at s0; have HC1 := Aside0.mk hC; clear hC HC HL hb; have HL := Aside0.mk (Below.refl w1.heap.size w1)))
        all_goals go_wp2
        all_goals go_roundw
        all_goals (try (case rel => exact ⟨2, by go_num, by omega, ⟨below_set HB.out (Nat.le_refl _)⟩, A1, n1, c1, hnc1, by omega, ⟨blk_put HS.out _⟩, ⟨C_box HC1.out HS.out _⟩⟩))
        all_goals (try (case measure => (simp [intOf])))
      · go_wp2
        go_region_law (first | (refine goes_ Try.func11 (by kernel_rfl) rfl #[.agg #[.slice A n c], .int .i64 3] (by rfl) rfl rfl (by simp only [List.map_toArray, List.map_cons, List.map_nil]; rfl) ?_; refine (add_n (Kd.C_below HC.out (by repeat (first | (with_reducible first | exact HL.out | apply below_alloc | apply pw_below_drewN | apply below_drew1) | exact HL.out))) hnc (by omega) (exN 2) _ HA.out).mono ?_; rintro e w1 ⟨A1, n1, c1, rfl, hC, hnc1, hn1, hb⟩; refine ⟨_, rfl, ?_⟩; have n_ := Aside0.mk (below_step (by repeat (first | (with_reducible first | exact HB.out | apply below_alloc | apply pw_below_drewN | apply below_drew1) | exact HB.out)) hb); clear HB; have HB := n_; clear n_; have n_ := Aside0.mk (blk_below (o := .cells #[.slice A n c] 24 (0, 0)) (g := W.heap.size) (by repeat (first | exact HS.out | (with_reducible refine blk_drewN ?_ _) | (with_reducible refine blk_drew ?_) | (with_reducible refine blk_alloc ?_ _))) hb); clear HS s0 sl sf; have HS := n_; clear n_; have s0 := blk_cell HS.out 0; have sl := blk_lt HS.out; have sf := blk_frozen HS.out 0; simp only [List.getElem?_toArray, List.getElem?_cons_zero] at s0; have HC1 := Aside0.mk hC; clear hC HC HL hb; have HL := Aside0.mk (Below.refl w1.heap.size w1)))
        all_goals go_wp2
        all_goals go_roundw
        all_goals (try (case rel => exact ⟨3, by go_num, by omega, ⟨below_set HB.out (Nat.le_refl _)⟩, A1, n1, c1, hnc1, by omega, ⟨blk_put HS.out _⟩, ⟨C_box HC1.out HS.out _⟩⟩))
        all_goals (try (case measure => (simp [intOf])))
      · go_wp2
        go_region_law (first | (refine goes_ Try.func11 (by kernel_rfl) rfl #[.agg #[.slice A n c], .int .i64 20] (by rfl) rfl rfl (by simp only [List.map_toArray, List.map_cons, List.map_nil]; rfl) ?_; refine (add_n (Kd.C_below HC.out (by repeat (first | (with_reducible first | exact HL.out | apply below_alloc | apply pw_below_drewN | apply below_drew1) | exact HL.out))) hnc (by omega) (exN 3) _ HA.out).mono ?_; rintro e w1 ⟨A1, n1, c1, rfl, hC, hnc1, hn1, hb⟩; refine ⟨_, rfl, ?_⟩; have n_ := Aside0.mk (below_step (by repeat (first | (with_reducible first | exact HB.out | apply below_alloc | apply pw_below_drewN | apply below_drew1) | exact HB.out)) hb); clear HB; have HB := n_; clear n_; have n_ := Aside0.mk (blk_below (o := .cells #[.slice A n c] 24 (0, 0)) (g := W.heap.size) (by repeat (first | exact HS.out | (with_reducible refine blk_drewN ?_ _) | (with_reducible refine blk_drew ?_) | (with_reducible refine blk_alloc ?_ _))) hb); clear HS s0 sl sf; have HS := n_; clear n_; have s0 := blk_cell HS.out 0; have sl := blk_lt HS.out; have sf := blk_frozen HS.out 0; simp only [List.getElem?_toArray, List.getElem?_cons_zero] at s0; have HC1 := Aside0.mk hC; clear hC HC HL hb; have HL := Aside0.mk (Below.refl w1.heap.size w1)))
        all_goals go_wp2
        all_goals go_roundw
        all_goals (try (case rel => exact ⟨4, by go_num, by omega, ⟨below_set HB.out (Nat.le_refl _)⟩, A1, n1, c1, hnc1, by omega, ⟨blk_put HS.out _⟩, ⟨C_box HC1.out HS.out _⟩⟩))
        all_goals (try (case measure => (simp [intOf])))
      · go_wp2
        go_region_law (first | (refine goes_ Try.func11 (by kernel_rfl) rfl #[.agg #[.slice A n c], .int .i64 5] (by rfl) rfl rfl (by simp only [List.map_toArray, List.map_cons, List.map_nil]; rfl) ?_; refine (add_n (Kd.C_below HC.out (by repeat (first | (with_reducible first | exact HL.out | apply below_alloc | apply pw_below_drewN | apply below_drew1) | exact HL.out))) hnc (by omega) (exN 4) _ HA.out).mono ?_; rintro e w1 ⟨A1, n1, c1, rfl, hC, hnc1, hn1, hb⟩; refine ⟨_, rfl, ?_⟩; have n_ := Aside0.mk (below_step (by repeat (first | (with_reducible first | exact HB.out | apply below_alloc | apply pw_below_drewN | apply below_drew1) | exact HB.out)) hb); clear HB; have HB := n_; clear n_; have n_ := Aside0.mk (blk_below (o := .cells #[.slice A n c] 24 (0, 0)) (g := W.heap.size) (by repeat (first | exact HS.out | (with_reducible refine blk_drewN ?_ _) | (with_reducible refine blk_drew ?_) | (with_reducible refine blk_alloc ?_ _))) hb); clear HS s0 sl sf; have HS := n_; clear n_; have s0 := blk_cell HS.out 0; have sl := blk_lt HS.out; have sf := blk_frozen HS.out 0; simp only [List.getElem?_toArray, List.getElem?_cons_zero] at s0; have HC1 := Aside0.mk hC; clear hC HC HL hb; have HL := Aside0.mk (Below.refl w1.heap.size w1)))
        all_goals go_wp2
        all_goals go_roundw
        all_goals (try (case rel => exact ⟨5, by go_num, by omega, ⟨below_set HB.out (Nat.le_refl _)⟩, A1, n1, c1, hnc1, by omega, ⟨blk_put HS.out _⟩, ⟨C_box HC1.out HS.out _⟩⟩))
        all_goals (try (case measure => (simp [intOf])))
      · omega
    · obtain rfl : k = 5 := by omega
      have hn := HC.out.1
      have HN := Aside0.mk hn
      have hni : (n : Int) = 4 := by have : n = 4 := hn.symm; omega
      have hnm : n ≤ 140737488351232 := by omega
      have hn1 : 1 < n := by have : n = 4 := hn.symm; omega
      have hn1i : (1 : Int) < (n : Int) := by omega
      clear hn
      obtain ⟨ad, ea, _⟩ := HC.out.2.2 (by omega)
      subst ea
      have d0 := (iv1_at HC.out (3, 5) rfl).1
      have d1 := (iv1_at HC.out (3, 5) rfl).2.1
      have d2 := (iv1_at HC.out (3, 5) rfl).2.2
      simp only at d0 d1 d2
      have E1 := Aside0.mk (show hasL (exL 5) 4 = true by decide +kernel)
      have E2 := Aside0.mk (show hasL (exL 5) 3 = true by decide +kernel)
      have E3 := Aside0.mk (show hasL (exL 5) 6 = false by decide +kernel)
      have E4 := Aside0.mk (show meetsL (exL 5) 1 3 = true by decide +kernel)
      have E5 := Aside0.mk (show meetsL (exL 5) 11 19 = false by decide +kernel)
      have E6 := Aside0.mk (show coverL (exL 5) [0, 10, 20, 4] = true by decide +kernel)
      have E7 := Aside0.mk (show coverL (exL 5) [0, 1] = false by decide +kernel)
      have E8 := Aside0.mk (show rightL (exL 5) = true by decide +kernel)

      have E10 := Aside0.mk (show rightL [(1, 0)] = false by decide +kernel)
      go_wp2_with (first | (go_at_call 14; (with_reducible refine (has_c (Kd.C_below HC.out (by repeat (first | (with_reducible first | exact HL.out | apply below_alloc | apply pw_below_drewN | apply below_drew1) | exact HL.out))) hnc hnm 4 _ E1.out).mono ?_); rintro e x1 ⟨rfl, hb⟩; have n0_ := Aside0.mk (below_step (by repeat (first | (with_reducible first | exact HB.out | apply below_alloc | apply pw_below_drewN | apply below_drew1) | exact HB.out)) hb); clear HB; have HB := n0_; clear n0_; have hs_ := below_step (by repeat (first | (with_reducible first | exact HL.out | apply below_alloc | apply pw_below_drewN | apply below_drew1) | exact HL.out)) hb; have n_ := Aside0.mk (blk_below HS.out hs_); clear HS s0 sl sf; have HS := n_; clear n_; have s0 := blk_cell HS.out 0; have sl := blk_lt HS.out; have sf := blk_frozen HS.out 0; simp only [List.getElem?_toArray, List.getElem?_cons_zero] at s0; have n_ := Aside0.mk (Kd.C_below HC.out hs_); clear HC d0 d1 d2; have HC := n_; clear n_; have d0 := (iv1_at HC.out (3, 5) rfl).1; have d1 := (iv1_at HC.out (3, 5) rfl).2.1; have d2 := (iv1_at HC.out (3, 5) rfl).2.2; simp only at d0 d1 d2; clear HL hs_ hb; have HL := Aside0.mk (Below.refl x1.heap.size x1)) | (go_at_call 14; (with_reducible refine (has_c (Kd.C_below HC.out (by repeat (first | (with_reducible first | exact HL.out | apply below_alloc | apply pw_below_drewN | apply below_drew1) | exact HL.out))) hnc hnm 3 _ E2.out).mono ?_); rintro e x2 ⟨rfl, hb⟩; have n0_ := Aside0.mk (below_step (by repeat (first | (with_reducible first | exact HB.out | apply below_alloc | apply pw_below_drewN | apply below_drew1) | exact HB.out)) hb); clear HB; have HB := n0_; clear n0_; have hs_ := below_step (by repeat (first | (with_reducible first | exact HL.out | apply below_alloc | apply pw_below_drewN | apply below_drew1) | exact HL.out)) hb; have n_ := Aside0.mk (blk_below HS.out hs_); clear HS s0 sl sf; have HS := n_; clear n_; have s0 := blk_cell HS.out 0; have sl := blk_lt HS.out; have sf := blk_frozen HS.out 0; simp only [List.getElem?_toArray, List.getElem?_cons_zero] at s0; have n_ := Aside0.mk (Kd.C_below HC.out hs_); clear HC d0 d1 d2; have HC := n_; clear n_; have d0 := (iv1_at HC.out (3, 5) rfl).1; have d1 := (iv1_at HC.out (3, 5) rfl).2.1; have d2 := (iv1_at HC.out (3, 5) rfl).2.2; simp only at d0 d1 d2; clear HL hs_ hb; have HL := Aside0.mk (Below.refl x2.heap.size x2)) | (go_at_call 14; (with_reducible refine (has_c (Kd.C_below HC.out (by repeat (first | (with_reducible first | exact HL.out | apply below_alloc | apply pw_below_drewN | apply below_drew1) | exact HL.out))) hnc hnm 6 _ E3.out).mono ?_); rintro e x3 ⟨rfl, hb⟩; have n0_ := Aside0.mk (below_step (by repeat (first | (with_reducible first | exact HB.out | apply below_alloc | apply pw_below_drewN | apply below_drew1) | exact HB.out)) hb); clear HB; have HB := n0_; clear n0_; have hs_ := below_step (by repeat (first | (with_reducible first | exact HL.out | apply below_alloc | apply pw_below_drewN | apply below_drew1) | exact HL.out)) hb; have n_ := Aside0.mk (blk_below HS.out hs_); clear HS s0 sl sf; have HS := n_; clear n_; have s0 := blk_cell HS.out 0; have sl := blk_lt HS.out; have sf := blk_frozen HS.out 0; simp only [List.getElem?_toArray, List.getElem?_cons_zero] at s0; have n_ := Aside0.mk (Kd.C_below HC.out hs_); clear HC d0 d1 d2; have HC := n_; clear n_; have d0 := (iv1_at HC.out (3, 5) rfl).1; have d1 := (iv1_at HC.out (3, 5) rfl).2.1; have d2 := (iv1_at HC.out (3, 5) rfl).2.2; simp only at d0 d1 d2; clear HL hs_ hb; have HL := Aside0.mk (Below.refl x3.heap.size x3)) | (go_at_call 16; (with_reducible refine (meets_c (Kd.C_below HC.out (by repeat (first | (with_reducible first | exact HL.out | apply below_alloc | apply pw_below_drewN | apply below_drew1) | exact HL.out))) hnc hnm 1 3 _ E4.out).mono ?_); rintro e x4 ⟨rfl, hb⟩; have n0_ := Aside0.mk (below_step (by repeat (first | (with_reducible first | exact HB.out | apply below_alloc | apply pw_below_drewN | apply below_drew1) | exact HB.out)) hb); clear HB; have HB := n0_; clear n0_; have hs_ := below_step (by repeat (first | (with_reducible first | exact HL.out | apply below_alloc | apply pw_below_drewN | apply below_drew1) | exact HL.out)) hb; have n_ := Aside0.mk (blk_below HS.out hs_); clear HS s0 sl sf; have HS := n_; clear n_; have s0 := blk_cell HS.out 0; have sl := blk_lt HS.out; have sf := blk_frozen HS.out 0; simp only [List.getElem?_toArray, List.getElem?_cons_zero] at s0; have n_ := Aside0.mk (Kd.C_below HC.out hs_); clear HC d0 d1 d2; have HC := n_; clear n_; have d0 := (iv1_at HC.out (3, 5) rfl).1; have d1 := (iv1_at HC.out (3, 5) rfl).2.1; have d2 := (iv1_at HC.out (3, 5) rfl).2.2; simp only at d0 d1 d2; clear HL hs_ hb; have HL := Aside0.mk (Below.refl x4.heap.size x4)) | (go_at_call 16; (with_reducible refine (meets_c (Kd.C_below HC.out (by repeat (first | (with_reducible first | exact HL.out | apply below_alloc | apply pw_below_drewN | apply below_drew1) | exact HL.out))) hnc hnm 11 19 _ E5.out).mono ?_); rintro e x5 ⟨rfl, hb⟩; have n0_ := Aside0.mk (below_step (by repeat (first | (with_reducible first | exact HB.out | apply below_alloc | apply pw_below_drewN | apply below_drew1) | exact HB.out)) hb); clear HB; have HB := n0_; clear n0_; have hs_ := below_step (by repeat (first | (with_reducible first | exact HL.out | apply below_alloc | apply pw_below_drewN | apply below_drew1) | exact HL.out)) hb; have n_ := Aside0.mk (blk_below HS.out hs_); clear HS s0 sl sf; have HS := n_; clear n_; have s0 := blk_cell HS.out 0; have sl := blk_lt HS.out; have sf := blk_frozen HS.out 0; simp only [List.getElem?_toArray, List.getElem?_cons_zero] at s0; have n_ := Aside0.mk (Kd.C_below HC.out hs_); clear HC d0 d1 d2; have HC := n_; clear n_; have d0 := (iv1_at HC.out (3, 5) rfl).1; have d1 := (iv1_at HC.out (3, 5) rfl).2.1; have d2 := (iv1_at HC.out (3, 5) rfl).2.2; simp only at d0 d1 d2; clear HL hs_ hb; have HL := Aside0.mk (Below.refl x5.heap.size x5)) | (go_at_call 18; have hlit := (show Kd.C (Kd.int .i64) (x5.alloc (.cells #[.int .i64 0, .int .i64 10, .int .i64 20, .int .i64 4] 2 (0, 0))) (some ⟨x5.heap.size, 0, none⟩) 4 [0, 10, 20, 4] from ints_C [0, 10, 20, 4] (blk_new x5 _)); (with_reducible refine (cover_c (Kd.C_below HC.out (by repeat (first | (with_reducible first | exact HL.out | apply below_alloc | apply pw_below_drewN | apply below_drew1) | exact HL.out))) hlit hnc (by omega) hnm _ E6.out).mono ?_); rintro e x6 ⟨rfl, hb⟩; have n0_ := Aside0.mk (below_step (by repeat (first | (with_reducible first | exact HB.out | apply below_alloc | apply pw_below_drewN | apply below_drew1) | exact HB.out)) hb); clear HB; have HB := n0_; clear n0_; have hs_ := below_step (by repeat (first | (with_reducible first | exact HL.out | apply below_alloc | apply pw_below_drewN | apply below_drew1) | exact HL.out)) hb; have n_ := Aside0.mk (blk_below HS.out hs_); clear HS s0 sl sf; have HS := n_; clear n_; have s0 := blk_cell HS.out 0; have sl := blk_lt HS.out; have sf := blk_frozen HS.out 0; simp only [List.getElem?_toArray, List.getElem?_cons_zero] at s0; have n_ := Aside0.mk (Kd.C_below HC.out hs_); clear HC d0 d1 d2; have HC := n_; clear n_; have d0 := (iv1_at HC.out (3, 5) rfl).1; have d1 := (iv1_at HC.out (3, 5) rfl).2.1; have d2 := (iv1_at HC.out (3, 5) rfl).2.2; simp only at d0 d1 d2; clear HL hs_ hb; have HL := Aside0.mk (Below.refl x6.heap.size x6)) | (go_at_call 18; have hlit := (show Kd.C (Kd.int .i64) (x6.alloc (.cells #[.int .i64 0, .int .i64 1] 2 (0, 0))) (some ⟨x6.heap.size, 0, none⟩) 2 [0, 1] from ints_C [0, 1] (blk_new x6 _)); (with_reducible refine (cover_c (Kd.C_below HC.out (by repeat (first | (with_reducible first | exact HL.out | apply below_alloc | apply pw_below_drewN | apply below_drew1) | exact HL.out))) hlit hnc (by omega) hnm _ E7.out).mono ?_); rintro e x7 ⟨rfl, hb⟩; have n0_ := Aside0.mk (below_step (by repeat (first | (with_reducible first | exact HB.out | apply below_alloc | apply pw_below_drewN | apply below_drew1) | exact HB.out)) hb); clear HB; have HB := n0_; clear n0_; have hs_ := below_step (by repeat (first | (with_reducible first | exact HL.out | apply below_alloc | apply pw_below_drewN | apply below_drew1) | exact HL.out)) hb; have n_ := Aside0.mk (blk_below HS.out hs_); clear HS s0 sl sf; have HS := n_; clear n_; have s0 := blk_cell HS.out 0; have sl := blk_lt HS.out; have sf := blk_frozen HS.out 0; simp only [List.getElem?_toArray, List.getElem?_cons_zero] at s0; have n_ := Aside0.mk (Kd.C_below HC.out hs_); clear HC d0 d1 d2; have HC := n_; clear n_; have d0 := (iv1_at HC.out (3, 5) rfl).1; have d1 := (iv1_at HC.out (3, 5) rfl).2.1; have d2 := (iv1_at HC.out (3, 5) rfl).2.2; simp only at d0 d1 d2; clear HL hs_ hb; have HL := Aside0.mk (Below.refl x7.heap.size x7)) | (go_at_call 20; (with_reducible refine (right_c (Kd.C_below HC.out (by repeat (first | (with_reducible first | exact HL.out | apply below_alloc | apply pw_below_drewN | apply below_drew1) | exact HL.out))) hnc hnm _ E8.out).mono ?_); rintro e x8 ⟨rfl, hb⟩; have n0_ := Aside0.mk (below_step (by repeat (first | (with_reducible first | exact HB.out | apply below_alloc | apply pw_below_drewN | apply below_drew1) | exact HB.out)) hb); clear HB; have HB := n0_; clear n0_; have hs_ := below_step (by repeat (first | (with_reducible first | exact HL.out | apply below_alloc | apply pw_below_drewN | apply below_drew1) | exact HL.out)) hb; have n_ := Aside0.mk (blk_below HS.out hs_); clear HS s0 sl sf; have HS := n_; clear n_; have s0 := blk_cell HS.out 0; have sl := blk_lt HS.out; have sf := blk_frozen HS.out 0; simp only [List.getElem?_toArray, List.getElem?_cons_zero] at s0; have n_ := Aside0.mk (Kd.C_below HC.out hs_); clear HC d0 d1 d2; have HC := n_; clear n_; have d0 := (iv1_at HC.out (3, 5) rfl).1; have d1 := (iv1_at HC.out (3, 5) rfl).2.1; have d2 := (iv1_at HC.out (3, 5) rfl).2.2; simp only at d0 d1 d2; clear HL hs_ hb; have HL := Aside0.mk (Below.refl x8.heap.size x8)) | (go_at_call 22; (with_reducible refine (same_c (Kd.C_below HC.out (by repeat (first | (with_reducible first | exact HL.out | apply below_alloc | apply pw_below_drewN | apply below_drew1) | exact HL.out))) (Kd.C_below HC.out (by repeat (first | (with_reducible first | exact HL.out | apply below_alloc | apply pw_below_drewN | apply below_drew1) | exact HL.out))) hnm true (decide_eq_true rfl)).mono ?_); rintro e x9 ⟨rfl, hb⟩; have n0_ := Aside0.mk (below_step (by repeat (first | (with_reducible first | exact HB.out | apply below_alloc | apply pw_below_drewN | apply below_drew1) | exact HB.out)) hb); clear HB; have HB := n0_; clear n0_; have hs_ := below_step (by repeat (first | (with_reducible first | exact HL.out | apply below_alloc | apply pw_below_drewN | apply below_drew1) | exact HL.out)) hb; have n_ := Aside0.mk (blk_below HS.out hs_); clear HS s0 sl sf; have HS := n_; clear n_; have s0 := blk_cell HS.out 0; have sl := blk_lt HS.out; have sf := blk_frozen HS.out 0; simp only [List.getElem?_toArray, List.getElem?_cons_zero] at s0; have n_ := Aside0.mk (Kd.C_below HC.out hs_); clear HC d0 d1 d2; have HC := n_; clear n_; have d0 := (iv1_at HC.out (3, 5) rfl).1; have d1 := (iv1_at HC.out (3, 5) rfl).2.1; have d2 := (iv1_at HC.out (3, 5) rfl).2.2; simp only at d0 d1 d2; clear HL hs_ hb; have HL := Aside0.mk (Below.refl x9.heap.size x9)) | (go_at_call 20; have hlit := (show Kd.C kI (x9.alloc (.cells #[.int .i64 1, .int .i64 0] 43 (0, 0))) (some ⟨x9.heap.size, 0, none⟩) 1 [(1, 0)] from ivs_C [(1, 0)] (blk_new x9 _)); (with_reducible refine (right_c hlit (by omega) (by omega) _ E10.out).mono ?_); rintro e x10 ⟨rfl, hb⟩; have n0_ := Aside0.mk (below_step (by repeat (first | (with_reducible first | exact HB.out | apply below_alloc | apply pw_below_drewN | apply below_drew1) | exact HB.out)) hb); clear HB; have HB := n0_; clear n0_; have hs_ := below_step (by repeat (first | (with_reducible first | exact HL.out | apply below_alloc | apply pw_below_drewN | apply below_drew1) | exact HL.out)) hb; have n_ := Aside0.mk (blk_below HS.out hs_); clear HS s0 sl sf; have HS := n_; clear n_; have s0 := blk_cell HS.out 0; have sl := blk_lt HS.out; have sf := blk_frozen HS.out 0; simp only [List.getElem?_toArray, List.getElem?_cons_zero] at s0; have n_ := Aside0.mk (Kd.C_below HC.out hs_); clear HC d0 d1 d2; have HC := n_; clear n_; have d0 := (iv1_at HC.out (3, 5) rfl).1; have d1 := (iv1_at HC.out (3, 5) rfl).2.1; have d2 := (iv1_at HC.out (3, 5) rfl).2.2; simp only at d0 d1 d2; clear HL hs_ hb; have HL := Aside0.mk (Below.refl x10.heap.size x10)))
      all_goals (try (exfalso; omega))
      all_goals go_ret
      all_goals exact ⟨rfl, HB.out⟩
end Go.Proofs.Ytoidaakmmnlhgaa.Hand
