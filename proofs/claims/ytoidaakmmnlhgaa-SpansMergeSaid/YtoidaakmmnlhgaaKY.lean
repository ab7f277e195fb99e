/- Joined: KQ, KR, KS, KW. -/
import Derived.Test.YtoidaakmmnlhgaaKP
import Derived.Test.YtoidaakmmnlhgaaKL
import Derived.Test.YtoidaakmmnlhgaaKM
import Derived.Deep.RegionLaw
import Derived.Deep.DeepCutAuto
import Derived.Deep.CutBlock
import Derived.Test.YtoidaakmmnlhgaaPSpansTellsx1
import Derived.Test.YtoidaakmmnlhgaaWArr
/- Intervals: Add, the program's and the reference's, each in one contract. -/
set_option linter.unusedVariables false
set_option linter.unusedSimpArgs false
namespace Go.Proofs.Ytoidaakmmnlhgaa.Hand
open Go.RowKit Go.Proofs.YtoidaakmmnlhgaaW.PrintWords Go.Proofs.YtoidaakmmnlhgaaW.PrintLast Go.Proofs.YtoidaakmmnlhgaaW.PrintMore
set_option maxHeartbeats 4000000 in
set_option maxRecDepth 100000 in
theorem radd_nil {W : World} {c : Nat} (x : Int) :
    Calls Try.prog 12 #[.agg #[.slice none 0 c], .int .i64 x] W fun e w' => ∃ A' c', e = .returned (.agg #[.slice A' ([(x, x)]).length c']) ∧ Kd.C kI w' A' ([(x, x)]).length ([(x, x)]) ∧ ([(x, x)]).length ≤ c' ∧ Below W.heap.size W w' := by
  have hr : Kd.C kI W none 0 [] := ⟨rfl, by omega, fun h => absurd h (by omega)⟩
  have hc : 0 ≤ c := by omega
  have hlm : 0 ≤ 140737488351232 := by omega
  have HRT := Aside0.mk (show rightL [] = true from rfl)
  have HH := Aside0.mk (show hasL [] x = false from hasL_no [] x rfl)
  have HB := Aside0.mk (Below.refl W.heap.size W)
  have HL := Aside0.mk (Below.refl W.heap.size W)
  have HR := Aside0.mk hr
  clear hr
  go_enter Try.func12, Try.ntmps12
  go_upto_block 0 with (first | (go_at_call 21; (with_reducible refine (rright_c (Kd.C_below HR.out (by repeat (first | (with_reducible first | exact HB.out | apply below_alloc | apply pw_below_drewN | apply below_drew1) | exact HB.out))) hc hlm _ HRT.out).mono ?_); rintro e w1 ⟨rfl, hb⟩; have n0_ := Aside0.mk (below_step (by repeat (first | (with_reducible first | exact HB.out | apply below_alloc | apply pw_below_drewN | apply below_drew1) | exact HB.out)) hb); clear HB; have HB := n0_; clear n0_; have hs_ := below_step (by repeat (first | (with_reducible first | exact HL.out | apply below_alloc | apply pw_below_drewN | apply below_drew1) | exact HL.out)) hb; have HS0 := Aside0.mk (blk_below (o := .cells #[.slice none 0 c] 28 (0, 0)) (g := W.heap.size) (by repeat (first | (with_reducible refine blk_drewN ?_ _) | (with_reducible refine blk_drew ?_) | exact blk_new' (by first | rfl | simp) | (with_reducible refine blk_alloc ?_ _))) hb); have qHS0_0 := blk_cell HS0.out 0; have lHS0 := blk_lt HS0.out; simp only [List.getElem?_toArray, List.getElem?_cons_zero, List.getElem?_cons_succ] at qHS0_0; have HS2 := Aside0.mk (blk_below (o := .cells #[.slice none 0 0] 28 (0, 0)) (g := (W.heap.size + 1)) (by repeat (first | (with_reducible refine blk_drewN ?_ _) | (with_reducible refine blk_drew ?_) | exact blk_new' (by first | rfl | simp) | (with_reducible refine blk_alloc ?_ _))) hb); have qHS2_0 := blk_cell HS2.out 0; have lHS2 := blk_lt HS2.out; simp only [List.getElem?_toArray, List.getElem?_cons_zero, List.getElem?_cons_succ] at qHS2_0; have fHS2 := blk_frozen HS2.out 0; clear HL hs_ hb; have HL := Aside0.mk (Below.refl w1.heap.size w1)) | (go_at_call 15; (with_reducible refine (rhas_c (Kd.C_below HR.out (by repeat (first | (with_reducible first | exact HB.out | apply below_alloc | apply pw_below_drewN | apply below_drew1) | exact HB.out))) hlm x _ HH.out).mono ?_); rintro e w2 ⟨rfl, hb⟩; have n0_ := Aside0.mk (below_step (by repeat (first | (with_reducible first | exact HB.out | apply below_alloc | apply pw_below_drewN | apply below_drew1) | exact HB.out)) hb); clear HB; have HB := n0_; clear n0_; have hs_ := below_step (by repeat (first | (with_reducible first | exact HL.out | apply below_alloc | apply pw_below_drewN | apply below_drew1) | exact HL.out)) hb; have n_ := Aside0.mk (blk_below HS0.out hs_); clear qHS0_0 lHS0; clear HS0; have HS0 := n_; clear n_; have qHS0_0 := blk_cell HS0.out 0; have lHS0 := blk_lt HS0.out; simp only [List.getElem?_toArray, List.getElem?_cons_zero, List.getElem?_cons_succ] at qHS0_0; have n_ := Aside0.mk (blk_below HS2.out hs_); clear qHS2_0 lHS2 fHS2; clear HS2; have HS2 := n_; clear n_; have qHS2_0 := blk_cell HS2.out 0; have lHS2 := blk_lt HS2.out; simp only [List.getElem?_toArray, List.getElem?_cons_zero, List.getElem?_cons_succ] at qHS2_0; have fHS2 := blk_frozen HS2.out 0; clear HL hs_ hb; have HL := Aside0.mk (Below.refl w2.heap.size w2)))
  go_wp2
  go_loopw [6] (fun v6 wr => v6 = .int .i64 0 ∧ Aside0 (Below W.heap.size W wr) ∧ Aside0 (wr.heap[W.heap.size]? = some (.cells #[.slice none 0 c] 28 (0, 0))) ∧ Aside0 (wr.heap[(W.heap.size + 1)]? = some (.cells #[.slice none 0 0] 28 (0, 0)))) (fun _ _ => 0)
  case atStart => exact ⟨rfl, HB, HS0, HS2⟩
  case round =>
    clear HB HL HS0 HS2 qHS0_0 lHS0 qHS2_0 lHS2 fHS2
    obtain ⟨rfl, HB, HS0, HS2⟩ := hrel
    have qHS0_0 := blk_cell HS0.out 0
    have lHS0 := blk_lt HS0.out
    simp only [List.getElem?_toArray, List.getElem?_cons_zero, List.getElem?_cons_succ] at qHS0_0
    have qHS2_0 := blk_cell HS2.out 0
    have lHS2 := blk_lt HS2.out
    simp only [List.getElem?_toArray, List.getElem?_cons_zero, List.getElem?_cons_succ] at qHS2_0
    have fHS2 := blk_frozen HS2.out 0
    have HS0c := HS0
    have HS2c := HS2
    have HBc := HB
    have HR0 := Aside0.mk (show Kd.C kI wr none 0 [] from ⟨rfl, by omega, fun h => absurd h (by omega)⟩)
    go_wp2_with (first | ((with_reducible refine gate_builtin (b := .append) (xs := #[.tmp 36, .tmp 40]) rfl ?_); at_builtin; refine i_rows (w0 := wr) wr.heap.size rfl (.tmp 36) (.tmp 40) rfl (.slice none 0 0) [] [] none 0 c rfl (by simp [Act.eval]) (IRow.nil_ _ _) HR0.out (Below.refl _ _) (Nat.le_refl _) (by simp only [List.length_nil]; omega) [] rfl ?_; intro v1 w3 r1 b1; have R1 := Aside0.mk r1; clear r1; have HBW := Aside0.mk b1; clear HB HS0 HS2 qHS0_0 lHS0 qHS2_0 lHS2 fHS2; have HB := Aside0.mk (below_step HBc.out HBW.out); have HS0 := Aside0.mk (blk_below HS0c.out HBW.out); have HS2 := Aside0.mk (blk_below HS2c.out HBW.out); have qHS0_0 := blk_cell HS0.out 0; have lHS0 := blk_lt HS0.out; simp only [List.getElem?_toArray, List.getElem?_cons_zero, List.getElem?_cons_succ] at qHS0_0; have qHS2_0 := blk_cell HS2.out 0; have lHS2 := blk_lt HS2.out; simp only [List.getElem?_toArray, List.getElem?_cons_zero, List.getElem?_cons_succ] at qHS2_0; have fHS2 := blk_frozen HS2.out 0; clear b1) | ((with_reducible refine gate_builtin (b := .append) (xs := #[.tmp 42, .tmp 46]) rfl ?_); at_builtin; refine i_one (w0 := wr) (z := w3.heap.size) wr.heap.size rfl (.tmp 42) (.tmp 46) rfl v1 [] x x rfl rfl rfl R1.out HBW.out HBW.out.size (by simp only [List.length_nil]; omega) ?_; intro v2 w4 r2 b2; have R2 := Aside0.mk r2; clear r2 R1 HBW; have HBW := Aside0.mk b2; clear HB HS0 HS2 qHS0_0 lHS0 qHS2_0 lHS2 fHS2; have HB := Aside0.mk (below_step HBc.out HBW.out); have HS0 := Aside0.mk (blk_below HS0c.out HBW.out); have HS2 := Aside0.mk (blk_below HS2c.out HBW.out); have qHS0_0 := blk_cell HS0.out 0; have lHS0 := blk_lt HS0.out; simp only [List.getElem?_toArray, List.getElem?_cons_zero, List.getElem?_cons_succ] at qHS0_0; have qHS2_0 := blk_cell HS2.out 0; have lHS2 := blk_lt HS2.out; simp only [List.getElem?_toArray, List.getElem?_cons_zero, List.getElem?_cons_succ] at qHS2_0; have fHS2 := blk_frozen HS2.out 0; clear b2) | ((with_reducible refine gate_builtin (b := .append) (xs := #[.tmp 48, .tmp 52]) rfl ?_); at_builtin; refine i_rows (w0 := wr) wr.heap.size rfl (.tmp 48) (.tmp 52) rfl v2 ([] ++ [(x, x)]) [] none 0 c rfl (by simp [Act.eval]) R2.out (Kd.C_below HR0.out HBW.out) HBW.out HBW.out.size (by simp only [List.length_append, List.length_cons, List.length_nil]; omega) [(x, x)] rfl ?_; intro v3 w5 r3 b3; obtain ⟨A3, c3, rfl, hle3, hC3⟩ := IRow.reads r3; have RR := Aside0.mk r3; clear hC3 r3 R2 HBW; have HBW := Aside0.mk b3; clear HB HS0 HS2 qHS0_0 lHS0 qHS2_0 lHS2 fHS2; have HB := Aside0.mk (below_step HBc.out HBW.out); have HS0 := Aside0.mk (blk_below HS0c.out HBW.out); have HS2 := Aside0.mk (blk_below HS2c.out HBW.out); have qHS0_0 := blk_cell HS0.out 0; have lHS0 := blk_lt HS0.out; simp only [List.getElem?_toArray, List.getElem?_cons_zero, List.getElem?_cons_succ] at qHS0_0; have qHS2_0 := blk_cell HS2.out 0; have lHS2 := blk_lt HS2.out; simp only [List.getElem?_toArray, List.getElem?_cons_zero, List.getElem?_cons_succ] at qHS2_0; have fHS2 := blk_frozen HS2.out 0; clear b3))
    all_goals (try (exfalso; omega))
    refine bodyPost_ret (v := .agg #[.slice A3 [(x, x)].length c3]) (by simp [results, Try.results12, go_sem, World.cell?_setCell_same _ _ _ qHS2_0]) rfl ?_
    exact ⟨A3, c3, rfl, IRow.set_C RR.out HS2.out (by decide) _, hle3, below_set HB.out (by omega)⟩
theorem addL_nil (x : Int) : addL [] x = [(x, x)] := by
  unfold addL
  rw [if_neg (by rw [hasL_no [] x rfl]; simp [rightL]), if_pos (by simp [addM, insI])]
  simp [addM, insI]
theorem radd_c {W : World} {A : Option Addr} {n c : Nat} {L : List Iv} (hr : Kd.C kI W A n L) (hc : n ≤ c) (hlm : n ≤ 140737488351232) (x : Int) (M : List Iv) (hM : addL L x = M) :
    Calls Try.prog 12 #[.agg #[.slice A n c], .int .i64 x] W fun e w' => ∃ A' c', e = .returned (.agg #[.slice A' M.length c']) ∧ Kd.C kI w' A' M.length M ∧ M.length ≤ c' ∧ Below W.heap.size W w' := by
  subst hM
  cases hb : rightL L with
  | false => exact radd_bad hr hc hlm x hb
  | true =>
    cases hh : hasL L x with
    | true => exact radd_had hr hc hlm x hb hh
    | false =>
      have hn := hr.1
      subst hn
      rcases A with _ | ad
      · obtain ⟨_, rfl⟩ := C_nil_eq hr
        rw [addL_nil]
        exact radd_nil x
      · exact radd_some hr hc hlm x hb hh _ _ rfl rfl
theorem add_sc {W : World} {A : Option Addr} {n c : Nat} {L : List Iv} (hr : Kd.C kI W A n L) (hc : n ≤ c) (hlm : n ≤ 140737488351232) (x : Int) (M : List Iv) (hM : addL L x = M) :
    Calls Try.prog 11 #[.agg #[.slice A n c], .int .i64 x] W fun e w' => ∃ A' c', e = .returned (.agg #[.slice A' M.length c']) ∧ Kd.C kI w' A' M.length M ∧ M.length ≤ c' ∧ ((A' = A ∧ c' = c ∧ M = L) ∨ ∃ g, A' = some ⟨g, 0, none⟩ ∧ RowI w' g c' M) ∧ Below W.heap.size W w' := by
  subst hM
  cases hb : rightL L with
  | false => exact add_bad hr hc hlm x hb
  | true =>
    cases hh : hasL L x with
    | true => exact add_had hr hc hlm x hb hh
    | false =>
      have hl4 := rightL_len hb
      have hml : (addM L x).length = L.length + 1 := insI_len _ _ _ (atI_le L x)
      by_cases h4 : (addM L x).length ≤ 4
      · exact add_room hr hc hlm x hb hh _ rfl h4
      · exact add_merge hr hc hlm x hb hh _ _ rfl (by omega) rfl
theorem add_c {W : World} {A : Option Addr} {n c : Nat} {L : List Iv} (hr : Kd.C kI W A n L) (hc : n ≤ c) (hlm : n ≤ 140737488351232) (x : Int) (M : List Iv) (hM : addL L x = M) :
    Calls Try.prog 11 #[.agg #[.slice A n c], .int .i64 x] W fun e w' => ∃ A' c', e = .returned (.agg #[.slice A' M.length c']) ∧ Kd.C kI w' A' M.length M ∧ M.length ≤ c' ∧ Below W.heap.size W w' := by
  refine (add_sc hr hc hlm x M hM).mono ?_
  rintro e w1 ⟨A', c', h1, h2, h3, _, h4⟩
  exact ⟨A', c', h1, h2, h3, h4⟩
theorem addL_len (L : List Iv) (x : Int) : (addL L x).length ≤ max L.length 4 := by
  unfold addL
  split
  · omega
  · split
    · omega
    · rename_i h1 h2
      have hr : rightL L = true := by
        cases h : rightL L with
        | true => rfl
        | false => exact absurd (.inl h) h1
      have hl4 := rightL_len hr
      have hml : (addM L x).length = L.length + 1 := insI_len _ _ _ (atI_le L x)
      unfold mergeI
      have := leastN_lt (addM L x) 5
      rw [delI_len _ _ (by rw [List.length_set]; omega), List.length_set]
      omega
end Go.Proofs.Ytoidaakmmnlhgaa.Hand

/- Intervals: the chapter's examples. -/
set_option linter.unusedVariables false
set_option linter.unusedSimpArgs false
namespace Go.Proofs.Ytoidaakmmnlhgaa.Hand
open Go.RowKit Go.Proofs.YtoidaakmmnlhgaaW.PrintWords Go.Proofs.YtoidaakmmnlhgaaW.PrintLast Go.Proofs.YtoidaakmmnlhgaaW.PrintMore
theorem add_n {W : World} {A : Option Addr} {n c : Nat} {L : List Iv} (hr : Kd.C kI W A n L) (hc : n ≤ c) (hlm : n ≤ 140737488351232) (x : Int) (M : List Iv) (hM : addL L x = M) :
    Calls Try.prog 11 #[.agg #[.slice A n c], .int .i64 x] W fun e w' => ∃ A' n' c', e = .returned (.agg #[.slice A' n' c']) ∧ Kd.C kI w' A' n' M ∧ n' ≤ c' ∧ n' ≤ max n 4 ∧ Below W.heap.size W w' := by
  have hl := addL_len L x
  rw [hM, hr.1] at hl
  refine (add_c hr hc hlm x M hM).mono ?_
  rintro e w1 ⟨A', c', rfl, h1, h2, h3⟩
  exact ⟨A', M.length, c', rfl, h1, h2, hl, h3⟩
theorem radd_n {W : World} {A : Option Addr} {n c : Nat} {L : List Iv} (hr : Kd.C kI W A n L) (hc : n ≤ c) (hlm : n ≤ 140737488351232) (x : Int) (M : List Iv) (hM : addL L x = M) :
    Calls Try.prog 12 #[.agg #[.slice A n c], .int .i64 x] W fun e w' => ∃ A' n' c', e = .returned (.agg #[.slice A' n' c']) ∧ Kd.C kI w' A' n' M ∧ n' ≤ c' ∧ n' ≤ max n 4 ∧ Below W.heap.size W w' := by
  have hl := addL_len L x
  rw [hM, hr.1] at hl
  refine (radd_c hr hc hlm x M hM).mono ?_
  rintro e w1 ⟨A', c', rfl, h1, h2, h3⟩
  exact ⟨A', M.length, c', rfl, h1, h2, hl, h3⟩
/-- The cell of a struct that holds a slice is none of a row of intervals. -/
theorem C_box {w : World} {A : Option Addr} {n g t' : Nat} {L : List Iv} {B : Option Addr} {m d : Nat} (h : Kd.C kI w A n L) (hb : w.heap[g]? = some (.cells #[.slice B m d] t' (0, 0))) (v : Value) : Kd.C kI (w.setCell ⟨g, 0, none⟩ v) A n L := by
  have s0 := blk_cell hb 0
  refine ⟨h.1, h.2.1, fun hp => ?_⟩
  obtain ⟨ad, e, hr⟩ := h.2.2 hp
  refine ⟨ad, e, fun j p hj => ?_⟩
  obtain ⟨cs, hl, hK, hc⟩ := hr j p hj
  refine ⟨cs, hl, hK, fun i u hu => ?_⟩
  rw [World.cell?_setCell_other _ _ _ _ (fun e => ?_)]
  · exact hc i u hu
  · have h1 := hc i u hu
    rw [← e, s0] at h1
    obtain ⟨c1, c2, rfl, k1, k2⟩ := hK
    obtain rfl : c1 = [.int .i64 p.1] := k1
    obtain rfl : c2 = [.int .i64 p.2] := k2
    rcases i with _ | _ | i
    · simp at hu h1; rw [← h1] at hu; cases hu
    · simp at hu h1; rw [← h1] at hu; cases hu
    · simp at hu
theorem blk_put {w : World} {g t' : Nat} {u : Value} (hb : w.heap[g]? = some (.cells #[u] t' (0, 0))) (v : Value) : (w.setCell ⟨g, 0, none⟩ v).heap[g]? = some (.cells #[v] t' (0, 0)) := blk_set hb 0 v
theorem ints_C {w : World} {z t' : Nat} (l : List Int) (h : w.heap[z]? = some (.cells (l.map (Value.int .i64)).toArray t' (0, 0))) (hl : l.length ≤ 9223372036854775807 := by decide) : Kd.C (Kd.int .i64) w (some ⟨z, 0, none⟩) l.length l := by
  refine ⟨rfl, hl, fun _ => ⟨_, rfl, fun j p hj => ⟨[.int .i64 p], rfl, rfl, fun i u hu => ?_⟩⟩⟩
  rcases i with _ | i
  · rw [Addr.add_lit, blk_cell h, Nat.zero_add, List.getElem?_toArray, List.getElem?_map, show j * (Kd.int .i64).sz + 0 = j from by rw [show (Kd.int .i64).sz = 1 from rfl]; omega, hj]
    exact hu
  · simp at hu
theorem ivs_C {w : World} {z t' : Nat} (L : List Iv) (h : w.heap[z]? = some (.cells (flatI L).toArray t' (0, 0))) (hl : L.length ≤ 9223372036854775807 := by decide) : Kd.C kI w (some ⟨z, 0, none⟩) L.length L := by
  refine ⟨rfl, hl, fun _ => ⟨_, rfl, fun j p hj => ⟨[.int .i64 p.1, .int .i64 p.2], rfl, ⟨_, _, rfl, rfl, rfl⟩, fun i u hu => ?_⟩⟩⟩
  obtain ⟨f1, f2⟩ := flat_at L j p hj
  rw [Addr.add_lit, blk_cell h, Nat.zero_add, List.getElem?_toArray, show kI.sz = 2 from rfl]
  rcases i with _ | _ | i
  · rw [Nat.add_zero, f1]; exact hu
  · rw [f2]; exact hu
  · simp at hu
theorem iv1_at {W : World} {ad : Addr} {n : Nat} {L : List Iv} (h : Kd.C kI W (some ad) n L) (x : Iv) (hx : L[1]? = some x) : W.cell? ⟨ad.block, ad.off + 2, none⟩ = some (.int .i64 x.1) ∧ W.cell? ⟨ad.block, ad.off + 2 + 1, none⟩ = some (.int .i64 x.2) ∧ W.cell? ⟨ad.block, ad.off + 3, none⟩ = some (.int .i64 x.2) := by
  obtain ⟨h1, h2⟩ := iv_at h 1 x hx
  exact ⟨h1, h2, h2⟩
def exN : Nat → Int
  | 0 => 10 | 1 => 0 | 2 => 3 | 3 => 20 | _ => 5
def exL : Nat → List Iv
  | 0 => [] | 1 => [(10, 10)] | 2 => [(0, 0), (10, 10)] | 3 => [(0, 0), (3, 3), (10, 10)] | 4 => [(0, 0), (3, 3), (10, 10), (20, 20)] | _ => [(0, 0), (3, 5), (10, 10), (20, 20)]
theorem exL_step : ∀ k, k < 5 → addL (exL k) (exN k) = exL (k + 1)
  | 0, _ => by decide +kernel
  | 1, _ => by decide +kernel
  | 2, _ => by decide +kernel
  | 3, _ => by decide +kernel
  | 4, _ => by decide +kernel
set_option maxHeartbeats 4000000 in
set_option maxRecDepth 100000 in
theorem examples_c (W : World) : Calls Try.prog 8 #[] W fun e w' => e = .returned (.bool true) ∧ Below W.heap.size W w' := by
  have HB := Aside0.mk (Below.refl W.heap.size W)
  have HL := Aside0.mk (Below.refl W.heap.size W)
  go_enter Try.func8, Try.ntmps8
  go_wp2
  go_loopw [2] (fun v2 wr => ∃ k : Nat, v2 = .int .i64 (k : Int) ∧ k ≤ 5 ∧ Aside0 (Below W.heap.size W wr) ∧ ∃ (A : Option Addr) (n c : Nat), n ≤ c ∧ n ≤ 4 ∧ Aside0 (wr.heap[W.heap.size]? = some (.cells #[.slice A n c] 24 (0, 0))) ∧ Aside0 (Kd.C kI wr A n (exL k))) (fun v _ => 5 - (intOf v).toNat)
  case atStart => exact ⟨0, rfl, by omega, ⟨(by repeat (first | (with_reducible first | exact HB.out | apply below_alloc | apply pw_below_drewN | apply below_drew1) | exact HB.out))⟩, none, 0, 0, by omega, by omega, ⟨(by repeat (first | (with_reducible refine blk_drewN ?_ _) | (with_reducible refine blk_drew ?_) | exact blk_new' (by first | rfl | simp) | (with_reducible refine blk_alloc ?_ _)))⟩, ⟨rfl, by omega, fun h => absurd h (by omega)⟩⟩
  case round =>
    clear HB HL
    obtain ⟨k, rfl, hk, HB, A, n, c, hnc, hn4, HS, HC⟩ := hrel
    have HL := Aside0.mk (Below.refl wr.heap.size wr)
    have s0 := blk_cell HS.out 0
    have sl := blk_lt HS.out
    have sf := blk_frozen HS.out 0
    simp only [List.getElem?_toArray, List.getElem?_cons_zero] at s0
    by_cases hlt : k < 5
    · have HA := Aside0.mk (exL_step k hlt)
      rcases k with _ | _ | _ | _ | _ | k
      · go_wp2
        go_region_law (first | (refine goes_ Try.func11 (by kernel_rfl) rfl #[.agg #[.slice A n c], .int .i64 10] (by rfl) rfl rfl (by simp only [List.map_toArray, List.map_cons, List.map_nil]; rfl) ?_; refine (add_n (Kd.C_below HC.out (by repeat (first | (with_reducible first | exact HL.out | apply below_alloc | apply pw_below_drewN | apply below_drew1) | exact HL.out))) hnc (by omega) (exN 0) _ HA.out).mono ?_; rintro e w1 ⟨A1, n1, c1, rfl, hC, hnc1, hn1, hb⟩; refine ⟨_, rfl, ?_⟩; have n_ := Aside0.mk (below_step (by repeat (first | (with_reducible first | exact HB.out | apply below_alloc | apply pw_below_drewN | apply below_drew1) | exact HB.out)) hb); clear HB; have HB := n_; clear n_; have n_ := Aside0.mk (blk_below (o := .cells #[.slice A n c] 24 (0, 0)) (g := W.heap.size) (by repeat (first | exact HS.out | (with_reducible refine blk_drewN ?_ _) | (with_reducible refine blk_drew ?_) | (with_reducible refine blk_alloc ?_ _))) hb); clear HS s0 sl sf; have HS := n_; clear n_; have s0 := blk_cell HS.out 0; have sl := blk_lt HS.out; have sf := blk_frozen HS.out 0; simp only [List.getElem?_toArray, List.getElem?_cons_zero] at s0; have HC1 := Aside0.mk hC; clear hC HC HL hb; have HL := Aside0.mk (Below.refl w1.heap.size w1)))
        all_goals go_wp2
        all_goals go_roundw
        all_goals (try (case rel => exact ⟨1, by go_num, by omega, ⟨below_set HB.out (Nat.le_refl _)⟩, A1, n1, c1, hnc1, by omega, ⟨blk_put HS.out _⟩, ⟨C_box HC1.out HS.out _⟩⟩))
        all_goals (try (case measure => (simp [intOf])))
      · go_wp2
        go_region_law (first | (refine goes_ Try.func11 (by kernel_rfl) rfl #[.agg #[.slice A n c], .int .i64 0] (by rfl) rfl rfl (by simp only [List.map_toArray, List.map_cons, List.map_nil]; rfl) ?_; refine (add_n (Kd.C_below HC.out (by repeat (first | (with_reducible first | exact HL.out | apply below_alloc | apply pw_below_drewN | apply below_drew1) | exact HL.out))) hnc (by omega) (exN 1) _ HA.out).mono ?_; rintro e w1 ⟨A1, n1, c1, rfl, hC, hnc1, hn1, hb⟩; refine ⟨_, rfl, ?_⟩; have n_ := Aside0.mk (below_step (by repeat (first | (with_reducible first | exact HB.out | apply below_alloc | apply pw_below_drewN | apply below_drew1) | exact HB.out)) hb); clear HB; have HB := n_; clear n_; have n_ := Aside0.mk (blk_below (o := .cells #[.slice A n c] 24 (0, 0)) (g := W.heap.size) (by repeat (first | exact HS.out | (with_reducible refine blk_drewN ?_ _) | (with_reducible refine blk_drew ?_) | (with_reducible refine blk_alloc ?_ _))) hb); clear HS s0 sl sf; have HS := n_; clear n_; have s0 := blk_cell HS.out 0; have sl := blk_lt HS.out; have sf := blk_frozen HS.out 0; simp only [List.getElem?_toArray, List.getElem?_cons_zero] at s0; have HC1 := Aside0.mk hC; clear hC HC HL hb; have HL := Aside0.mk (Below.refl w1.heap.size w1)))
        all_goals go_wp2
        all_goals go_roundw
        all_goals (try (case rel => exact ⟨2, by go_num, by omega, ⟨below_set HB.out (Nat.le_refl _)⟩, A1, n1, c1, hnc1, by omega, ⟨blk_put HS.out _⟩, ⟨C_box HC1.out HS.out _⟩⟩))
        all_goals (try (case measure => (simp [intOf])))
      · go_wp2
        go_region_law (first | (refine goes_ Try.func11 (by kernel_rfl) rfl #[.agg #[.slice A n c], .int .i64 3] (by rfl) rfl rfl (by simp only [List.map_toArray, List.map_cons, List.map_nil]; rfl) ?_; refine (add_n (Kd.C_below HC.out (by repeat (first | (with_reducible first | exact HL.out | apply below_alloc | apply pw_below_drewN | apply below_drew1) | exact HL.out))) hnc (by omega) (exN 2) _ HA.out).mono ?_; rintro e w1 ⟨A1, n1, c1, rfl, hC, hnc1, hn1, hb⟩; refine ⟨_, rfl, ?_⟩; have n_ := Aside0.mk (below_step (by repeat (first | (with_reducible first | exact HB.out | apply below_alloc | apply pw_below_drewN | apply below_drew1) | exact HB.out)) hb); clear HB; have HB := n_; clear n_; have n_ := Aside0.mk (blk_below (o := .cells #[.slice A n c] 24 (0, 0)) (g := W.heap.size) (by repeat (first | exact HS.out | (with_reducible refine blk_drewN ?_ _) | (with_reducible refine blk_drew ?_) | (with_reducible refine blk_alloc ?_ _))) hb); clear HS s0 sl sf; have HS := n_; clear n_; have s0 := blk_cell HS.out 0; have sl := blk_lt HS.out; have sf := blk_frozen HS.out 0; simp only [List.getElem?_toArray, List.getElem?_cons_zero] at s0; have HC1 := Aside0.mk hC; clear hC HC HL hb; have HL := Aside0.mk (Below.refl w1.heap.size w1)))
        all_goals go_wp2
        all_goals go_roundw
        all_goals (try (case rel => exact ⟨3, by go_num, by omega, ⟨below_set HB.out (Nat.le_refl _)⟩, A1, n1, c1, hnc1, by omega, ⟨blk_put HS.out _⟩, ⟨C_box HC1.out HS.out _⟩⟩))
        all_goals (try (case measure => (simp [intOf])))
      · go_wp2
        go_region_law (first | (refine goes_ Try.func11 (by kernel_rfl) rfl #[.agg #[.slice A n c], .int .i64 20] (by rfl) rfl rfl (by simp only [List.map_toArray, List.map_cons, List.map_nil]; rfl) ?_; refine (add_n (Kd.C_below HC.out (by repeat (first | (with_reducible first | exact HL.out | apply below_alloc | apply pw_below_drewN | apply below_drew1) | exact HL.out))) hnc (by omega) (exN 3) _ HA.out).mono ?_; rintro e w1 ⟨A1, n1, c1, rfl, hC, hnc1, hn1, hb⟩; refine ⟨_, rfl, ?_⟩; have n_ := Aside0.mk (below_step (by repeat (first | (with_reducible first | exact HB.out | apply below_alloc | apply pw_below_drewN | apply below_drew1) | exact HB.out)) hb); clear HB; have HB := n_; clear n_; have n_ := Aside0.mk (blk_below (o := .cells #[.slice A n c] 24 (0, 0)) (g := W.heap.size) (by repeat (first | exact HS.out | (with_reducible refine blk_drewN ?_ _) | (with_reducible refine blk_drew ?_) | (with_reducible refine blk_alloc ?_ _))) hb); clear HS s0 sl sf; have HS := n_; clear n_; have s0 := blk_cell HS.out 0; have sl := blk_lt HS.out; have sf := blk_frozen HS.out 0; simp only [List.getElem?_toArray, List.getElem?_cons_zero] at s0; have HC1 := Aside0.mk hC; clear hC HC HL hb; have HL := Aside0.mk (Below.refl w1.heap.size w1)))
        all_goals go_wp2
        all_goals go_roundw
        all_goals (try (case rel => exact ⟨4, by go_num, by omega, ⟨below_set HB.out (Nat.le_refl _)⟩, A1, n1, c1, hnc1, by omega, ⟨blk_put HS.out _⟩, ⟨C_box HC1.out HS.out _⟩⟩))
        all_goals (try (case measure => (simp [intOf])))
      · go_wp2
        go_region_law (first | (refine goes_ Try.func11 (by kernel_rfl) rfl #[.agg #[.slice A n c], .int .i64 5] (by rfl) rfl rfl (by simp only [List.map_toArray, List.map_cons, List.map_nil]; rfl) ?_; refine (add_n (Kd.C_below HC.out (by repeat (first | (with_reducible first | exact HL.out | apply below_alloc | apply pw_below_drewN | apply below_drew1) | exact HL.out))) hnc (by omega) (exN 4) _ HA.out).mono ?_; rintro e w1 ⟨A1, n1, c1, rfl, hC, hnc1, hn1, hb⟩; refine ⟨_, rfl, ?_⟩; have n_ := Aside0.mk (below_step (by repeat (first | (with_reducible first | exact HB.out | apply below_alloc | apply pw_below_drewN | apply below_drew1) | exact HB.out)) hb); clear HB; have HB := n_; clear n_; have n_ := Aside0.mk (blk_below (o := .cells #[.slice A n c] 24 (0, 0)) (g := W.heap.size) (by repeat (first | exact HS.out | (with_reducible refine blk_drewN ?_ _) | (with_reducible refine blk_drew ?_) | (with_reducible refine blk_alloc ?_ _))) hb); clear HS s0 sl sf; have HS := n_; clear n_; have s0 := blk_cell HS.out 0; have sl := blk_lt HS.out; have sf := blk_frozen HS.out 0; simp only [List.getElem?_toArray, List.getElem?_cons_zero] at s0; have HC1 := Aside0.mk hC; clear hC HC HL hb; have HL := Aside0.mk (Below.refl w1.heap.size w1)))
        all_goals go_wp2
        all_goals go_roundw
        all_goals (try (case rel => exact ⟨5, by go_num, by omega, ⟨below_set HB.out (Nat.le_refl _)⟩, A1, n1, c1, hnc1, by omega, ⟨blk_put HS.out _⟩, ⟨C_box HC1.out HS.out _⟩⟩))
        all_goals (try (case measure => (simp [intOf])))
      · omega
    · obtain rfl : k = 5 := by omega
      have hn := HC.out.1
      have HN := Aside0.mk hn
      have hni : (n : Int) = 4 := by have : n = 4 := hn.symm; omega
      have hnm : n ≤ 140737488351232 := by omega
      have hn1 : 1 < n := by have : n = 4 := hn.symm; omega
      have hn1i : (1 : Int) < (n : Int) := by omega
      clear hn
      obtain ⟨ad, ea, _⟩ := HC.out.2.2 (by omega)
      subst ea
      have d0 := (iv1_at HC.out (3, 5) rfl).1
      have d1 := (iv1_at HC.out (3, 5) rfl).2.1
      have d2 := (iv1_at HC.out (3, 5) rfl).2.2
      simp only at d0 d1 d2
      have E1 := Aside0.mk (show hasL (exL 5) 4 = true by decide +kernel)
      have E2 := Aside0.mk (show hasL (exL 5) 3 = true by decide +kernel)
      have E3 := Aside0.mk (show hasL (exL 5) 6 = false by decide +kernel)
      have E4 := Aside0.mk (show meetsL (exL 5) 1 3 = true by decide +kernel)
      have E5 := Aside0.mk (show meetsL (exL 5) 11 19 = false by decide +kernel)
      have E6 := Aside0.mk (show coverL (exL 5) [0, 10, 20, 4] = true by decide +kernel)
      have E7 := Aside0.mk (show coverL (exL 5) [0, 1] = false by decide +kernel)
      have E8 := Aside0.mk (show rightL (exL 5) = true by decide +kernel)

      have E10 := Aside0.mk (show rightL [(1, 0)] = false by decide +kernel)
      go_wp2_with (first | (go_at_call 14; (with_reducible refine (has_c (Kd.C_below HC.out (by repeat (first | (with_reducible first | exact HL.out | apply below_alloc | apply pw_below_drewN | apply below_drew1) | exact HL.out))) hnc hnm 4 _ E1.out).mono ?_); rintro e x1 ⟨rfl, hb⟩; have n0_ := Aside0.mk (below_step (by repeat (first | (with_reducible first | exact HB.out | apply below_alloc | apply pw_below_drewN | apply below_drew1) | exact HB.out)) hb); clear HB; have HB := n0_; clear n0_; have hs_ := below_step (by repeat (first | (with_reducible first | exact HL.out | apply below_alloc | apply pw_below_drewN | apply below_drew1) | exact HL.out)) hb; have n_ := Aside0.mk (blk_below HS.out hs_); clear HS s0 sl sf; have HS := n_; clear n_; have s0 := blk_cell HS.out 0; have sl := blk_lt HS.out; have sf := blk_frozen HS.out 0; simp only [List.getElem?_toArray, List.getElem?_cons_zero] at s0; have n_ := Aside0.mk (Kd.C_below HC.out hs_); clear HC d0 d1 d2; have HC := n_; clear n_; have d0 := (iv1_at HC.out (3, 5) rfl).1; have d1 := (iv1_at HC.out (3, 5) rfl).2.1; have d2 := (iv1_at HC.out (3, 5) rfl).2.2; simp only at d0 d1 d2; clear HL hs_ hb; have HL := Aside0.mk (Below.refl x1.heap.size x1)) | (go_at_call 14; (with_reducible refine (has_c (Kd.C_below HC.out (by repeat (first | (with_reducible first | exact HL.out | apply below_alloc | apply pw_below_drewN | apply below_drew1) | exact HL.out))) hnc hnm 3 _ E2.out).mono ?_); rintro e x2 ⟨rfl, hb⟩; have n0_ := Aside0.mk (below_step (by repeat (first | (with_reducible first | exact HB.out | apply below_alloc | apply pw_below_drewN | apply below_drew1) | exact HB.out)) hb); clear HB; have HB := n0_; clear n0_; have hs_ := below_step (by repeat (first | (with_reducible first | exact HL.out | apply below_alloc | apply pw_below_drewN | apply below_drew1) | exact HL.out)) hb; have n_ := Aside0.mk (blk_below HS.out hs_); clear HS s0 sl sf; have HS := n_; clear n_; have s0 := blk_cell HS.out 0; have sl := blk_lt HS.out; have sf := blk_frozen HS.out 0; simp only [List.getElem?_toArray, List.getElem?_cons_zero] at s0; have n_ := Aside0.mk (Kd.C_below HC.out hs_); clear HC d0 d1 d2; have HC := n_; clear n_; have d0 := (iv1_at HC.out (3, 5) rfl).1; have d1 := (iv1_at HC.out (3, 5) rfl).2.1; have d2 := (iv1_at HC.out (3, 5) rfl).2.2; simp only at d0 d1 d2; clear HL hs_ hb; have HL := Aside0.mk (Below.refl x2.heap.size x2)) | (go_at_call 14; (with_reducible refine (has_c (Kd.C_below HC.out (by repeat (first | (with_reducible first | exact HL.out | apply below_alloc | apply pw_below_drewN | apply below_drew1) | exact HL.out))) hnc hnm 6 _ E3.out).mono ?_); rintro e x3 ⟨rfl, hb⟩; have n0_ := Aside0.mk (below_step (by repeat (first | (with_reducible first | exact HB.out | apply below_alloc | apply pw_below_drewN | apply below_drew1) | exact HB.out)) hb); clear HB; have HB := n0_; clear n0_; have hs_ := below_step (by repeat (first | (with_reducible first | exact HL.out | apply below_alloc | apply pw_below_drewN | apply below_drew1) | exact HL.out)) hb; have n_ := Aside0.mk (blk_below HS.out hs_); clear HS s0 sl sf; have HS := n_; clear n_; have s0 := blk_cell HS.out 0; have sl := blk_lt HS.out; have sf := blk_frozen HS.out 0; simp only [List.getElem?_toArray, List.getElem?_cons_zero] at s0; have n_ := Aside0.mk (Kd.C_below HC.out hs_); clear HC d0 d1 d2; have HC := n_; clear n_; have d0 := (iv1_at HC.out (3, 5) rfl).1; have d1 := (iv1_at HC.out (3, 5) rfl).2.1; have d2 := (iv1_at HC.out (3, 5) rfl).2.2; simp only at d0 d1 d2; clear HL hs_ hb; have HL := Aside0.mk (Below.refl x3.heap.size x3)) | (go_at_call 16; (with_reducible refine (meets_c (Kd.C_below HC.out (by repeat (first | (with_reducible first | exact HL.out | apply below_alloc | apply pw_below_drewN | apply below_drew1) | exact HL.out))) hnc hnm 1 3 _ E4.out).mono ?_); rintro e x4 ⟨rfl, hb⟩; have n0_ := Aside0.mk (below_step (by repeat (first | (with_reducible first | exact HB.out | apply below_alloc | apply pw_below_drewN | apply below_drew1) | exact HB.out)) hb); clear HB; have HB := n0_; clear n0_; have hs_ := below_step (by repeat (first | (with_reducible first | exact HL.out | apply below_alloc | apply pw_below_drewN | apply below_drew1) | exact HL.out)) hb; have n_ := Aside0.mk (blk_below HS.out hs_); clear HS s0 sl sf; have HS := n_; clear n_; have s0 := blk_cell HS.out 0; have sl := blk_lt HS.out; have sf := blk_frozen HS.out 0; simp only [List.getElem?_toArray, List.getElem?_cons_zero] at s0; have n_ := Aside0.mk (Kd.C_below HC.out hs_); clear HC d0 d1 d2; have HC := n_; clear n_; have d0 := (iv1_at HC.out (3, 5) rfl).1; have d1 := (iv1_at HC.out (3, 5) rfl).2.1; have d2 := (iv1_at HC.out (3, 5) rfl).2.2; simp only at d0 d1 d2; clear HL hs_ hb; have HL := Aside0.mk (Below.refl x4.heap.size x4)) | (go_at_call 16; (with_reducible refine (meets_c (Kd.C_below HC.out (by repeat (first | (with_reducible first | exact HL.out | apply below_alloc | apply pw_below_drewN | apply below_drew1) | exact HL.out))) hnc hnm 11 19 _ E5.out).mono ?_); rintro e x5 ⟨rfl, hb⟩; have n0_ := Aside0.mk (below_step (by repeat (first | (with_reducible first | exact HB.out | apply below_alloc | apply pw_below_drewN | apply below_drew1) | exact HB.out)) hb); clear HB; have HB := n0_; clear n0_; have hs_ := below_step (by repeat (first | (with_reducible first | exact HL.out | apply below_alloc | apply pw_below_drewN | apply below_drew1) | exact HL.out)) hb; have n_ := Aside0.mk (blk_below HS.out hs_); clear HS s0 sl sf; have HS := n_; clear n_; have s0 := blk_cell HS.out 0; have sl := blk_lt HS.out; have sf := blk_frozen HS.out 0; simp only [List.getElem?_toArray, List.getElem?_cons_zero] at s0; have n_ := Aside0.mk (Kd.C_below HC.out hs_); clear HC d0 d1 d2; have HC := n_; clear n_; have d0 := (iv1_at HC.out (3, 5) rfl).1; have d1 := (iv1_at HC.out (3, 5) rfl).2.1; have d2 := (iv1_at HC.out (3, 5) rfl).2.2; simp only at d0 d1 d2; clear HL hs_ hb; have HL := Aside0.mk (Below.refl x5.heap.size x5)) | (go_at_call 18; have hlit := (show Kd.C (Kd.int .i64) (x5.alloc (.cells #[.int .i64 0, .int .i64 10, .int .i64 20, .int .i64 4] 2 (0, 0))) (some ⟨x5.heap.size, 0, none⟩) 4 [0, 10, 20, 4] from ints_C [0, 10, 20, 4] (blk_new x5 _)); (with_reducible refine (cover_c (Kd.C_below HC.out (by repeat (first | (with_reducible first | exact HL.out | apply below_alloc | apply pw_below_drewN | apply below_drew1) | exact HL.out))) hlit hnc (by omega) hnm _ E6.out).mono ?_); rintro e x6 ⟨rfl, hb⟩; have n0_ := Aside0.mk (below_step (by repeat (first | (with_reducible first | exact HB.out | apply below_alloc | apply pw_below_drewN | apply below_drew1) | exact HB.out)) hb); clear HB; have HB := n0_; clear n0_; have hs_ := below_step (by repeat (first | (with_reducible first | exact HL.out | apply below_alloc | apply pw_below_drewN | apply below_drew1) | exact HL.out)) hb; have n_ := Aside0.mk (blk_below HS.out hs_); clear HS s0 sl sf; have HS := n_; clear n_; have s0 := blk_cell HS.out 0; have sl := blk_lt HS.out; have sf := blk_frozen HS.out 0; simp only [List.getElem?_toArray, List.getElem?_cons_zero] at s0; have n_ := Aside0.mk (Kd.C_below HC.out hs_); clear HC d0 d1 d2; have HC := n_; clear n_; have d0 := (iv1_at HC.out (3, 5) rfl).1; have d1 := (iv1_at HC.out (3, 5) rfl).2.1; have d2 := (iv1_at HC.out (3, 5) rfl).2.2; simp only at d0 d1 d2; clear HL hs_ hb; have HL := Aside0.mk (Below.refl x6.heap.size x6)) | (go_at_call 18; have hlit := (show Kd.C (Kd.int .i64) (x6.alloc (.cells #[.int .i64 0, .int .i64 1] 2 (0, 0))) (some ⟨x6.heap.size, 0, none⟩) 2 [0, 1] from ints_C [0, 1] (blk_new x6 _)); (with_reducible refine (cover_c (Kd.C_below HC.out (by repeat (first | (with_reducible first | exact HL.out | apply below_alloc | apply pw_below_drewN | apply below_drew1) | exact HL.out))) hlit hnc (by omega) hnm _ E7.out).mono ?_); rintro e x7 ⟨rfl, hb⟩; have n0_ := Aside0.mk (below_step (by repeat (first | (with_reducible first | exact HB.out | apply below_alloc | apply pw_below_drewN | apply below_drew1) | exact HB.out)) hb); clear HB; have HB := n0_; clear n0_; have hs_ := below_step (by repeat (first | (with_reducible first | exact HL.out | apply below_alloc | apply pw_below_drewN | apply below_drew1) | exact HL.out)) hb; have n_ := Aside0.mk (blk_below HS.out hs_); clear HS s0 sl sf; have HS := n_; clear n_; have s0 := blk_cell HS.out 0; have sl := blk_lt HS.out; have sf := blk_frozen HS.out 0; simp only [List.getElem?_toArray, List.getElem?_cons_zero] at s0; have n_ := Aside0.mk (Kd.C_below HC.out hs_); clear HC d0 d1 d2; have HC := n_; clear n_; have d0 := (iv1_at HC.out (3, 5) rfl).1; have d1 := (iv1_at HC.out (3, 5) rfl).2.1; have d2 := (iv1_at HC.out (3, 5) rfl).2.2; simp only at d0 d1 d2; clear HL hs_ hb; have HL := Aside0.mk (Below.refl x7.heap.size x7)) | (go_at_call 20; (with_reducible refine (right_c (Kd.C_below HC.out (by repeat (first | (with_reducible first | exact HL.out | apply below_alloc | apply pw_below_drewN | apply below_drew1) | exact HL.out))) hnc hnm _ E8.out).mono ?_); rintro e x8 ⟨rfl, hb⟩; have n0_ := Aside0.mk (below_step (by repeat (first | (with_reducible first | exact HB.out | apply below_alloc | apply pw_below_drewN | apply below_drew1) | exact HB.out)) hb); clear HB; have HB := n0_; clear n0_; have hs_ := below_step (by repeat (first | (with_reducible first | exact HL.out | apply below_alloc | apply pw_below_drewN | apply below_drew1) | exact HL.out)) hb; have n_ := Aside0.mk (blk_below HS.out hs_); clear HS s0 sl sf; have HS := n_; clear n_; have s0 := blk_cell HS.out 0; have sl := blk_lt HS.out; have sf := blk_frozen HS.out 0; simp only [List.getElem?_toArray, List.getElem?_cons_zero] at s0; have n_ := Aside0.mk (Kd.C_below HC.out hs_); clear HC d0 d1 d2; have HC := n_; clear n_; have d0 := (iv1_at HC.out (3, 5) rfl).1; have d1 := (iv1_at HC.out (3, 5) rfl).2.1; have d2 := (iv1_at HC.out (3, 5) rfl).2.2; simp only at d0 d1 d2; clear HL hs_ hb; have HL := Aside0.mk (Below.refl x8.heap.size x8)) | (go_at_call 22; (with_reducible refine (same_c (Kd.C_below HC.out (by repeat (first | (with_reducible first | exact HL.out | apply below_alloc | apply pw_below_drewN | apply below_drew1) | exact HL.out))) (Kd.C_below HC.out (by repeat (first | (with_reducible first | exact HL.out | apply below_alloc | apply pw_below_drewN | apply below_drew1) | exact HL.out))) hnm true (decide_eq_true rfl)).mono ?_); rintro e x9 ⟨rfl, hb⟩; have n0_ := Aside0.mk (below_step (by repeat (first | (with_reducible first | exact HB.out | apply below_alloc | apply pw_below_drewN | apply below_drew1) | exact HB.out)) hb); clear HB; have HB := n0_; clear n0_; have hs_ := below_step (by repeat (first | (with_reducible first | exact HL.out | apply below_alloc | apply pw_below_drewN | apply below_drew1) | exact HL.out)) hb; have n_ := Aside0.mk (blk_below HS.out hs_); clear HS s0 sl sf; have HS := n_; clear n_; have s0 := blk_cell HS.out 0; have sl := blk_lt HS.out; have sf := blk_frozen HS.out 0; simp only [List.getElem?_toArray, List.getElem?_cons_zero] at s0; have n_ := Aside0.mk (Kd.C_below HC.out hs_); clear HC d0 d1 d2; have HC := n_; clear n_; have d0 := (iv1_at HC.out (3, 5) rfl).1; have d1 := (iv1_at HC.out (3, 5) rfl).2.1; have d2 := (iv1_at HC.out (3, 5) rfl).2.2; simp only at d0 d1 d2; clear HL hs_ hb; have HL := Aside0.mk (Below.refl x9.heap.size x9)) | (go_at_call 20; have hlit := (show Kd.C kI (x9.alloc (.cells #[.int .i64 1, .int .i64 0] 43 (0, 0))) (some ⟨x9.heap.size, 0, none⟩) 1 [(1, 0)] from ivs_C [(1, 0)] (blk_new x9 _)); (with_reducible refine (right_c hlit (by omega) (by omega) _ E10.out).mono ?_); rintro e x10 ⟨rfl, hb⟩; have n0_ := Aside0.mk (below_step (by repeat (first | (with_reducible first | exact HB.out | apply below_alloc | apply pw_below_drewN | apply below_drew1) | exact HB.out)) hb); clear HB; have HB := n0_; clear n0_; have hs_ := below_step (by repeat (first | (with_reducible first | exact HL.out | apply below_alloc | apply pw_below_drewN | apply below_drew1) | exact HL.out)) hb; have n_ := Aside0.mk (blk_below HS.out hs_); clear HS s0 sl sf; have HS := n_; clear n_; have s0 := blk_cell HS.out 0; have sl := blk_lt HS.out; have sf := blk_frozen HS.out 0; simp only [List.getElem?_toArray, List.getElem?_cons_zero] at s0; have n_ := Aside0.mk (Kd.C_below HC.out hs_); clear HC d0 d1 d2; have HC := n_; clear n_; have d0 := (iv1_at HC.out (3, 5) rfl).1; have d1 := (iv1_at HC.out (3, 5) rfl).2.1; have d2 := (iv1_at HC.out (3, 5) rfl).2.2; simp only at d0 d1 d2; clear HL hs_ hb; have HL := Aside0.mk (Below.refl x10.heap.size x10)))
      all_goals (try (exfalso; omega))
      all_goals go_ret
      all_goals exact ⟨rfl, HB.out⟩
end Go.Proofs.Ytoidaakmmnlhgaa.Hand

/- Intervals: what comes in; near; the same as the reference's. -/
set_option linter.unusedVariables false
set_option linter.unusedSimpArgs false
namespace Go.Proofs.Ytoidaakmmnlhgaa.Hand
open Go.RowKit Go.Proofs.YtoidaakmmnlhgaaW.PrintWords Go.Proofs.YtoidaakmmnlhgaaW.PrintLast Go.Proofs.YtoidaakmmnlhgaaW.PrintMore
def ivOf (ys : List (List Int)) : List Iv := ys.map (fun y => (y.getD 0 0, y.getD 1 0))
theorem arr2_C {W : World} {A : Option Addr} {n : Nat} {ys : List (List Int)} (h : Kd.C (Kd.arr 2 (Kd.int .i64) (by decide)) W A n ys) : Kd.C kI W A n (ivOf ys) := by
  refine ⟨by unfold ivOf; rw [List.length_map]; exact h.1, h.2.1, fun hp => ?_⟩
  obtain ⟨ad, e, hr⟩ := h.2.2 hp
  refine ⟨ad, e, fun j p hj => ?_⟩
  unfold ivOf at hj
  rw [List.getElem?_map] at hj
  obtain ⟨y, hy, rfl⟩ := Option.map_eq_some_iff.1 hj
  obtain ⟨cs, hl, hK, hc⟩ := hr j y hy
  obtain ⟨h1, h2⟩ := Kd.arr_cells hK
  match y, h1, h2 with
  | [a, b], _, h2 =>
    refine ⟨cs, hl, ?_, hc⟩
    rw [h2]
    exact ⟨[.int .i64 a], [.int .i64 b], rfl, rfl, rfl⟩
def nearF (n k : Int) : Int := (PSpansTells.jettisonlaw19_near.f n k).getD 0
theorem near_some (n k : Int) (hk : 0 ≤ k) : PSpansTells.jettisonlaw19_near.f n k = some (nearF n k) := by
  unfold nearF PSpansTells.jettisonlaw19_near.f
  have h1 : 0 ≤ Int.tmod k 3 := by rw [Int.tmod_eq_emod_of_nonneg hk]; omega
  have h2 : Int.tmod k 3 < 3 := by rw [Int.tmod_eq_emod_of_nonneg hk]; omega
  by_cases c1 : k < 150
  · simp [c1]
  · by_cases c2 : k < 190
    · simp [c1, c2, h1, h2]
    · simp [c1, c2]
theorem near_c {W : World} (n k : Int) (hk : 0 ≤ k) (r : Int) (hr : nearF n k = r) : Calls Try.prog 10 #[.int .i64 n, .int .u8 k] W fun e w' => e = .returned (.int .i64 r) ∧ Below W.heap.size W w' := by
  subst hr
  exact PSpansTells.jettisonlaw19_near.calls n k _ W (near_some n k hk)
set_option maxHeartbeats 1000000 in
set_option maxRecDepth 100000 in
theorem ref_c {W : World} {A : Option Addr} {n c : Nat} : Calls Try.prog 9 #[.agg #[.slice A n c]] W fun e w' => e = .returned (.agg #[.slice A n c]) ∧ Below W.heap.size W w' := by
  have HB := Aside0.mk (Below.refl W.heap.size W)
  go_enter Try.func9, Try.ntmps9
  go_wp2
  refine bodyPost_ret (v := .agg #[.slice A n c]) (by simp [results, Try.results9, go_sem]) rfl ⟨rfl, (by repeat (first | exact HB.out | (with_reducible refine below_set ?_ (by simp)) | apply below_alloc | apply below_drew1))⟩
/-- All numbers of a row, one behind the other. -/
def adds (L : List Iv) (l : List Int) : List Iv := l.foldl addL L
theorem adds_take {L : List Iv} {l : List Int} (k : Nat) (x : Int) (hx : l[k]? = some x) : adds L (l.take (k + 1)) = addL (adds L (l.take k)) x := by
  unfold adds
  rw [List.take_add_one, hx, List.foldl_append]
  rfl
end Go.Proofs.Ytoidaakmmnlhgaa.Hand

/- Intervals: plain laws of having and of being right. -/
set_option linter.unusedVariables false
set_option linter.unusedSimpArgs false
namespace Go.Proofs.Ytoidaakmmnlhgaa.Hand
open Go.RowKit
theorem hasL_iff (L : List Iv) (x : Int) : hasL L x = true ↔ ∃ y ∈ L, y.1 ≤ x ∧ x ≤ y.2 := by
  unfold hasL meetsL
  simp only [Int.le_refl, decide_true, Bool.true_and, List.any_eq_true]
  constructor
  · rintro ⟨y, hy, h⟩
    simp [hitB] at h
    exact ⟨y, hy, h.2.1, h.2.2⟩
  · rintro ⟨y, hy, h1, h2⟩
    exact ⟨y, hy, by simp [hitB]; omega⟩
theorem hasL_mem {L M : List Iv} (h : ∀ y ∈ L, ∃ z ∈ M, z.1 ≤ y.1 ∧ y.2 ≤ z.2) (x : Int) (hx : hasL L x = true) : hasL M x = true := by
  rw [hasL_iff] at hx ⊢
  obtain ⟨y, hy, h1, h2⟩ := hx
  obtain ⟨z, hz, h3, h4⟩ := h y hy
  exact ⟨z, hz, by omega, by omega⟩
/-- Right, told by neighbours. -/
theorem rightL_iff (L : List Iv) : rightL L = true ↔ L.length ≤ 4 ∧ (∀ y ∈ L, y.1 ≤ y.2) ∧ ∀ j y z, L[j]? = some y → L[j + 1]? = some z → y.2 < z.1 := by
  unfold rightL
  rw [Bool.and_eq_true, Bool.not_eq_true', List.any_eq_false, decide_eq_true_eq]
  constructor
  · rintro ⟨h, hl⟩
    refine ⟨hl, fun y hy => ?_, fun j y z hy hz => ?_⟩
    · obtain ⟨k, hk⟩ := List.getElem?_of_mem hy
      have hkl := (List.getElem?_eq_some_iff.1 hk).1
      have := h k (List.mem_range.2 hkl)
      unfold badB at this
      rw [hk] at this
      simp at this
      exact this.1
    · have hkl := (List.getElem?_eq_some_iff.1 hz).1
      have := h (j + 1) (List.mem_range.2 hkl)
      unfold badB at this
      rw [hz] at this
      simp [hy] at this
      omega
  · rintro ⟨hl, h1, h2⟩
    refine ⟨fun k hk => ?_, hl⟩
    have hkl := List.mem_range.1 hk
    obtain ⟨y, hy⟩ : ∃ y, L[k]? = some y := ⟨L[k], List.getElem?_eq_getElem hkl⟩
    unfold badB
    rw [hy]
    have := h1 y (List.mem_of_getElem? hy)
    rcases k with _ | j
    · simp; exact this
    · obtain ⟨z, hz⟩ : ∃ z, L[j]? = some z := ⟨L[j], List.getElem?_eq_getElem (by omega)⟩
      have := h2 j z y hz hy
      simp [hz]
      omega
theorem idxB_spec {α : Type} (p : α → Bool) : ∀ (L : List α) (m : Nat), (idxB p L m = -1 ∧ L.any p = false) ∨ ∃ k x, idxB p L m = ((m + k : Nat) : Int) ∧ L[k]? = some x ∧ p x = true ∧ (L.take k).any p = false
  | [], _ => .inl ⟨rfl, rfl⟩
  | y :: r, m => by
    unfold idxB
    cases hp : p y with
    | true => exact .inr ⟨0, y, by simp, rfl, hp, rfl⟩
    | false =>
      rcases idxB_spec p r (m + 1) with ⟨h1, h2⟩ | ⟨k, x, h1, h2, h3, h4⟩
      · exact .inl ⟨by simpa using h1, by simp [hp, h2]⟩
      · refine .inr ⟨k + 1, x, ?_, by simpa using h2, h3, by simp [hp, h4]⟩
        simp only [Bool.false_eq_true, if_false, h1]
        congr 1
        omega
theorem at_spec (L : List Iv) (x : Int) : (∀ j y, L[j]? = some y → j < atI L x → y.1 ≤ x) ∧ ∀ z, L[atI L x]? = some z → x < z.1 := by
  unfold atI
  rcases idxB_spec (gtB x) L 0 with ⟨h1, h2⟩ | ⟨k, z, h1, h2, h3, h4⟩
  · rw [h1, if_pos (by omega)]
    refine ⟨fun j y hy _ => ?_, fun z hz => ?_⟩
    · have := List.any_eq_false.1 h2 y (List.mem_of_getElem? hy)
      simp [gtB] at this
      omega
    · rw [List.getElem?_eq_none (Nat.le_refl _)] at hz
      cases hz
  · rw [h1, if_neg (by omega), Nat.zero_add, Int.toNat_natCast]
    refine ⟨fun j y hy hj => ?_, fun w hw => ?_⟩
    · have := List.any_eq_false.1 h4 y (List.mem_of_getElem? (i := j) (by rw [List.getElem?_take, if_pos hj]; exact hy))
      simp [gtB] at this
      omega
    · rw [h2] at hw
      cases hw
      simpa [gtB] using h3
theorem at_before {L : List Iv} {x : Int} (hh : hasL L x = false) (j : Nat) (y : Iv) (hy : L[j]? = some y) (hj : j < atI L x) : y.2 < x := by
  have h1 := (at_spec L x).1 j y hy hj
  rcases Int.lt_or_le y.2 x with h | h
  · exact h
  · have := (hasL_iff L x).2 ⟨y, List.mem_of_getElem? hy, h1, h⟩
    rw [this] at hh
    cases hh
theorem ins_get (L : List Iv) (i : Nat) (x : Iv) (hi : i ≤ L.length) (j : Nat) : (insI L i x)[j]? = if j < i then L[j]? else if j = i then some x else L[j - 1]? := by
  rw [insI]
  by_cases h1 : j < i
  · rw [if_pos h1, List.getElem?_append_left (by rw [List.length_take]; omega), List.getElem?_take, if_pos h1]
  · rw [if_neg h1, List.getElem?_append_right (by rw [List.length_take]; omega), List.length_take, Nat.min_eq_left hi]
    by_cases h2 : j = i
    · rw [if_pos h2, h2, Nat.sub_self, List.getElem?_cons_zero]
    · rw [if_neg h2, show j - i = (j - 1 - i) + 1 by omega, List.getElem?_cons_succ, List.getElem?_drop, show i + (j - 1 - i) = j - 1 by omega]
/-- In order: of every two neighbours the first ends ahead of the second. -/
def Srt (L : List Iv) : Prop := (∀ y ∈ L, y.1 ≤ y.2) ∧ ∀ j y z, L[j]? = some y → L[j + 1]? = some z → y.2 < z.1
theorem ins_mem (L : List Iv) (i : Nat) (x y : Iv) : y ∈ insI L i x ↔ y = x ∨ y ∈ L := by
  unfold insI
  rw [List.mem_append, List.mem_cons]
  constructor
  · rintro (h | h | h)
    · exact .inr (List.mem_of_mem_take h)
    · exact .inl h
    · exact .inr (List.mem_of_mem_drop h)
  · rintro (h | h)
    · exact .inr (.inl h)
    · rw [← List.take_append_drop i L, List.mem_append] at h
      rcases h with h | h
      · exact .inl h
      · exact .inr (.inr h)
theorem add_srt {L : List Iv} {x : Int} (h : Srt L) (hh : hasL L x = false) : Srt (addM L x) := by
  have hi := atI_le L x
  refine ⟨fun y hy => ?_, fun j y z hy hz => ?_⟩
  · rcases (ins_mem L _ _ y).1 hy with rfl | hy
    · exact Int.le_refl _
    · exact h.1 y hy
  · unfold addM at hy hz
    rw [ins_get _ _ _ hi] at hy hz
    by_cases h1 : j + 1 < atI L x
    · rw [if_pos (by omega)] at hy
      rw [if_pos h1] at hz
      exact h.2 j y z hy hz
    · rw [if_neg h1] at hz
      by_cases h2 : j + 1 = atI L x
      · rw [if_pos h2] at hz
        rw [if_pos (by omega)] at hy
        cases hz
        exact at_before hh j y hy (by omega)
      · rw [if_neg h2, Nat.add_sub_cancel] at hz
        rw [if_neg (by omega)] at hy
        by_cases h3 : j = atI L x
        · rw [if_pos h3] at hy
          cases hy
          exact (at_spec L x).2 z (by rw [← h3]; exact hz)
        · rw [if_neg h3] at hy
          obtain ⟨i, rfl⟩ : ∃ i, j = i + 1 := ⟨j - 1, by omega⟩
          rw [Nat.add_sub_cancel] at hy
          exact h.2 i y z hy hz
theorem mg_get {M : List Iv} {m : Nat} (v : Iv) (hm : m + 1 < M.length) (j : Nat) : ((M.take m ++ [v]) ++ M.drop (m + 1 + 1))[j]? = if j < m then M[j]? else if j = m then some v else M[j + 1]? := by
  rw [List.append_assoc]
  have hl : (M.take m).length = m := by rw [List.length_take]; omega
  by_cases h1 : j < m
  · rw [if_pos h1, List.getElem?_append_left (by omega), List.getElem?_take, if_pos h1]
  · rw [if_neg h1, List.getElem?_append_right (by omega), hl]
    by_cases h2 : j = m
    · rw [if_pos h2, h2, Nat.sub_self]; rfl
    · rw [if_neg h2, show j - m = (j - m - 1) + 1 by omega]
      show ((v :: M.drop (m + 1 + 1))[j - m - 1 + 1]? : Option Iv) = _
      rw [List.getElem?_cons_succ, List.getElem?_drop, show m + 1 + 1 + (j - m - 1) = j + 1 by omega]
theorem merge_all {M : List Iv} (h : Srt M) (m : Nat) (hm0 : 1 ≤ m) (hm : m < M.length) :
    Srt (mergeI M m) ∧ (∀ x, hasL M x = true → hasL (mergeI M m) x = true) ∧ (mergeI M m).length = M.length - 1 ∧ ∀ y ∈ mergeI M m, (∃ z ∈ M, z.1 = y.1) ∧ ∃ z ∈ M, z.2 = y.2 := by
  obtain ⟨m, rfl⟩ : ∃ k, m = k + 1 := ⟨m - 1, by omega⟩
  obtain ⟨z0, hz0⟩ : ∃ y, M[m]? = some y := ⟨M[m], List.getElem?_eq_getElem (by omega)⟩
  obtain ⟨z1, hz1⟩ : ∃ y, M[m + 1]? = some y := ⟨M[m + 1], List.getElem?_eq_getElem hm⟩
  obtain ⟨s0, t0⟩ := z0
  obtain ⟨s1, t1⟩ := z1
  have e0 := h.2 m _ _ hz0 hz1
  have l0 := h.1 _ (List.mem_of_getElem? hz0)
  have l1 := h.1 _ (List.mem_of_getElem? hz1)
  simp only at e0 l0 l1
  have hlen : (mergeI M (m + 1)).length = M.length - 1 := by
    rw [mergeI_eq hm hz0 hz1]
    simp only [List.length_append, List.length_take, List.length_cons, List.length_nil, List.length_drop]
    omega
  rw [mergeI_eq hm hz0 hz1] at hlen ⊢
  have G := fun j => mg_get (M := M) (m := m) (s0, t1) hm j
  refine ⟨⟨fun y hy => ?_, fun j y z hy hz => ?_⟩, fun x hx => ?_, hlen, fun y hy => ?_⟩
  · obtain ⟨j, hj⟩ := List.getElem?_of_mem hy
    rw [G] at hj
    split at hj
    · exact h.1 y (List.mem_of_getElem? hj)
    · split at hj
      · cases hj; show s0 ≤ t1; omega
      · exact h.1 y (List.mem_of_getElem? hj)
  · rw [G] at hy hz
    by_cases h1 : j + 1 < m
    · rw [if_pos (by omega)] at hy
      rw [if_pos h1] at hz
      exact h.2 j y z hy hz
    · rw [if_neg h1] at hz
      by_cases h2 : j + 1 = m
      · rw [if_pos h2] at hz
        rw [if_pos (by omega)] at hy
        cases hz
        subst h2
        exact (show y.2 < s0 from h.2 j y (s0, t0) hy hz0)
      · rw [if_neg h2] at hz
        rw [if_neg (by omega)] at hy
        by_cases h3 : j = m
        · rw [if_pos h3] at hy
          cases hy
          subst h3
          exact (show t1 < z.1 from h.2 (j + 1) (s1, t1) z hz1 hz)
        · rw [if_neg h3] at hy
          exact h.2 (j + 1) y z hy hz
  · refine hasL_mem (L := M) (fun y hy => ?_) x hx
    obtain ⟨j, hj⟩ := List.getElem?_of_mem hy
    by_cases h1 : j < m
    · exact ⟨y, List.mem_of_getElem? (i := j) (by rw [G, if_pos h1]; exact hj), Int.le_refl _, Int.le_refl _⟩
    · by_cases h2 : j = m
      · subst h2
        rw [hz0] at hj
        cases hj
        exact ⟨(s0, t1), List.mem_of_getElem? (i := j) (by rw [G, if_neg (by omega), if_pos rfl]), Int.le_refl _, by show t0 ≤ t1; omega⟩
      · by_cases h3 : j = m + 1
        · subst h3
          rw [hz1] at hj
          cases hj
          exact ⟨(s0, t1), List.mem_of_getElem? (i := m) (by rw [G, if_neg (by omega), if_pos rfl]), by show s0 ≤ s1; omega, Int.le_refl _⟩
        · exact ⟨y, List.mem_of_getElem? (i := j - 1) (by rw [G, if_neg (by omega), if_neg (by omega), show j - 1 + 1 = j by omega]; exact hj), Int.le_refl _, Int.le_refl _⟩
  · obtain ⟨j, hj⟩ := List.getElem?_of_mem hy
    rw [G] at hj
    split at hj
    · exact ⟨⟨y, List.mem_of_getElem? hj, rfl⟩, y, List.mem_of_getElem? hj, rfl⟩
    · split at hj
      · cases hj
        exact ⟨⟨_, List.mem_of_getElem? hz0, rfl⟩, _, List.mem_of_getElem? hz1, rfl⟩
      · exact ⟨⟨y, List.mem_of_getElem? hj, rfl⟩, y, List.mem_of_getElem? hj, rfl⟩
/-- What adding does. -/
theorem addL_all {L : List Iv} (h : rightL L = true) (x : Int) :
    rightL (addL L x) = true ∧ hasL (addL L x) x = true ∧ (∀ y, hasL L y = true → hasL (addL L x) y = true) ∧ ∀ y ∈ addL L x, (y.1 = x ∨ ∃ z ∈ L, z.1 = y.1) ∧ (y.2 = x ∨ ∃ z ∈ L, z.2 = y.2) := by
  have hr := (rightL_iff L).1 h
  cases hh : hasL L x with
  | true =>
    have e : addL L x = L := by unfold addL; rw [if_pos (.inr hh)]
    rw [e]
    exact ⟨h, hh, fun _ hy => hy, fun y hy => ⟨.inr ⟨y, hy, rfl⟩, .inr ⟨y, hy, rfl⟩⟩⟩
  | false =>
    have hs : Srt (addM L x) := add_srt ⟨hr.2.1, hr.2.2⟩ hh
    have hl : (addM L x).length = L.length + 1 := insI_len _ _ _ (atI_le L x)
    have hm : ∀ y, y ∈ addM L x ↔ y = (x, x) ∨ y ∈ L := fun y => ins_mem L _ _ y
    have hx : hasL (addM L x) x = true := (hasL_iff _ _).2 ⟨(x, x), (hm _).2 (.inl rfl), Int.le_refl _, Int.le_refl _⟩
    have hk : ∀ y, hasL L y = true → hasL (addM L x) y = true := fun y hy => hasL_mem (fun z hz => ⟨z, (hm z).2 (.inr hz), Int.le_refl _, Int.le_refl _⟩) y hy
    have hends : ∀ y ∈ addM L x, (y.1 = x ∨ ∃ z ∈ L, z.1 = y.1) ∧ (y.2 = x ∨ ∃ z ∈ L, z.2 = y.2) := fun y hy => by
      rcases (hm y).1 hy with rfl | hy
      · exact ⟨.inl rfl, .inl rfl⟩
      · exact ⟨.inr ⟨y, hy, rfl⟩, .inr ⟨y, hy, rfl⟩⟩
    by_cases h4 : (addM L x).length ≤ 4
    · have e : addL L x = addM L x := by unfold addL; rw [if_neg (by rw [h, hh]; simp), if_pos h4]
      rw [e]
      exact ⟨(rightL_iff _).2 ⟨h4, hs⟩, hx, hk, hends⟩
    · have e : addL L x = mergeI (addM L x) (leastN (addM L x) 5) := by unfold addL; rw [if_neg (by rw [h, hh]; simp), if_neg h4]
      have h5 := leastN_lt (addM L x) 5
      obtain ⟨m1, m2, m3, m4⟩ := merge_all hs _ (leastN_pos _ 5) (show leastN (addM L x) 5 < (addM L x).length by omega)
      rw [e]
      refine ⟨(rightL_iff _).2 ⟨by omega, m1⟩, m2 x hx, fun y hy => m2 y (hk y hy), fun y hy => ?_⟩
      obtain ⟨⟨z, hz, e1⟩, w, hw, e2⟩ := m4 y hy
      have a1 := (hends z hz).1
      have a2 := (hends w hw).2
      rw [e1] at a1
      rw [e2] at a2
      exact ⟨a1, a2⟩
/-- Points alone. -/
def Pts (L : List Iv) : Prop := ∀ y ∈ L, y.1 = y.2
theorem addL_pts {L : List Iv} (h : rightL L = true) (hp : Pts L) (hl : L.length ≤ 3) (x : Int) :
    Pts (addL L x) ∧ (addL L x).length ≤ L.length + 1 ∧ ∀ y, hasL (addL L x) y = true ↔ (y = x ∨ hasL L y = true) := by
  cases hh : hasL L x with
  | true =>
    have e : addL L x = L := by unfold addL; rw [if_pos (.inr hh)]
    rw [e]
    refine ⟨hp, by omega, fun y => ⟨.inr, ?_⟩⟩
    rintro (rfl | h)
    · exact hh
    · exact h
  | false =>
    have hlen : (addM L x).length = L.length + 1 := insI_len _ _ _ (atI_le L x)
    have e : addL L x = addM L x := by unfold addL; rw [if_neg (by rw [h, hh]; simp), if_pos (by omega)]
    have hm : ∀ y, y ∈ addM L x ↔ y = (x, x) ∨ y ∈ L := fun y => ins_mem L _ _ y
    rw [e]
    refine ⟨fun y hy => ?_, by omega, fun y => ?_⟩
    · rcases (hm y).1 hy with rfl | hy
      · rfl
      · exact hp y hy
    · rw [hasL_iff, hasL_iff]
      constructor
      · rintro ⟨z, hz, h1, h2⟩
        rcases (hm z).1 hz with rfl | hz
        · exact .inl (by simp only at h1 h2; omega)
        · exact .inr ⟨z, hz, h1, h2⟩
      · rintro (rfl | ⟨z, hz, h1, h2⟩)
        · exact ⟨_, (hm _).2 (.inl rfl), Int.le_refl _, Int.le_refl _⟩
        · exact ⟨z, (hm z).2 (.inr hz), h1, h2⟩
theorem adds_right : ∀ (l : List Int) (L : List Iv), rightL L = true → rightL (adds L l) = true
  | [], L, h => h
  | x :: r, L, h => adds_right r (addL L x) (addL_all h x).1
/-- Of at most four numbers just these are had. -/
theorem adds_pts : ∀ (l : List Int) (L : List Iv), rightL L = true → Pts L → L.length + l.length ≤ 4 → Pts (adds L l) ∧ ∀ y, hasL (adds L l) y = true ↔ (y ∈ l ∨ hasL L y = true)
  | [], L, _, hp, _ => ⟨hp, fun y => ⟨.inr, fun h => h.elim (fun h => by cases h) id⟩⟩
  | x :: r, L, h, hp, hl => by
    simp only [List.length_cons] at hl
    obtain ⟨a1, a2, a3⟩ := addL_pts h hp (by omega) x
    obtain ⟨b1, b2⟩ := adds_pts r (addL L x) (addL_all h x).1 a1 (by omega)
    refine ⟨b1, fun y => ?_⟩
    show hasL (adds (addL L x) r) y = true ↔ _
    rw [b2, a3, List.mem_cons]
    constructor
    · rintro (h | h | h)
      · exact .inl (.inr h)
      · exact .inl (.inl h)
      · exact .inr h
    · rintro ((h | h) | h)
      · exact .inr (.inl h)
      · exact .inl h
      · exact .inr (.inr h)
/-- What is had turns nothing. -/
theorem adds_same : ∀ (l : List Int) (L : List Iv), (∀ x ∈ l, hasL L x = true) → adds L l = L
  | [], _, _ => rfl
  | x :: r, L, h => by
    have e : addL L x = L := by unfold addL; rw [if_pos (.inr (h x (List.mem_cons_self)))]
    show adds (addL L x) r = L
    rw [e]
    exact adds_same r L (fun y hy => h y (List.mem_cons_of_mem _ hy))
theorem hasN_iff (l : List Int) (x : Int) : hasN l x = true ↔ x ∈ l := by
  unfold hasN
  rw [List.any_eq_true]
  constructor
  · rintro ⟨y, hy, h⟩
    rw [decide_eq_true_eq] at h
    exact h ▸ hy
  · intro h
    exact ⟨x, h, decide_eq_true rfl⟩
/-- SpansExact's plain law. -/
theorem exact_law (l : List Int) (hl : l.length ≤ 4) :
    adds (adds [] l) l = adds [] l ∧ (∀ n, hasL (adds [] l) n = hasN l n) ∧ coverL (adds [] l) l = true ∧ (adds [] l).length ≤ 4 := by
  obtain ⟨a1, a2⟩ := adds_pts l [] rfl (fun y hy => by cases hy) (by simpa using hl)
  have hnil : ∀ y, hasL [] y = false := fun y => hasL_no [] y rfl
  have a3 : ∀ y, hasL (adds [] l) y = true ↔ y ∈ l := fun y => by rw [a2, hnil]; simp
  refine ⟨adds_same l _ (fun x hx => (a3 x).2 hx), fun n => ?_, ?_, ((rightL_iff _).1 (adds_right l [] rfl)).1⟩
  · have h1 := a3 n
    rw [← hasN_iff] at h1
    cases e1 : hasL (adds [] l) n <;> cases e2 : hasN l n <;> simp_all
  · unfold coverL
    rw [List.all_eq_true]
    exact fun x hx => (a3 x).2 hx
theorem meetsL_iff (L : List Iv) (a b : Int) : meetsL L a b = true ↔ a ≤ b ∧ ∃ y ∈ L, y.1 ≤ y.2 ∧ y.1 ≤ b ∧ a ≤ y.2 := by
  unfold meetsL
  rw [Bool.and_eq_true, decide_eq_true_eq, List.any_eq_true]
  constructor
  · rintro ⟨h, y, hy, h1⟩
    simp [hitB] at h1
    exact ⟨h, y, hy, h1.1, h1.2.1, h1.2.2⟩
  · rintro ⟨h, y, hy, h1, h2, h3⟩
    exact ⟨h, y, hy, by simp [hitB]; omega⟩
/-- SpansMeet's plain law. -/
theorem meet_law (L : List Iv) (h : ∀ y ∈ L, y.1 ≤ y.2) (a b : Int) : meetsL L a b = ((decide (a ≤ b) && (hasL L a || hasL L b)) || L.any (fun y => decide (a ≤ y.1) && decide (y.1 ≤ b))) := by
  rw [Bool.eq_iff_iff, meetsL_iff, Bool.or_eq_true, Bool.and_eq_true, Bool.or_eq_true, decide_eq_true_eq, hasL_iff, hasL_iff, List.any_eq_true]
  constructor
  · rintro ⟨h0, y, hy, h1, h2, h3⟩
    rcases Int.lt_or_le y.1 a with h4 | h4
    · exact .inl ⟨h0, .inl ⟨y, hy, by omega, h3⟩⟩
    · exact .inr ⟨y, hy, by simp; omega⟩
  · rintro (⟨h0, ⟨y, hy, h1, h2⟩ | ⟨y, hy, h1, h2⟩⟩ | ⟨y, hy, h1⟩)
    · exact ⟨h0, y, hy, by omega, by omega, h2⟩
    · exact ⟨h0, y, hy, by omega, h1, by omega⟩
    · simp at h1
      have := h y hy
      exact ⟨by omega, y, hy, this, h1.2, by omega⟩
theorem adds_keep : ∀ (l : List Int) (L : List Iv), rightL L = true → (∀ x ∈ l, hasL (adds L l) x = true) ∧ (∀ y, hasL L y = true → hasL (adds L l) y = true) ∧ ∀ y ∈ adds L l, (y.1 ∈ l ∨ ∃ z ∈ L, z.1 = y.1) ∧ (y.2 ∈ l ∨ ∃ z ∈ L, z.2 = y.2)
  | [], L, _ => ⟨fun _ h => (by cases h), fun _ h => h, fun y hy => ⟨.inr ⟨y, hy, rfl⟩, .inr ⟨y, hy, rfl⟩⟩⟩
  | x :: r, L, h => by
    obtain ⟨a1, a2, a3, a4⟩ := addL_all h x
    obtain ⟨b1, b2, b3⟩ := adds_keep r (addL L x) a1
    refine ⟨fun y hy => ?_, fun y hy => b2 y (a3 y hy), fun y hy => ?_⟩
    · rcases List.mem_cons.1 hy with rfl | hy
      · exact b2 _ a2
      · exact b1 y hy
    · obtain ⟨c1, c2⟩ := b3 y hy
      constructor
      · rcases c1 with c | ⟨z, hz, e⟩
        · exact .inl (List.mem_cons_of_mem _ c)
        · rcases (a4 z hz).1 with e2 | ⟨w, hw, e2⟩
          · exact .inl (by rw [← e, e2]; exact List.mem_cons_self)
          · exact .inr ⟨w, hw, e2.trans e⟩
      · rcases c2 with c | ⟨z, hz, e⟩
        · exact .inl (List.mem_cons_of_mem _ c)
        · rcases (a4 z hz).2 with e2 | ⟨w, hw, e2⟩
          · exact .inl (by rw [← e, e2]; exact List.mem_cons_self)
          · exact .inr ⟨w, hw, e2.trans e⟩
/-- SpansKeep's plain law. -/
theorem keep_law (l : List Int) : rightL (adds [] l) = true ∧ (adds [] l).length ≤ 4 ∧ coverL (adds [] l) l = true ∧ ∀ y ∈ adds [] l, hasN l y.1 = true ∧ hasN l y.2 = true := by
  have h := adds_right l [] rfl
  obtain ⟨b1, _, b3⟩ := adds_keep l [] rfl
  refine ⟨h, ((rightL_iff _).1 h).1, ?_, fun y hy => ?_⟩
  · unfold coverL
    rw [List.all_eq_true]
    exact b1
  · obtain ⟨c1, c2⟩ := b3 y hy
    rw [hasN_iff, hasN_iff]
    exact ⟨c1.elim id (fun ⟨z, hz, _⟩ => by cases hz), c2.elim id (fun ⟨z, hz, _⟩ => by cases hz)⟩
end Go.Proofs.Ytoidaakmmnlhgaa.Hand
