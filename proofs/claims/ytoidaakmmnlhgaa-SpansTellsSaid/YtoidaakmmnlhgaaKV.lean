/- Intervals: near, the reference's form, SpansTells walked; the statement's walk. -/
import Derived.Test.YtoidaakmmnlhgaaKR
import Derived.Test.YtoidaakmmnlhgaaPSpansTellsx1
import Derived.Test.YtoidaakmmnlhgaaWArr
import Derived.Test.YtoidaakmmnlhgaaKA
import Derived.Deep.RegionLaw
import Derived.Deep.DeepCutAuto
import Derived.Deep.CutBlock
import Derived.Test.YtoidaakmmnlhgaaO1
set_option linter.unusedVariables false
set_option linter.unusedSimpArgs false
namespace Go.Proofs.Ytoidaakmmnlhgaa.Hand
open Go.RowKit Go.Proofs.YtoidaakmmnlhgaaW.PrintWords Go.Proofs.YtoidaakmmnlhgaaW.PrintLast Go.Proofs.YtoidaakmmnlhgaaW.PrintMore
def ivOf (ys : List (List Int)) : List Iv := ys.map (fun y => (y.getD 0 0, y.getD 1 0))
theorem arr2_C {W : World} {A : Option Addr} {n : Nat} {ys : List (List Int)} (h : Kd.C (Kd.arr 2 (Kd.int .i64) (by decide)) W A n ys) : Kd.C kI W A n (ivOf ys) := by
  refine ⟨by unfold ivOf; rw [List.length_map]; exact h.1, h.2.1, fun hp => ?_⟩
  obtain ⟨ad, e, hr⟩ := h.2.2 hp
  refine ⟨ad, e, fun j p hj => ?_⟩
  unfold ivOf at hj
  rw [List.getElem?_map] at hj
  obtain ⟨y, hy, rfl⟩ := Option.map_eq_some_iff.1 hj
  obtain ⟨cs, hl, hK, hc⟩ := hr j y hy
  obtain ⟨h1, h2⟩ := Kd.arr_cells hK
  match y, h1, h2 with
  | [a, b], _, h2 =>
    refine ⟨cs, hl, ?_, hc⟩
    rw [h2]
    exact ⟨[.int .i64 a], [.int .i64 b], rfl, rfl, rfl⟩
def nearF (n k : Int) : Int := (PSpansTells.jettisonlaw19_near.f n k).getD 0
theorem near_some (n k : Int) (hk : 0 ≤ k) : PSpansTells.jettisonlaw19_near.f n k = some (nearF n k) := by
  unfold nearF PSpansTells.jettisonlaw19_near.f
  have h1 : 0 ≤ Int.tmod k 3 := by rw [Int.tmod_eq_emod_of_nonneg hk]; omega
  have h2 : Int.tmod k 3 < 3 := by rw [Int.tmod_eq_emod_of_nonneg hk]; omega
  by_cases c1 : k < 150
  · simp [c1]
  · by_cases c2 : k < 190
    · simp [c1, c2, h1, h2]
    · simp [c1, c2]
theorem near_c {W : World} (n k : Int) (hk : 0 ≤ k) (r : Int) (hr : nearF n k = r) : Calls Try.prog 10 #[.int .i64 n, .int .u8 k] W fun e w' => e = .returned (.int .i64 r) ∧ Below W.heap.size W w' := by
  subst hr
  exact PSpansTells.jettisonlaw19_near.calls n k _ W (near_some n k hk)
set_option maxHeartbeats 1000000 in
set_option maxRecDepth 100000 in
theorem ref_c {W : World} {A : Option Addr} {n c : Nat} : Calls Try.prog 9 #[.agg #[.slice A n c]] W fun e w' => e = .returned (.agg #[.slice A n c]) ∧ Below W.heap.size W w' := by
  have HB := Aside0.mk (Below.refl W.heap.size W)
  go_enter Try.func9, Try.ntmps9
  go_wp2
  refine bodyPost_ret (v := .agg #[.slice A n c]) (by simp [results, Try.results9, go_sem]) rfl ⟨rfl, (by repeat (first | exact HB.out | (with_reducible refine below_set ?_ (by simp)) | apply below_alloc | apply below_drew1))⟩
/-- All numbers of a row, one behind the other. -/
def adds (L : List Iv) (l : List Int) : List Iv := l.foldl addL L
theorem adds_take {L : List Iv} {l : List Int} (k : Nat) (x : Int) (hx : l[k]? = some x) : adds L (l.take (k + 1)) = addL (adds L (l.take k)) x := by
  unfold adds
  rw [List.take_add_one, hx, List.foldl_append]
  rfl
end Go.Proofs.Ytoidaakmmnlhgaa.Hand
namespace Go.Proofs.Ytoidaakmmnlhgaa.Hand
open Go.RowKit Go.Proofs.YtoidaakmmnlhgaaW.PrintWords Go.Proofs.YtoidaakmmnlhgaaW.PrintLast Go.Proofs.YtoidaakmmnlhgaaW.PrintMore
theorem int_at' {W : World} {kd : IntKind} {ad : Addr} {n : Nat} {l : List Int} (h : Kd.C (Kd.int kd) W (some ad) n l) (k : Nat) (x : Int) (hx : l[k]? = some x) : W.cell? (ad.add k) = some (.int kd x) := by
  obtain ⟨hk, _⟩ := List.getElem?_eq_some_iff.1 hx
  obtain ⟨ad', e, hr⟩ := h.2.2 (by have := h.1; omega)
  have e' := Option.some.inj e
  subst e'
  obtain ⟨cs, hl, hK, hc⟩ := hr k x hx
  obtain rfl : cs = [.int kd x] := hK
  have a0 := hc 0 _ rfl
  have e1 : ad.add (k * (Kd.int kd).sz + 0) = ad.add k := by rw [show k * (Kd.int kd).sz + 0 = k from by rw [show (Kd.int kd).sz = 1 from rfl]; omega]
  rw [e1] at a0
  exact a0
theorem far_blk {w : World} {g g2 : Nat} {o : Obj} (h : w.heap[g]? = some o) (hne : g ≠ g2) (v : Value) : (w.setCell ⟨g2, 0, none⟩ v).heap[g]? = some o := (Below.heap_setCell w ⟨g2, 0, none⟩ v g hne).trans h
/-- The k-th number that is added. -/
def numF (l how : List Int) (k : Nat) : Int := if k < how.length then nearF (l.getD k 0) (how.getD k 0) else l.getD k 0
def runF (L : List Iv) (f : Nat → Int) : Nat → List Iv
  | 0 => L
  | k + 1 => addL (runF L f k) (f k)
set_option maxHeartbeats 4000000 in
set_option maxRecDepth 100000 in
theorem tells_walk {W : World} {A0 Ay : Option Addr} {n0 c0 ny cy nl cl nh ch : Nat} {Al Ah : Option Addr} {X Y : List Iv} {l how : List Int} (own : Bool) (a b k : Int) (hx : Kd.C kI W A0 n0 X) (hxc : n0 ≤ c0) (hxm : n0 ≤ 140737488351232) (hy : Kd.C kI W Ay ny Y) (hyc : ny ≤ cy) (hym : ny ≤ 140737488351232) (hl : Kd.C (Kd.int .i64) W Al nl l) (hlc : nl ≤ cl) (hlm : nl ≤ 140737488351232) (hh : Kd.C (Kd.int .u8) W Ah nh how) (hhc : nh ≤ ch) (hhm : nh ≤ 140737488351232) (hk : 0 ≤ k) (hk8 : k ≤ 255) (hhw : ∀ x ∈ how, 0 ≤ x) :
    Calls Try.prog 3 #[.agg #[.slice A0 n0 c0], .bool own, .slice Al nl cl, .slice Ah nh ch, .int .i64 a, .int .i64 b, .int .u8 k, .agg #[.slice Ay ny cy]] W fun e w' => e = .returned (.bool true) ∧ Below W.heap.size W w' := by
  have HB := Aside0.mk (Below.refl W.heap.size W)
  have HL := Aside0.mk (Below.refl W.heap.size W)
  have HX := Aside0.mk hx
  have HY := Aside0.mk hy
  have HLR := Aside0.mk hl
  have HHR := Aside0.mk hh
  have HHW := Aside0.mk hhw
  obtain ⟨m, hmin⟩ : ∃ m : Nat, min (n0 : Int) 6 = (m : Int) := ⟨min n0 6, by omega⟩
  have hm1 : m ≤ n0 := by omega
  have hm6 : m ≤ 6 := by omega
  have hm2 : (m : Int) ≤ (n0 : Int) := by omega
  have hm3 : (m : Int) ≤ (c0 : Int) := by omega
  clear hx hy hl hh hhw
  go_enter Try.func3, Try.ntmps3
  go_upto_if 32 with (first | (go_at_call 8; (with_reducible refine (examples_c _).mono ?_); rintro e w1 ⟨rfl, hb⟩; have n0_ := Aside0.mk (below_step (by repeat (first | (with_reducible first | exact HB.out | apply below_alloc | apply pw_below_drewN | apply below_drew1) | exact HB.out)) hb); clear HB; have HB := n0_; clear n0_; have hs_ := below_step (by repeat (first | (with_reducible first | exact HL.out | apply below_alloc | apply pw_below_drewN | apply below_drew1) | exact HL.out)) hb; have BX := Aside0.mk (blk_below (o := .cells #[.slice A0 n0 c0] 24 (0, 0)) (g := W.heap.size) (by repeat (first | (with_reducible refine blk_drewN ?_ _) | (with_reducible refine blk_drew ?_) | exact blk_new' (by first | rfl | simp) | (with_reducible refine blk_alloc ?_ _))) hb); have qBX_0 := blk_cell BX.out 0; have lBX := blk_lt BX.out; simp only [List.getElem?_toArray, List.getElem?_cons_zero, List.getElem?_cons_succ] at qBX_0; have fBX := blk_frozen BX.out 0; have BY := Aside0.mk (blk_below (o := .cells #[.slice Ay ny cy] 24 (0, 0)) (g := (W.heap.size + 1)) (by repeat (first | (with_reducible refine blk_drewN ?_ _) | (with_reducible refine blk_drew ?_) | exact blk_new' (by first | rfl | simp) | (with_reducible refine blk_alloc ?_ _))) hb); have qBY_0 := blk_cell BY.out 0; have lBY := blk_lt BY.out; simp only [List.getElem?_toArray, List.getElem?_cons_zero, List.getElem?_cons_succ] at qBY_0; have fBY := blk_frozen BY.out 0; clear HL hs_ hb; have HL := Aside0.mk (Below.refl w1.heap.size w1)))
  go_cut [] (fun wx => ∃ (A : Option Addr) (n c : Nat) (L0 : List Iv), n ≤ c ∧ n ≤ 6 ∧ Aside0 (Below W.heap.size W wx) ∧ Aside0 (wx.heap[W.heap.size]? = some (.cells #[.slice A n c] 24 (0, 0))) ∧ Aside0 (wx.heap[W.heap.size + 1]? = some (.cells #[.slice Ay ny cy] 24 (0, 0))) ∧ Aside0 (Kd.C kI wx A n L0))
  case first => as_aux_lemma =>
    have hC1 := Kd.C_below HX.out HB.out
    have hCm : Kd.C kI w1 A0 m (X.take m) := by
      have hn := hC1.1
      subst hn
      have := Kd.C_take hC1 hm1
      rwa [show (X.take m).length = m by rw [List.length_take]; omega] at this
    have hB2 := below_set (v := .slice A0 m c0) (j := 0) HB.out (Nat.le_refl W.heap.size)
    have hbx := blk_put BX.out (.slice A0 m c0)
    have hby : (w1.setCell ⟨W.heap.size, 0, none⟩ (.slice A0 m c0)).heap[W.heap.size + 1]? = some (.cells #[.slice Ay ny cy] 24 (0, 0)) := (Below.heap_setCell w1 ⟨W.heap.size, 0, none⟩ _ _ (by show W.heap.size + 1 ≠ W.heap.size; omega)).trans BY.out
    cases own
    · go_wp2
      all_goals go_meet
      exact ⟨A0, m, c0, X.take m, by omega, hm6, ⟨hB2⟩, ⟨hbx⟩, ⟨hby⟩, ⟨C_box hCm BX.out _⟩⟩
    · have fx := blk_frozen hbx 0
      have qx := blk_cell hbx 0
      simp only [List.getElem?_toArray, List.getElem?_cons_zero] at qx
      go_wp2
      all_goals go_meet
      exact ⟨none, 0, 0, [], by omega, by omega, ⟨below_set hB2 (Nat.le_refl _)⟩, ⟨blk_put hbx _⟩, ⟨(Below.heap_setCell _ ⟨W.heap.size, 0, none⟩ _ _ (by show W.heap.size + 1 ≠ W.heap.size; omega)).trans hby⟩, ⟨⟨rfl, by omega, fun h => absurd h (by omega)⟩⟩⟩
  case rest => as_aux_lemma =>
    obtain ⟨A, n, c, L0, hnc, hn6, HB, BX, BY, HC⟩ := hcut
    clear HL qBX_0 lBX fBX qBY_0 lBY fBY
    have qBX_0 := blk_cell BX.out 0
    have lBX := blk_lt BX.out
    simp only [List.getElem?_toArray, List.getElem?_cons_zero, List.getElem?_cons_succ] at qBX_0
    have fBX := blk_frozen BX.out 0
    have qBY_0 := blk_cell BY.out 0
    have lBY := blk_lt BY.out
    simp only [List.getElem?_toArray, List.getElem?_cons_zero, List.getElem?_cons_succ] at qBY_0
    have fBY := blk_frozen BY.out 0
    have HL := Aside0.mk (Below.refl wc.heap.size wc)
    go_upto_block 0 with (first | (go_at_call 9; (with_reducible refine (ref_c).mono ?_); rintro e w2 ⟨rfl, hb⟩; have n0_ := Aside0.mk (below_step (by repeat (first | (with_reducible first | exact HB.out | apply below_alloc | apply pw_below_drewN | apply below_drew1) | exact HB.out)) hb); clear HB; have HB := n0_; clear n0_; have hs_ := below_step (by repeat (first | (with_reducible first | exact HL.out | apply below_alloc | apply pw_below_drewN | apply below_drew1) | exact HL.out)) hb; have n_ := Aside0.mk (blk_below BX.out hs_); clear qBX_0 lBX fBX; clear BX; have BX := n_; clear n_; have qBX_0 := blk_cell BX.out 0; have lBX := blk_lt BX.out; simp only [List.getElem?_toArray, List.getElem?_cons_zero, List.getElem?_cons_succ] at qBX_0; have fBX := blk_frozen BX.out 0; have n_ := Aside0.mk (blk_below BY.out hs_); clear qBY_0 lBY fBY; clear BY; have BY := n_; clear n_; have qBY_0 := blk_cell BY.out 0; have lBY := blk_lt BY.out; simp only [List.getElem?_toArray, List.getElem?_cons_zero, List.getElem?_cons_succ] at qBY_0; have fBY := blk_frozen BY.out 0; have n_ := Aside0.mk (Kd.C_below HC.out hs_); clear HC; have HC := n_; clear n_; clear HL hs_ hb; have HL := Aside0.mk (Below.refl w2.heap.size w2)))
    have hgp : W.heap.size + 1 < w2.heap.size := lBY
    go_cut [19, 20] (fun v19 v20 wx => ∃ Lf, ∃ (A : Option Addr) (n c : Nat) (A' : Option Addr) (n' c' : Nat), n ≤ c ∧ n ≤ 6 ∧ n' ≤ c' ∧ n' ≤ 6 ∧ Aside0 (Below W.heap.size W wx) ∧ Aside0 (wx.heap[W.heap.size]? = some (.cells #[.slice A n c] 24 (0, 0))) ∧ Aside0 (wx.heap[W.heap.size + 1]? = some (.cells #[.slice Ay ny cy] 24 (0, 0))) ∧ Aside0 (wx.heap[w2.heap.size]? = some (.cells #[.slice A' n' c'] 28 (0, 0))) ∧ Aside0 (Kd.C kI wx A n (Lf)) ∧ Aside0 (Kd.C kI wx A' n' (Lf)))
    case first => as_aux_lemma =>
      go_wp2
      go_loopw [19] (fun v19 wr => ∃ j : Nat, v19 = .int .i64 (j : Int) ∧ j ≤ nl ∧ ∃ (A : Option Addr) (n c : Nat) (A' : Option Addr) (n' c' : Nat), n ≤ c ∧ n ≤ 6 ∧ n' ≤ c' ∧ n' ≤ 6 ∧ Aside0 (Below W.heap.size W wr) ∧ Aside0 (wr.heap[W.heap.size]? = some (.cells #[.slice A n c] 24 (0, 0))) ∧ Aside0 (wr.heap[W.heap.size + 1]? = some (.cells #[.slice Ay ny cy] 24 (0, 0))) ∧ Aside0 (wr.heap[w2.heap.size]? = some (.cells #[.slice A' n' c'] 28 (0, 0))) ∧ Aside0 (Kd.C kI wr A n (runF L0 (numF l how) j)) ∧ Aside0 (Kd.C kI wr A' n' (runF L0 (numF l how) j))) (fun v _ => nl - (intOf v).toNat)
      case atStart => exact ⟨0, rfl, by omega, A, n, c, A, n, c, hnc, hn6, hnc, hn6, ⟨(by repeat (first | exact HB.out | (with_reducible refine below_set ?_ (by omega)) | (with_reducible apply below_alloc) | (with_reducible apply below_drew1)))⟩, ⟨(by repeat (first | exact BX.out | (with_reducible refine (Below.heap_setCell _ _ _ _ (by show _ ≠ w2.heap.size; omega)).trans ?_) | (with_reducible refine blk_alloc ?_ _) | (with_reducible refine blk_drew ?_)))⟩, ⟨(by repeat (first | exact BY.out | (with_reducible refine (Below.heap_setCell _ _ _ _ (by show _ ≠ w2.heap.size; omega)).trans ?_) | (with_reducible refine blk_alloc ?_ _) | (with_reducible refine blk_drew ?_)))⟩, ⟨(by repeat (first | exact blk_put (blk_new _ _) _ | exact blk_new _ _ | (with_reducible refine blk_drew ?_)))⟩, ⟨(by repeat (first | exact HC.out | (with_reducible refine Kd.C_below HC.out ?_) | exact Below.refl _ _ | (with_reducible refine Below.setCell ?_ (Nat.le_refl _) _) | (with_reducible apply below_alloc) | (with_reducible apply below_drew1)))⟩, ⟨(by repeat (first | exact HC.out | (with_reducible refine Kd.C_below HC.out ?_) | exact Below.refl _ _ | (with_reducible refine Below.setCell ?_ (Nat.le_refl _) _) | (with_reducible apply below_alloc) | (with_reducible apply below_drew1)))⟩⟩
      case round =>
        clear HB HL BX qBX_0 lBX fBX BY qBY_0 lBY fBY HC
        obtain ⟨j, rfl, hj, A, n, c, A', n', c', hnc, hn6, hnc', hn6', HB, BX, BY, BP, HC, HC'⟩ := hrel
        have qBX_0 := blk_cell BX.out 0
        have lBX := blk_lt BX.out
        simp only [List.getElem?_toArray, List.getElem?_cons_zero, List.getElem?_cons_succ] at qBX_0
        have fBX := blk_frozen BX.out 0
        have qBY_0 := blk_cell BY.out 0
        have lBY := blk_lt BY.out
        simp only [List.getElem?_toArray, List.getElem?_cons_zero, List.getElem?_cons_succ] at qBY_0
        have fBY := blk_frozen BY.out 0
        have qBP_0 := blk_cell BP.out 0
        have lBP := blk_lt BP.out
        simp only [List.getElem?_toArray, List.getElem?_cons_zero, List.getElem?_cons_succ] at qBP_0
        have fBP := blk_frozen BP.out 0
        have HL := Aside0.mk (Below.refl wr.heap.size wr)
        by_cases hlt : j < nl
        · by_cases h20 : j < 20
          · obtain ⟨ad, ea, _⟩ := HLR.out.2.2 (by omega)
            subst ea
            obtain ⟨x, hxj⟩ : ∃ x, l[j]? = some x := ⟨l[j]'(by rw [HLR.out.1]; exact hlt), List.getElem?_eq_getElem _⟩
            have d0 := int_at' (Kd.C_below HLR.out HB.out) j x hxj
            have hjl : (j : Int) < (nl : Int) := by omega
            have hjl20 : (j : Int) < 20 := by omega
            have hlg : l.getD j 0 = x := by rw [List.getD_eq_getElem?_getD, hxj]; rfl
            go_upto_if 53 with fail
            go_cut [20] (fun v20 wx => v20 = .int .i64 (numF l how j) ∧ Aside0 (Below wr.heap.size wr wx))
            case first => as_aux_lemma =>
              by_cases hjh : j < nh
              · obtain ⟨ah, eh, _⟩ := HHR.out.2.2 (by omega)
                subst eh
                have hjh2 : j < how.length := by rw [HHR.out.1]; exact hjh
                obtain ⟨y, hyj⟩ : ∃ y, how[j]? = some y := ⟨how[j], List.getElem?_eq_getElem hjh2⟩
                have hy0 : 0 ≤ y := HHW.out y (List.mem_of_getElem? hyj)
                have e0 := int_at' (Kd.C_below HHR.out HB.out) j y hyj
                have HNF := Aside0.mk (show nearF x y = numF l how j by unfold numF; rw [if_pos hjh2, hlg, List.getD_eq_getElem?_getD, hyj]; rfl)
                have hjhi : (j : Int) < (nh : Int) := by omega
                clear hlg hyj hxj hjh2
                have HB0 := HB
                have HBW := Aside0.mk (Below.refl wr.heap.size wr)
                go_wp2_with (first | (go_at_call 10; (with_reducible refine (near_c x y hy0 _ HNF.out).mono ?_); rintro e w3 ⟨rfl, hb⟩; have n0_ := Aside0.mk (below_step (by repeat (first | (with_reducible first | exact HB.out | apply below_alloc | apply pw_below_drewN | apply below_drew1) | exact HB.out)) hb); clear HB; have HB := n0_; clear n0_; have hs_ := below_step (by repeat (first | (with_reducible first | exact HL.out | apply below_alloc | apply pw_below_drewN | apply below_drew1) | exact HL.out)) hb; have HBq_ := Aside0.mk hs_; clear HL hs_ hb; have HL := Aside0.mk (Below.refl w3.heap.size w3)))
                all_goals go_meet
                all_goals exact ⟨rfl, HBq_⟩
              · have HNF := Aside0.mk (show numF l how j = x by unfold numF; rw [if_neg (by rw [HHR.out.1]; exact hjh), hlg])
                clear hlg
                go_wp2
                all_goals (try (exfalso; omega))
                all_goals go_meet
                all_goals exact ⟨by rw [HNF.out], ⟨Below.refl _ _⟩⟩
            case rest => as_aux_lemma =>
              obtain ⟨rfl, HBx⟩ := hcut
              obtain ⟨q, hq⟩ : ∃ q, numF l how j = q := ⟨_, rfl⟩
              rw [hq]
              have HQ := Aside0.mk hq
              have hB_ := Aside0.mk (below_step HB.out HBx.out)
              have hBX_ := Aside0.mk (blk_below BX.out HBx.out)
              have hBY_ := Aside0.mk (blk_below BY.out HBx.out)
              have hBP_ := Aside0.mk (blk_below BP.out HBx.out)
              have hC_ := Aside0.mk (Kd.C_below HC.out HBx.out)
              have hCP_ := Aside0.mk (Kd.C_below HC'.out HBx.out)
              clear hq d0 HB BX qBX_0 lBX fBX BY qBY_0 lBY fBY BP qBP_0 lBP fBP HL HC HC' hlg hxj
              have HB := hB_
              have BX := hBX_
              have BY := hBY_
              have BP := hBP_
              have HL := Aside0.mk (Below.refl wc.heap.size wc)
              clear hB_ hBX_ hBY_ hBP_
              have qBX_0 := blk_cell BX.out 0
              have lBX := blk_lt BX.out
              simp only [List.getElem?_toArray, List.getElem?_cons_zero, List.getElem?_cons_succ] at qBX_0
              have fBX := blk_frozen BX.out 0
              have qBY_0 := blk_cell BY.out 0
              have lBY := blk_lt BY.out
              simp only [List.getElem?_toArray, List.getElem?_cons_zero, List.getElem?_cons_succ] at qBY_0
              have fBY := blk_frozen BY.out 0
              have qBP_0 := blk_cell BP.out 0
              have lBP := blk_lt BP.out
              simp only [List.getElem?_toArray, List.getElem?_cons_zero, List.getElem?_cons_succ] at qBP_0
              have fBP := blk_frozen BP.out 0
              have HC := hC_
              have HC' := hCP_
              clear hC_ hCP_
              have HRN := Aside0.mk (show addL (runF L0 (numF l how) j) q = runF L0 (numF l how) (j + 1) by rw [← HQ.out]; rfl)
              go_upto_region 15 with (first | (go_at_call 11; (with_reducible refine (add_n (Kd.C_below HC.out (by repeat (first | (with_reducible first | exact HL.out | apply below_alloc | apply pw_below_drewN | apply below_drew1) | exact HL.out))) hnc (by omega) q _ rfl).mono ?_); rintro e w5 ⟨A1, n1, c1, rfl, hC, hnc1, hn1, hb⟩; have n0_ := Aside0.mk (below_step (by repeat (first | (with_reducible first | exact HB.out | apply below_alloc | apply pw_below_drewN | apply below_drew1) | exact HB.out)) hb); clear HB; have HB := n0_; clear n0_; have hs_ := below_step (by repeat (first | (with_reducible first | exact HL.out | apply below_alloc | apply pw_below_drewN | apply below_drew1) | exact HL.out)) hb; have n_ := Aside0.mk (blk_below BX.out hs_); clear qBX_0 lBX fBX; clear BX; have BX := n_; clear n_; have qBX_0 := blk_cell BX.out 0; have lBX := blk_lt BX.out; simp only [List.getElem?_toArray, List.getElem?_cons_zero, List.getElem?_cons_succ] at qBX_0; have fBX := blk_frozen BX.out 0; have n_ := Aside0.mk (blk_below BY.out hs_); clear qBY_0 lBY fBY; clear BY; have BY := n_; clear n_; have qBY_0 := blk_cell BY.out 0; have lBY := blk_lt BY.out; simp only [List.getElem?_toArray, List.getElem?_cons_zero, List.getElem?_cons_succ] at qBY_0; have fBY := blk_frozen BY.out 0; have n_ := Aside0.mk (blk_below BP.out hs_); clear qBP_0 lBP fBP; clear BP; have BP := n_; clear n_; have qBP_0 := blk_cell BP.out 0; have lBP := blk_lt BP.out; simp only [List.getElem?_toArray, List.getElem?_cons_zero, List.getElem?_cons_succ] at qBP_0; have fBP := blk_frozen BP.out 0; have n_ := Aside0.mk (Kd.C_below HC'.out hs_); clear HC'; have HC' := n_; clear n_; have HC1 := Aside0.mk (show Kd.C kI w5 A1 n1 (runF L0 (numF l how) (j + 1)) by rw [← HRN.out]; exact hC); clear hC HC; clear HL hs_ hb; have HL := Aside0.mk (Below.refl w5.heap.size w5)))
              have hB_ := Aside0.mk (show Below W.heap.size W (w5.setCell ⟨W.heap.size, 0, none⟩ (.slice A1 n1 c1)) from below_set HB.out (Nat.le_refl _))
              have hBX_ := Aside0.mk (blk_put BX.out (.slice A1 n1 c1))
              have hBY_ := Aside0.mk (far_blk BY.out (show W.heap.size + 1 ≠ W.heap.size by omega) (.slice A1 n1 c1))
              have hBP_ := Aside0.mk (far_blk BP.out (show w2.heap.size ≠ W.heap.size by omega) (.slice A1 n1 c1))
              have hC_ := Aside0.mk (C_box HC1.out BX.out (.slice A1 n1 c1))
              have hCP_ := Aside0.mk (C_box HC'.out BX.out (.slice A1 n1 c1))
              clear HB BX qBX_0 lBX fBX BY qBY_0 lBY fBY BP qBP_0 lBP fBP HL HC1 HC'
              generalize w5.setCell ⟨W.heap.size, 0, none⟩ (.slice A1 n1 c1) = w6 at *
              have HB := hB_
              have BX := hBX_
              have BY := hBY_
              have BP := hBP_
              have HL := Aside0.mk (Below.refl w6.heap.size w6)
              clear hB_ hBX_ hBY_ hBP_
              have qBX_0 := blk_cell BX.out 0
              have lBX := blk_lt BX.out
              simp only [List.getElem?_toArray, List.getElem?_cons_zero, List.getElem?_cons_succ] at qBX_0
              have fBX := blk_frozen BX.out 0
              have qBY_0 := blk_cell BY.out 0
              have lBY := blk_lt BY.out
              simp only [List.getElem?_toArray, List.getElem?_cons_zero, List.getElem?_cons_succ] at qBY_0
              have fBY := blk_frozen BY.out 0
              have qBP_0 := blk_cell BP.out 0
              have lBP := blk_lt BP.out
              simp only [List.getElem?_toArray, List.getElem?_cons_zero, List.getElem?_cons_succ] at qBP_0
              have fBP := blk_frozen BP.out 0
              have HC := hC_
              have HC' := hCP_
              clear hC_ hCP_
              go_upto_region 16 with (first | (go_at_call 12; (with_reducible refine (radd_n (Kd.C_below HC'.out (by repeat (first | (with_reducible first | exact HL.out | apply below_alloc | apply pw_below_drewN | apply below_drew1) | exact HL.out))) hnc' (by omega) q _ rfl).mono ?_); rintro e w7 ⟨A2, n2, c2, rfl, hC', hnc2, hn2, hb⟩; have n0_ := Aside0.mk (below_step (by repeat (first | (with_reducible first | exact HB.out | apply below_alloc | apply pw_below_drewN | apply below_drew1) | exact HB.out)) hb); clear HB; have HB := n0_; clear n0_; have hs_ := below_step (by repeat (first | (with_reducible first | exact HL.out | apply below_alloc | apply pw_below_drewN | apply below_drew1) | exact HL.out)) hb; have n_ := Aside0.mk (blk_below BX.out hs_); clear qBX_0 lBX fBX; clear BX; have BX := n_; clear n_; have qBX_0 := blk_cell BX.out 0; have lBX := blk_lt BX.out; simp only [List.getElem?_toArray, List.getElem?_cons_zero, List.getElem?_cons_succ] at qBX_0; have fBX := blk_frozen BX.out 0; have n_ := Aside0.mk (blk_below BY.out hs_); clear qBY_0 lBY fBY; clear BY; have BY := n_; clear n_; have qBY_0 := blk_cell BY.out 0; have lBY := blk_lt BY.out; simp only [List.getElem?_toArray, List.getElem?_cons_zero, List.getElem?_cons_succ] at qBY_0; have fBY := blk_frozen BY.out 0; have n_ := Aside0.mk (blk_below BP.out hs_); clear qBP_0 lBP fBP; clear BP; have BP := n_; clear n_; have qBP_0 := blk_cell BP.out 0; have lBP := blk_lt BP.out; simp only [List.getElem?_toArray, List.getElem?_cons_zero, List.getElem?_cons_succ] at qBP_0; have fBP := blk_frozen BP.out 0; have n_ := Aside0.mk (Kd.C_below HC.out hs_); clear HC; have HC := n_; clear n_; have HC2 := Aside0.mk (show Kd.C kI w7 A2 n2 (runF L0 (numF l how) (j + 1)) by rw [← HRN.out]; exact hC'); clear hC' HC'; clear HL hs_ hb; have HL := Aside0.mk (Below.refl w7.heap.size w7)))
              have hB_ := Aside0.mk (show Below W.heap.size W (w7.setCell ⟨w2.heap.size, 0, none⟩ (.slice A2 n2 c2)) from below_set HB.out (by omega))
              have hBP_ := Aside0.mk (blk_put BP.out (.slice A2 n2 c2))
              have hBY_ := Aside0.mk (far_blk BY.out (show W.heap.size + 1 ≠ w2.heap.size by omega) (.slice A2 n2 c2))
              have hBX_ := Aside0.mk (far_blk BX.out (show W.heap.size ≠ w2.heap.size by omega) (.slice A2 n2 c2))
              have hC_ := Aside0.mk (C_box HC.out BP.out (.slice A2 n2 c2))
              have hCP_ := Aside0.mk (C_box HC2.out BP.out (.slice A2 n2 c2))
              clear HB BX qBX_0 lBX fBX BY qBY_0 lBY fBY BP qBP_0 lBP fBP HL HC HC2
              generalize w7.setCell ⟨w2.heap.size, 0, none⟩ (.slice A2 n2 c2) = w8 at *
              have HB := hB_
              have BX := hBX_
              have BY := hBY_
              have BP := hBP_
              have HL := Aside0.mk (Below.refl w8.heap.size w8)
              clear hB_ hBX_ hBY_ hBP_
              have qBX_0 := blk_cell BX.out 0
              have lBX := blk_lt BX.out
              simp only [List.getElem?_toArray, List.getElem?_cons_zero, List.getElem?_cons_succ] at qBX_0
              have fBX := blk_frozen BX.out 0
              have qBY_0 := blk_cell BY.out 0
              have lBY := blk_lt BY.out
              simp only [List.getElem?_toArray, List.getElem?_cons_zero, List.getElem?_cons_succ] at qBY_0
              have fBY := blk_frozen BY.out 0
              have qBP_0 := blk_cell BP.out 0
              have lBP := blk_lt BP.out
              simp only [List.getElem?_toArray, List.getElem?_cons_zero, List.getElem?_cons_succ] at qBP_0
              have fBP := blk_frozen BP.out 0
              have HC := hC_
              have HC' := hCP_
              clear hC_ hCP_
              go_region_law (first | (refine goes_ Try.func9 (by kernel_rfl) rfl #[.agg #[.slice A1 n1 c1]] (by rfl) rfl rfl (by simp only [List.map_toArray, List.map_cons, List.map_nil]; rfl) ?_; refine (ref_c).mono ?_; rintro e w9 ⟨rfl, hb⟩; refine ⟨_, rfl, ?_⟩; have n0_ := Aside0.mk (below_step (by repeat (first | (with_reducible first | exact HB.out | apply below_alloc | apply pw_below_drewN | apply below_drew1) | exact HB.out)) hb); clear HB; have HB := n0_; clear n0_; have n_ := Aside0.mk (Kd.C_below (Kd.C_below HC.out (by repeat (first | (with_reducible first | exact HL.out | apply below_alloc | apply pw_below_drewN | apply below_drew1) | exact HL.out))) hb); clear HC; have HC := n_; clear n_; have n_ := Aside0.mk (Kd.C_below (Kd.C_below HC'.out (by repeat (first | (with_reducible first | exact HL.out | apply below_alloc | apply pw_below_drewN | apply below_drew1) | exact HL.out))) hb); clear HC'; have HC' := n_; clear n_; have n_ := Aside0.mk (blk_below (o := .cells #[.slice A1 n1 c1] 24 (0, 0)) (g := W.heap.size) (by repeat (first | exact BX.out | (with_reducible refine blk_drewN ?_ _) | (with_reducible refine blk_drew ?_) | (with_reducible refine blk_alloc ?_ _))) hb); clear qBX_0 lBX fBX; clear BX; have BX := n_; clear n_; have qBX_0 := blk_cell BX.out 0; have lBX := blk_lt BX.out; simp only [List.getElem?_toArray, List.getElem?_cons_zero, List.getElem?_cons_succ] at qBX_0; have fBX := blk_frozen BX.out 0; have n_ := Aside0.mk (blk_below (o := .cells #[.slice Ay ny cy] 24 (0, 0)) (g := W.heap.size + 1) (by repeat (first | exact BY.out | (with_reducible refine blk_drewN ?_ _) | (with_reducible refine blk_drew ?_) | (with_reducible refine blk_alloc ?_ _))) hb); clear qBY_0 lBY fBY; clear BY; have BY := n_; clear n_; have qBY_0 := blk_cell BY.out 0; have lBY := blk_lt BY.out; simp only [List.getElem?_toArray, List.getElem?_cons_zero, List.getElem?_cons_succ] at qBY_0; have fBY := blk_frozen BY.out 0; have n_ := Aside0.mk (blk_below (o := .cells #[.slice A2 n2 c2] 28 (0, 0)) (g := w2.heap.size) (by repeat (first | exact BP.out | (with_reducible refine blk_drewN ?_ _) | (with_reducible refine blk_drew ?_) | (with_reducible refine blk_alloc ?_ _))) hb); clear qBP_0 lBP fBP; clear BP; have BP := n_; clear n_; have qBP_0 := blk_cell BP.out 0; have lBP := blk_lt BP.out; simp only [List.getElem?_toArray, List.getElem?_cons_zero, List.getElem?_cons_succ] at qBP_0; have fBP := blk_frozen BP.out 0; clear HL hb; have HL := Aside0.mk (Below.refl w9.heap.size w9)) | (refine goes_ Try.func13 (by kernel_rfl) rfl #[.agg #[.slice A1 n1 c1], .agg #[.slice A2 n2 c2]] (by rfl) rfl rfl (by simp only [List.map_toArray, List.map_cons, List.map_nil]; rfl) ?_; refine (rsame_c (Kd.C_below HC.out (by repeat (first | (with_reducible first | exact HL.out | apply below_alloc | apply pw_below_drewN | apply below_drew1) | exact HL.out))) (Kd.C_below HC'.out (by repeat (first | (with_reducible first | exact HL.out | apply below_alloc | apply pw_below_drewN | apply below_drew1) | exact HL.out))) (by omega) true (decide_eq_true rfl)).mono ?_; rintro e w10 ⟨rfl, hb⟩; refine ⟨_, rfl, ?_⟩; have n0_ := Aside0.mk (below_step (by repeat (first | (with_reducible first | exact HB.out | apply below_alloc | apply pw_below_drewN | apply below_drew1) | exact HB.out)) hb); clear HB; have HB := n0_; clear n0_; have n_ := Aside0.mk (Kd.C_below (Kd.C_below HC.out (by repeat (first | (with_reducible first | exact HL.out | apply below_alloc | apply pw_below_drewN | apply below_drew1) | exact HL.out))) hb); clear HC; have HC := n_; clear n_; have n_ := Aside0.mk (Kd.C_below (Kd.C_below HC'.out (by repeat (first | (with_reducible first | exact HL.out | apply below_alloc | apply pw_below_drewN | apply below_drew1) | exact HL.out))) hb); clear HC'; have HC' := n_; clear n_; have n_ := Aside0.mk (blk_below (o := .cells #[.slice A1 n1 c1] 24 (0, 0)) (g := W.heap.size) (by repeat (first | exact BX.out | (with_reducible refine blk_drewN ?_ _) | (with_reducible refine blk_drew ?_) | (with_reducible refine blk_alloc ?_ _))) hb); clear qBX_0 lBX fBX; clear BX; have BX := n_; clear n_; have qBX_0 := blk_cell BX.out 0; have lBX := blk_lt BX.out; simp only [List.getElem?_toArray, List.getElem?_cons_zero, List.getElem?_cons_succ] at qBX_0; have fBX := blk_frozen BX.out 0; have n_ := Aside0.mk (blk_below (o := .cells #[.slice Ay ny cy] 24 (0, 0)) (g := W.heap.size + 1) (by repeat (first | exact BY.out | (with_reducible refine blk_drewN ?_ _) | (with_reducible refine blk_drew ?_) | (with_reducible refine blk_alloc ?_ _))) hb); clear qBY_0 lBY fBY; clear BY; have BY := n_; clear n_; have qBY_0 := blk_cell BY.out 0; have lBY := blk_lt BY.out; simp only [List.getElem?_toArray, List.getElem?_cons_zero, List.getElem?_cons_succ] at qBY_0; have fBY := blk_frozen BY.out 0; have n_ := Aside0.mk (blk_below (o := .cells #[.slice A2 n2 c2] 28 (0, 0)) (g := w2.heap.size) (by repeat (first | exact BP.out | (with_reducible refine blk_drewN ?_ _) | (with_reducible refine blk_drew ?_) | (with_reducible refine blk_alloc ?_ _))) hb); clear qBP_0 lBP fBP; clear BP; have BP := n_; clear n_; have qBP_0 := blk_cell BP.out 0; have lBP := blk_lt BP.out; simp only [List.getElem?_toArray, List.getElem?_cons_zero, List.getElem?_cons_succ] at qBP_0; have fBP := blk_frozen BP.out 0; clear HL hb; have HL := Aside0.mk (Below.refl w10.heap.size w10)))
              all_goals go_wp2
              all_goals go_roundw
              all_goals (try (case rel => exact ⟨j + 1, by go_num, by omega, A1, n1, c1, A2, n2, c2, hnc1, by omega, hnc2, by omega, HB, BX, BY, BP, HC, HC'⟩))
              all_goals (try (case measure => (simp [intOf] <;> omega)))
          · go_wp2
            all_goals (try (exfalso; omega))
            all_goals go_meet
            all_goals exact ⟨_, A, n, c, A', n', c', hnc, hn6, hnc', hn6', HB, BX, BY, BP, HC, HC'⟩
        · go_wp2
          all_goals (try (exfalso; omega))
          all_goals go_meet
          all_goals exact ⟨_, A, n, c, A', n', c', hnc, hn6, hnc', hn6', HB, BX, BY, BP, HC, HC'⟩
    case rest => as_aux_lemma =>
      obtain ⟨Lf, A1, n1, c1, A2, n2, c2, hnc1, hn61, hnc2, hn62, HB1, BX1, BY1, BP1, HC1, HC2⟩ := hcut
      clear HB HL BX qBX_0 lBX fBX BY qBY_0 lBY fBY HC
      have HB := HB1
      have BX := BX1
      have BY := BY1
      have BP := BP1
      clear HB1 BX1 BY1 BP1
      have qBX_0 := blk_cell BX.out 0
      have lBX := blk_lt BX.out
      simp only [List.getElem?_toArray, List.getElem?_cons_zero, List.getElem?_cons_succ] at qBX_0
      have fBX := blk_frozen BX.out 0
      have qBY_0 := blk_cell BY.out 0
      have lBY := blk_lt BY.out
      simp only [List.getElem?_toArray, List.getElem?_cons_zero, List.getElem?_cons_succ] at qBY_0
      have fBY := blk_frozen BY.out 0
      have qBP_0 := blk_cell BP.out 0
      have lBP := blk_lt BP.out
      simp only [List.getElem?_toArray, List.getElem?_cons_zero, List.getElem?_cons_succ] at qBP_0
      have fBP := blk_frozen BP.out 0
      have HL := Aside0.mk (Below.refl wc.heap.size wc)
      obtain ⟨a1, ha1⟩ : ∃ r, nearF a k = r := ⟨_, rfl⟩
      obtain ⟨b1, hb1⟩ : ∃ r, nearF b (k / 2) = r := ⟨_, rfl⟩
      have HA1 := Aside0.mk ha1
      have HB1 := Aside0.mk hb1
      have hk2 : 0 ≤ k / 2 := by omega
      clear ha1 hb1
      obtain ⟨ml, hml⟩ : ∃ ml : Nat, min (nl : Int) 20 = (ml : Int) := ⟨min nl 20, by omega⟩
      have hml1 : ml ≤ nl := by omega
      have hml2 : (ml : Int) ≤ (cl : Int) := by omega
      go_upto_region 21 with (first | (go_at_call 10; (with_reducible refine (near_c a k hk _ HA1.out).mono ?_); rintro e w11 ⟨rfl, hb⟩; have n0_ := Aside0.mk (below_step (by repeat (first | (with_reducible first | exact HB.out | apply below_alloc | apply pw_below_drewN | apply below_drew1) | exact HB.out)) hb); clear HB; have HB := n0_; clear n0_; have hs_ := below_step (by repeat (first | (with_reducible first | exact HL.out | apply below_alloc | apply pw_below_drewN | apply below_drew1) | exact HL.out)) hb; have n_ := Aside0.mk (blk_below BX.out hs_); clear qBX_0 lBX fBX; clear BX; have BX := n_; clear n_; have qBX_0 := blk_cell BX.out 0; have lBX := blk_lt BX.out; simp only [List.getElem?_toArray, List.getElem?_cons_zero, List.getElem?_cons_succ] at qBX_0; have fBX := blk_frozen BX.out 0; have n_ := Aside0.mk (blk_below BY.out hs_); clear qBY_0 lBY fBY; clear BY; have BY := n_; clear n_; have qBY_0 := blk_cell BY.out 0; have lBY := blk_lt BY.out; simp only [List.getElem?_toArray, List.getElem?_cons_zero, List.getElem?_cons_succ] at qBY_0; have fBY := blk_frozen BY.out 0; have n_ := Aside0.mk (blk_below BP.out hs_); clear qBP_0 lBP fBP; clear BP; have BP := n_; clear n_; have qBP_0 := blk_cell BP.out 0; have lBP := blk_lt BP.out; simp only [List.getElem?_toArray, List.getElem?_cons_zero, List.getElem?_cons_succ] at qBP_0; have fBP := blk_frozen BP.out 0; have n_ := Aside0.mk (Kd.C_below HC1.out hs_); clear HC1; have HC1 := n_; clear n_; have n_ := Aside0.mk (Kd.C_below HC2.out hs_); clear HC2; have HC2 := n_; clear n_; clear HL hs_ hb; have HL := Aside0.mk (Below.refl w11.heap.size w11)) | (go_at_call 10; (with_reducible refine (near_c b (k / 2) hk2 _ HB1.out).mono ?_); rintro e w12 ⟨rfl, hb⟩; have n0_ := Aside0.mk (below_step (by repeat (first | (with_reducible first | exact HB.out | apply below_alloc | apply pw_below_drewN | apply below_drew1) | exact HB.out)) hb); clear HB; have HB := n0_; clear n0_; have hs_ := below_step (by repeat (first | (with_reducible first | exact HL.out | apply below_alloc | apply pw_below_drewN | apply below_drew1) | exact HL.out)) hb; have n_ := Aside0.mk (blk_below BX.out hs_); clear qBX_0 lBX fBX; clear BX; have BX := n_; clear n_; have qBX_0 := blk_cell BX.out 0; have lBX := blk_lt BX.out; simp only [List.getElem?_toArray, List.getElem?_cons_zero, List.getElem?_cons_succ] at qBX_0; have fBX := blk_frozen BX.out 0; have n_ := Aside0.mk (blk_below BY.out hs_); clear qBY_0 lBY fBY; clear BY; have BY := n_; clear n_; have qBY_0 := blk_cell BY.out 0; have lBY := blk_lt BY.out; simp only [List.getElem?_toArray, List.getElem?_cons_zero, List.getElem?_cons_succ] at qBY_0; have fBY := blk_frozen BY.out 0; have n_ := Aside0.mk (blk_below BP.out hs_); clear qBP_0 lBP fBP; clear BP; have BP := n_; clear n_; have qBP_0 := blk_cell BP.out 0; have lBP := blk_lt BP.out; simp only [List.getElem?_toArray, List.getElem?_cons_zero, List.getElem?_cons_succ] at qBP_0; have fBP := blk_frozen BP.out 0; have n_ := Aside0.mk (Kd.C_below HC1.out hs_); clear HC1; have HC1 := n_; clear n_; have n_ := Aside0.mk (Kd.C_below HC2.out hs_); clear HC2; have HC2 := n_; clear n_; clear HL hs_ hb; have HL := Aside0.mk (Below.refl w12.heap.size w12)))
      have HLM := Aside0.mk (show Kd.C (Kd.int .i64) W Al ml (l.take ml) by
        have hC0 := HLR.out
        have hn0 := hC0.1
        subst hn0
        have := Kd.C_take hC0 hml1
        rwa [show (l.take ml).length = ml by rw [List.length_take]; omega] at this)
      have hmlm : ml ≤ 140737488351232 := by omega
      have hn1m : n1 ≤ 140737488351232 := by omega
      have hn2m : n2 ≤ 140737488351232 := by omega
      obtain ⟨bH, eH⟩ : ∃ x, hasL Lf a1 = x := ⟨_, rfl⟩
      obtain ⟨bM, eM⟩ : ∃ x, meetsL Lf a1 b1 = x := ⟨_, rfl⟩
      obtain ⟨bC, eC⟩ : ∃ x, coverL Lf (l.take ml) = x := ⟨_, rfl⟩
      obtain ⟨bR, eR⟩ : ∃ x, rightL Lf = x := ⟨_, rfl⟩
      obtain ⟨bS, eS⟩ : ∃ x, decide (Lf = Y) = x := ⟨_, rfl⟩
      have EH := Aside0.mk eH
      have EM := Aside0.mk eM
      have EC := Aside0.mk eC
      have ER := Aside0.mk eR
      have ES := Aside0.mk eS
      clear eH eM eC eR eS
      refine start_ (n := 53) (S := fun w' => w'.cell? ⟨W.heap.size, 0, none⟩ = some (.slice A1 n1 c1) ∧ w'.cell? ⟨W.heap.size + 1, 0, none⟩ = some (.slice Ay ny cy) ∧ w'.cell? ⟨w2.heap.size, 0, none⟩ = some (.slice A2 n2 c2)) (ds := []) #[false, false, false, false, false, false, false, false, false, false, false, false, false, false, false, false, false, false, false, false, false, false, false, false, false, false, false, false, false, false, false, false, false, false, false, false, false, false, false, false, false, false, false, false, false, false, false, false, false, false, false, false, false] (by kernel_rfl) rfl rfl ⟨qBX_0, qBY_0, qBP_0⟩ (fun hHeld => ?_)
      refine pure_ (i := 0) (N := some 83) (v := ?_) (a' := ?_) #[true, false, false, false, false, false, false, false, false, false, false, false, false, false, false, false, false, false, false, false, false, false, false, false, false, false, false, false, false, false, false, false, false, false, false, false, false, false, false, false, false, false, false, false, false, false, false, false, false, false, false, false, false] rfl rfl (by kernel_rfl) (fun _ _ _ h => h) (Or.inl ⟨by rfl, ?_⟩) ?_ ?_
      rotate_left
      · intro w'
        go_simp
        with_reducible rfl
      rotate_left
      · simp only [Act.put, List.setIfInBounds_toArray, List.set_cons_zero, List.set_cons_succ, i64_w, i32_w]
        rfl
      refine pure_ (i := 1) (N := some 84) (v := ?_) (a' := ?_) #[true, true, false, false, false, false, false, false, false, false, false, false, false, false, false, false, false, false, false, false, false, false, false, false, false, false, false, false, false, false, false, false, false, false, false, false, false, false, false, false, false, false, false, false, false, false, false, false, false, false, false, false, false] rfl rfl (by kernel_rfl) (fun _ _ _ h => h) (Or.inl ⟨by rfl, ?_⟩) ?_ ?_
      rotate_left
      · intro w'
        go_simp
        with_reducible rfl
      rotate_left
      · simp only [Act.put, List.setIfInBounds_toArray, List.set_cons_zero, List.set_cons_succ, i64_w, i32_w]
        rfl
      refine pure_ (i := 3) (N := some 86) (v := ?_) (a' := ?_) #[true, true, false, true, false, false, false, false, false, false, false, false, false, false, false, false, false, false, false, false, false, false, false, false, false, false, false, false, false, false, false, false, false, false, false, false, false, false, false, false, false, false, false, false, false, false, false, false, false, false, false, false, false] rfl rfl (by kernel_rfl) (fun _ _ _ h => h) (Or.inl ⟨by rfl, ?_⟩) ?_ ?_
      rotate_left
      · intro w'
        go_simp
        with_reducible rfl
      rotate_left
      · simp only [Act.put, List.setIfInBounds_toArray, List.set_cons_zero, List.set_cons_succ, i64_w, i32_w]
        rfl
      refine pure_ (i := 6) (N := some 89) (v := ?_) (a' := ?_) #[true, true, false, true, false, false, true, false, false, false, false, false, false, false, false, false, false, false, false, false, false, false, false, false, false, false, false, false, false, false, false, false, false, false, false, false, false, false, false, false, false, false, false, false, false, false, false, false, false, false, false, false, false] rfl rfl (by kernel_rfl) (fun _ _ _ h => h) (Or.inl ⟨by rfl, ?_⟩) ?_ ?_
      rotate_left
      · intro w'
        go_simp
        with_reducible rfl
      rotate_left
      · simp only [Act.put, List.setIfInBounds_toArray, List.set_cons_zero, List.set_cons_succ, i64_w, i32_w]
        rfl
      refine take_ (i := 2) (N := some 85) (v := ?_) (a' := ?_) #[true, true, true, true, false, false, true, false, false, false, false, false, false, false, false, false, false, false, false, false, false, false, false, false, false, false, false, false, false, false, false, false, false, false, false, false, false, false, false, false, false, false, false, false, false, false, false, false, false, false, false, false, false] rfl rfl (by kernel_rfl) (fun _ _ _ h => h) (Or.inl ⟨by rfl, ?_⟩) hHeld ?_ ?_
      rotate_left
      · rintro w' ⟨s0, s1, s2⟩
        go_simp
        with_reducible rfl
      rotate_left
      · simp only [Act.put, List.setIfInBounds_toArray, List.set_cons_zero, List.set_cons_succ, i64_w, i32_w]
        rfl
      refine take_ (i := 5) (N := some 88) (v := ?_) (a' := ?_) #[true, true, true, true, false, true, true, false, false, false, false, false, false, false, false, false, false, false, false, false, false, false, false, false, false, false, false, false, false, false, false, false, false, false, false, false, false, false, false, false, false, false, false, false, false, false, false, false, false, false, false, false, false] rfl rfl (by kernel_rfl) (fun _ _ _ h => h) (Or.inl ⟨by rfl, ?_⟩) hHeld ?_ ?_
      rotate_left
      · rintro w' ⟨s0, s1, s2⟩
        go_simp
        with_reducible rfl
      rotate_left
      · simp only [Act.put, List.setIfInBounds_toArray, List.set_cons_zero, List.set_cons_succ, i64_w, i32_w]
        rfl
      refine one_ (i := 4) (N := some 87) #[true, true, true, true, true, true, true, false, false, false, false, false, false, false, false, false, false, false, false, false, false, false, false, false, false, false, false, false, false, false, false, false, false, false, false, false, false, false, false, false, false, false, false, false, false, false, false, false, false, false, false, false, false] rfl rfl (by kernel_rfl) (by decide) (fun Kc hKc => ?_)
      refine goes_ Try.func14 (by kernel_rfl) rfl #[.agg #[.slice A1 n1 c1], .int .i64 a1] (by rfl) rfl rfl (by simp only [List.map_toArray, List.map_cons, List.map_nil]; rfl) ?_
      with_reducible refine (has_c (Kd.C_below HC1.out (by repeat (first | (with_reducible first | exact HL.out | apply below_alloc | apply pw_below_drewN | apply below_drew1) | exact HL.out))) hnc1 hn1m a1 _ EH.out).mono ?_
      rintro e w13 ⟨rfl, hb⟩
      refine ⟨_, rfl, ?_⟩
      have n0_ := Aside0.mk (below_step (by repeat (first | (with_reducible first | exact HB.out | apply below_alloc | apply pw_below_drewN | apply below_drew1) | exact HB.out)) hb)
      clear HB
      have HB := n0_
      clear n0_
      have n0_ := Aside0.mk (below_step (by repeat (first | (with_reducible first | exact HL.out | apply below_alloc | apply pw_below_drewN | apply below_drew1) | exact HL.out)) hb)
      clear HL
      have HL := n0_
      clear n0_
      refine hKc.out _ _ ⟨pw_cell_below hb hHeld.1, pw_cell_below hb hHeld.2.1, pw_cell_below hb hHeld.2.2⟩ (fun hHeld => ?_)
      clear hKc Kc
      refine norm_ (a' := ?_) ?_ ?_
      rotate_left
      · show Act.put _ (some 87) _ = _
        simp only [Act.put, List.setIfInBounds_toArray, List.set_cons_zero, List.set_cons_succ, i64_w, i32_w]
        rfl
      refine one_ (i := 7) (N := some 90) #[true, true, true, true, true, true, true, true, false, false, false, false, false, false, false, false, false, false, false, false, false, false, false, false, false, false, false, false, false, false, false, false, false, false, false, false, false, false, false, false, false, false, false, false, false, false, false, false, false, false, false, false, false] rfl rfl (by kernel_rfl) (by decide) (fun Kc hKc => ?_)
      refine goes_ Try.func15 (by kernel_rfl) rfl #[.agg #[.slice A2 n2 c2], .int .i64 a1] (by rfl) rfl rfl (by simp only [List.map_toArray, List.map_cons, List.map_nil]; rfl) ?_
      with_reducible refine (rhas_c (Kd.C_below HC2.out (by repeat (first | (with_reducible first | exact HL.out | apply below_alloc | apply pw_below_drewN | apply below_drew1) | exact HL.out))) hn2m a1 _ EH.out).mono ?_
      rintro e w13 ⟨rfl, hb⟩
      refine ⟨_, rfl, ?_⟩
      have n0_ := Aside0.mk (below_step (by repeat (first | (with_reducible first | exact HB.out | apply below_alloc | apply pw_below_drewN | apply below_drew1) | exact HB.out)) hb)
      clear HB
      have HB := n0_
      clear n0_
      have n0_ := Aside0.mk (below_step (by repeat (first | (with_reducible first | exact HL.out | apply below_alloc | apply pw_below_drewN | apply below_drew1) | exact HL.out)) hb)
      clear HL
      have HL := n0_
      clear n0_
      refine hKc.out _ _ ⟨pw_cell_below hb hHeld.1, pw_cell_below hb hHeld.2.1, pw_cell_below hb hHeld.2.2⟩ (fun hHeld => ?_)
      clear hKc Kc
      refine norm_ (a' := ?_) ?_ ?_
      rotate_left
      · show Act.put _ (some 90) _ = _
        simp only [Act.put, List.setIfInBounds_toArray, List.set_cons_zero, List.set_cons_succ, i64_w, i32_w]
        rfl
      refine pure_ (i := 8) (N := some 91) (v := ?_) (a' := ?_) #[true, true, true, true, true, true, true, true, true, false, false, false, false, false, false, false, false, false, false, false, false, false, false, false, false, false, false, false, false, false, false, false, false, false, false, false, false, false, false, false, false, false, false, false, false, false, false, false, false, false, false, false, false] rfl rfl (by kernel_rfl) (fun _ _ _ h => h) (Or.inl ⟨by rfl, ?_⟩) ?_ ?_
      rotate_left
      · intro w'
        go_simp
        with_reducible rfl
      rotate_left
      · simp only [Act.put, List.setIfInBounds_toArray, List.set_cons_zero, List.set_cons_succ, i64_w, i32_w]
        rfl
      refine pure_ (i := 9) (N := some 92) (v := ?_) (a' := ?_) #[true, true, true, true, true, true, true, true, true, true, false, false, false, false, false, false, false, false, false, false, false, false, false, false, false, false, false, false, false, false, false, false, false, false, false, false, false, false, false, false, false, false, false, false, false, false, false, false, false, false, false, false, false] rfl rfl (by kernel_rfl) (fun _ _ _ h => h) (Or.inl ⟨by rfl, ?_⟩) ?_ ?_
      rotate_left
      · intro w'
        go_simp
        with_reducible rfl
      rotate_left
      · simp only [Act.put, List.setIfInBounds_toArray, List.set_cons_zero, List.set_cons_succ, i64_w, i32_w]
        rfl
      refine pure_ (i := 10) (N := some 93) (v := ?_) (a' := ?_) #[true, true, true, true, true, true, true, true, true, true, true, false, false, false, false, false, false, false, false, false, false, false, false, false, false, false, false, false, false, false, false, false, false, false, false, false, false, false, false, false, false, false, false, false, false, false, false, false, false, false, false, false, false] rfl rfl (by kernel_rfl) (fun _ _ _ h => h) (Or.inl ⟨by rfl, ?_⟩) ?_ ?_
      rotate_left
      · intro w'
        go_simp
        with_reducible rfl
      rotate_left
      · simp only [Act.put, List.setIfInBounds_toArray, List.set_cons_zero, List.set_cons_succ, i64_w, i32_w]
        rfl
      refine pure_ (i := 12) (N := some 95) (v := ?_) (a' := ?_) #[true, true, true, true, true, true, true, true, true, true, true, false, true, false, false, false, false, false, false, false, false, false, false, false, false, false, false, false, false, false, false, false, false, false, false, false, false, false, false, false, false, false, false, false, false, false, false, false, false, false, false, false, false] rfl rfl (by kernel_rfl) (fun _ _ _ h => h) (Or.inl ⟨by rfl, ?_⟩) ?_ ?_
      rotate_left
      · intro w'
        go_simp
        with_reducible rfl
      rotate_left
      · simp only [Act.put, List.setIfInBounds_toArray, List.set_cons_zero, List.set_cons_succ, i64_w, i32_w]
        rfl
      refine pure_ (i := 13) (N := some 96) (v := ?_) (a' := ?_) #[true, true, true, true, true, true, true, true, true, true, true, false, true, true, false, false, false, false, false, false, false, false, false, false, false, false, false, false, false, false, false, false, false, false, false, false, false, false, false, false, false, false, false, false, false, false, false, false, false, false, false, false, false] rfl rfl (by kernel_rfl) (fun _ _ _ h => h) (Or.inl ⟨by rfl, ?_⟩) ?_ ?_
      rotate_left
      · intro w'
        go_simp
        with_reducible rfl
      rotate_left
      · simp only [Act.put, List.setIfInBounds_toArray, List.set_cons_zero, List.set_cons_succ, i64_w, i32_w]
        rfl
      refine pure_ (i := 16) (N := some 99) (v := ?_) (a' := ?_) #[true, true, true, true, true, true, true, true, true, true, true, false, true, true, false, false, true, false, false, false, false, false, false, false, false, false, false, false, false, false, false, false, false, false, false, false, false, false, false, false, false, false, false, false, false, false, false, false, false, false, false, false, false] rfl rfl (by kernel_rfl) (fun _ _ _ h => h) (Or.inl ⟨by rfl, ?_⟩) ?_ ?_
      rotate_left
      · intro w'
        go_simp
        with_reducible rfl
      rotate_left
      · simp only [Act.put, List.setIfInBounds_toArray, List.set_cons_zero, List.set_cons_succ, i64_w, i32_w]
        rfl
      refine pure_ (i := 17) (N := some 100) (v := ?_) (a' := ?_) #[true, true, true, true, true, true, true, true, true, true, true, false, true, true, false, false, true, true, false, false, false, false, false, false, false, false, false, false, false, false, false, false, false, false, false, false, false, false, false, false, false, false, false, false, false, false, false, false, false, false, false, false, false] rfl rfl (by kernel_rfl) (fun _ _ _ h => h) (Or.inl ⟨by rfl, ?_⟩) ?_ ?_
      rotate_left
      · intro w'
        go_simp
        with_reducible rfl
      rotate_left
      · simp only [Act.put, List.setIfInBounds_toArray, List.set_cons_zero, List.set_cons_succ, i64_w, i32_w]
        rfl
      refine take_ (i := 11) (N := some 94) (v := ?_) (a' := ?_) #[true, true, true, true, true, true, true, true, true, true, true, true, true, true, false, false, true, true, false, false, false, false, false, false, false, false, false, false, false, false, false, false, false, false, false, false, false, false, false, false, false, false, false, false, false, false, false, false, false, false, false, false, false] rfl rfl (by kernel_rfl) (fun _ _ _ h => h) (Or.inl ⟨by rfl, ?_⟩) hHeld ?_ ?_
      rotate_left
      · rintro w' ⟨s0, s1, s2⟩
        go_simp
        with_reducible rfl
      rotate_left
      · simp only [Act.put, List.setIfInBounds_toArray, List.set_cons_zero, List.set_cons_succ, i64_w, i32_w]
        rfl
      refine take_ (i := 15) (N := some 98) (v := ?_) (a' := ?_) #[true, true, true, true, true, true, true, true, true, true, true, true, true, true, false, true, true, true, false, false, false, false, false, false, false, false, false, false, false, false, false, false, false, false, false, false, false, false, false, false, false, false, false, false, false, false, false, false, false, false, false, false, false] rfl rfl (by kernel_rfl) (fun _ _ _ h => h) (Or.inl ⟨by rfl, ?_⟩) hHeld ?_ ?_
      rotate_left
      · rintro w' ⟨s0, s1, s2⟩
        go_simp
        with_reducible rfl
      rotate_left
      · simp only [Act.put, List.setIfInBounds_toArray, List.set_cons_zero, List.set_cons_succ, i64_w, i32_w]
        rfl
      refine one_ (i := 14) (N := some 97) #[true, true, true, true, true, true, true, true, true, true, true, true, true, true, true, true, true, true, false, false, false, false, false, false, false, false, false, false, false, false, false, false, false, false, false, false, false, false, false, false, false, false, false, false, false, false, false, false, false, false, false, false, false] rfl rfl (by kernel_rfl) (by decide) (fun Kc hKc => ?_)
      refine goes_ Try.func16 (by kernel_rfl) rfl #[.agg #[.slice A1 n1 c1], .int .i64 a1, .int .i64 b1] (by rfl) rfl rfl (by simp only [List.map_toArray, List.map_cons, List.map_nil]; rfl) ?_
      with_reducible refine (meets_c (Kd.C_below HC1.out (by repeat (first | (with_reducible first | exact HL.out | apply below_alloc | apply pw_below_drewN | apply below_drew1) | exact HL.out))) hnc1 hn1m a1 b1 _ EM.out).mono ?_
      rintro e w13 ⟨rfl, hb⟩
      refine ⟨_, rfl, ?_⟩
      have n0_ := Aside0.mk (below_step (by repeat (first | (with_reducible first | exact HB.out | apply below_alloc | apply pw_below_drewN | apply below_drew1) | exact HB.out)) hb)
      clear HB
      have HB := n0_
      clear n0_
      have n0_ := Aside0.mk (below_step (by repeat (first | (with_reducible first | exact HL.out | apply below_alloc | apply pw_below_drewN | apply below_drew1) | exact HL.out)) hb)
      clear HL
      have HL := n0_
      clear n0_
      refine hKc.out _ _ ⟨pw_cell_below hb hHeld.1, pw_cell_below hb hHeld.2.1, pw_cell_below hb hHeld.2.2⟩ (fun hHeld => ?_)
      clear hKc Kc
      refine norm_ (a' := ?_) ?_ ?_
      rotate_left
      · show Act.put _ (some 97) _ = _
        simp only [Act.put, List.setIfInBounds_toArray, List.set_cons_zero, List.set_cons_succ, i64_w, i32_w]
        rfl
      refine one_ (i := 18) (N := some 101) #[true, true, true, true, true, true, true, true, true, true, true, true, true, true, true, true, true, true, true, false, false, false, false, false, false, false, false, false, false, false, false, false, false, false, false, false, false, false, false, false, false, false, false, false, false, false, false, false, false, false, false, false, false] rfl rfl (by kernel_rfl) (by decide) (fun Kc hKc => ?_)
      refine goes_ Try.func17 (by kernel_rfl) rfl #[.agg #[.slice A2 n2 c2], .int .i64 a1, .int .i64 b1] (by rfl) rfl rfl (by simp only [List.map_toArray, List.map_cons, List.map_nil]; rfl) ?_
      with_reducible refine (rmeets_c (Kd.C_below HC2.out (by repeat (first | (with_reducible first | exact HL.out | apply below_alloc | apply pw_below_drewN | apply below_drew1) | exact HL.out))) hn2m a1 b1 _ EM.out).mono ?_
      rintro e w13 ⟨rfl, hb⟩
      refine ⟨_, rfl, ?_⟩
      have n0_ := Aside0.mk (below_step (by repeat (first | (with_reducible first | exact HB.out | apply below_alloc | apply pw_below_drewN | apply below_drew1) | exact HB.out)) hb)
      clear HB
      have HB := n0_
      clear n0_
      have n0_ := Aside0.mk (below_step (by repeat (first | (with_reducible first | exact HL.out | apply below_alloc | apply pw_below_drewN | apply below_drew1) | exact HL.out)) hb)
      clear HL
      have HL := n0_
      clear n0_
      refine hKc.out _ _ ⟨pw_cell_below hb hHeld.1, pw_cell_below hb hHeld.2.1, pw_cell_below hb hHeld.2.2⟩ (fun hHeld => ?_)
      clear hKc Kc
      refine norm_ (a' := ?_) ?_ ?_
      rotate_left
      · show Act.put _ (some 101) _ = _
        simp only [Act.put, List.setIfInBounds_toArray, List.set_cons_zero, List.set_cons_succ, i64_w, i32_w]
        rfl
      refine pure_ (i := 19) (N := some 102) (v := ?_) (a' := ?_) #[true, true, true, true, true, true, true, true, true, true, true, true, true, true, true, true, true, true, true, true, false, false, false, false, false, false, false, false, false, false, false, false, false, false, false, false, false, false, false, false, false, false, false, false, false, false, false, false, false, false, false, false, false] rfl rfl (by kernel_rfl) (fun _ _ _ h => h) (Or.inl ⟨by rfl, ?_⟩) ?_ ?_
      rotate_left
      · intro w'
        go_simp
        with_reducible rfl
      rotate_left
      · simp only [Act.put, List.setIfInBounds_toArray, List.set_cons_zero, List.set_cons_succ, i64_w, i32_w]
        rfl
      refine pure_ (i := 20) (N := some 103) (v := ?_) (a' := ?_) #[true, true, true, true, true, true, true, true, true, true, true, true, true, true, true, true, true, true, true, true, true, false, false, false, false, false, false, false, false, false, false, false, false, false, false, false, false, false, false, false, false, false, false, false, false, false, false, false, false, false, false, false, false] rfl rfl (by kernel_rfl) (fun _ _ _ h => h) (Or.inl ⟨by rfl, ?_⟩) ?_ ?_
      rotate_left
      · intro w'
        go_simp
        with_reducible rfl
      rotate_left
      · simp only [Act.put, List.setIfInBounds_toArray, List.set_cons_zero, List.set_cons_succ, i64_w, i32_w]
        rfl
      refine pure_ (i := 21) (N := some 104) (v := ?_) (a' := ?_) #[true, true, true, true, true, true, true, true, true, true, true, true, true, true, true, true, true, true, true, true, true, true, false, false, false, false, false, false, false, false, false, false, false, false, false, false, false, false, false, false, false, false, false, false, false, false, false, false, false, false, false, false, false] rfl rfl (by kernel_rfl) (fun _ _ _ h => h) (Or.inl ⟨by rfl, ?_⟩) ?_ ?_
      rotate_left
      · intro w'
        go_simp
        with_reducible rfl
      rotate_left
      · simp only [Act.put, List.setIfInBounds_toArray, List.set_cons_zero, List.set_cons_succ, i64_w, i32_w]
        rfl
      refine pure_ (i := 23) (N := some 106) (v := ?_) (a' := ?_) #[true, true, true, true, true, true, true, true, true, true, true, true, true, true, true, true, true, true, true, true, true, true, false, true, false, false, false, false, false, false, false, false, false, false, false, false, false, false, false, false, false, false, false, false, false, false, false, false, false, false, false, false, false] rfl rfl (by kernel_rfl) (fun _ _ _ h => h) (Or.inl ⟨by rfl, ?_⟩) ?_ ?_
      rotate_left
      · intro w'
        go_simp
        with_reducible rfl
      rotate_left
      · simp only [Act.put, List.setIfInBounds_toArray, List.set_cons_zero, List.set_cons_succ, i64_w, i32_w]
        rfl
      refine pure_ (i := 26) (N := some 109) (v := ?_) (a' := ?_) #[true, true, true, true, true, true, true, true, true, true, true, true, true, true, true, true, true, true, true, true, true, true, false, true, false, false, true, false, false, false, false, false, false, false, false, false, false, false, false, false, false, false, false, false, false, false, false, false, false, false, false, false, false] rfl rfl (by kernel_rfl) (fun _ _ _ h => h) (Or.inl ⟨by rfl, ?_⟩) ?_ ?_
      rotate_left
      · intro w'
        go_simp
        with_reducible rfl
      rotate_left
      · simp only [Act.put, List.setIfInBounds_toArray, List.set_cons_zero, List.set_cons_succ, i64_w, i32_w]
        rfl
      refine take_ (i := 22) (N := some 105) (v := ?_) (a' := ?_) #[true, true, true, true, true, true, true, true, true, true, true, true, true, true, true, true, true, true, true, true, true, true, true, true, false, false, true, false, false, false, false, false, false, false, false, false, false, false, false, false, false, false, false, false, false, false, false, false, false, false, false, false, false] rfl rfl (by kernel_rfl) (fun _ _ _ h => h) (Or.inl ⟨by rfl, ?_⟩) hHeld ?_ ?_
      rotate_left
      · rintro w' ⟨s0, s1, s2⟩
        go_simp
        with_reducible rfl
      rotate_left
      · simp only [Act.put, List.setIfInBounds_toArray, List.set_cons_zero, List.set_cons_succ, i64_w, i32_w]
        rfl
      refine take_ (i := 25) (N := some 108) (v := ?_) (a' := ?_) #[true, true, true, true, true, true, true, true, true, true, true, true, true, true, true, true, true, true, true, true, true, true, true, true, false, true, true, false, false, false, false, false, false, false, false, false, false, false, false, false, false, false, false, false, false, false, false, false, false, false, false, false, false] rfl rfl (by kernel_rfl) (fun _ _ _ h => h) (Or.inl ⟨by rfl, ?_⟩) hHeld ?_ ?_
      rotate_left
      · rintro w' ⟨s0, s1, s2⟩
        go_simp
        with_reducible rfl
      rotate_left
      · simp only [Act.put, List.setIfInBounds_toArray, List.set_cons_zero, List.set_cons_succ, i64_w, i32_w]
        rfl
      refine one_ (i := 24) (N := some 107) #[true, true, true, true, true, true, true, true, true, true, true, true, true, true, true, true, true, true, true, true, true, true, true, true, true, true, true, false, false, false, false, false, false, false, false, false, false, false, false, false, false, false, false, false, false, false, false, false, false, false, false, false, false] rfl rfl (by kernel_rfl) (by decide) (fun Kc hKc => ?_)
      refine goes_ Try.func18 (by kernel_rfl) rfl #[.agg #[.slice A1 n1 c1], .slice Al ml cl] (by rfl) rfl rfl (by simp only [List.map_toArray, List.map_cons, List.map_nil]; rfl) ?_
      with_reducible refine (cover_c (Kd.C_below HC1.out (by repeat (first | (with_reducible first | exact HL.out | apply below_alloc | apply pw_below_drewN | apply below_drew1) | exact HL.out))) (Kd.C_below HLM.out (by repeat (first | (with_reducible first | exact HB.out | apply below_alloc | apply pw_below_drewN | apply below_drew1) | exact HB.out))) hnc1 hmlm hn1m _ EC.out).mono ?_
      rintro e w13 ⟨rfl, hb⟩
      refine ⟨_, rfl, ?_⟩
      have n0_ := Aside0.mk (below_step (by repeat (first | (with_reducible first | exact HB.out | apply below_alloc | apply pw_below_drewN | apply below_drew1) | exact HB.out)) hb)
      clear HB
      have HB := n0_
      clear n0_
      have n0_ := Aside0.mk (below_step (by repeat (first | (with_reducible first | exact HL.out | apply below_alloc | apply pw_below_drewN | apply below_drew1) | exact HL.out)) hb)
      clear HL
      have HL := n0_
      clear n0_
      refine hKc.out _ _ ⟨pw_cell_below hb hHeld.1, pw_cell_below hb hHeld.2.1, pw_cell_below hb hHeld.2.2⟩ (fun hHeld => ?_)
      clear hKc Kc
      refine norm_ (a' := ?_) ?_ ?_
      rotate_left
      · show Act.put _ (some 107) _ = _
        simp only [Act.put, List.setIfInBounds_toArray, List.set_cons_zero, List.set_cons_succ, i64_w, i32_w]
        rfl
      refine one_ (i := 27) (N := some 110) #[true, true, true, true, true, true, true, true, true, true, true, true, true, true, true, true, true, true, true, true, true, true, true, true, true, true, true, true, false, false, false, false, false, false, false, false, false, false, false, false, false, false, false, false, false, false, false, false, false, false, false, false, false] rfl rfl (by kernel_rfl) (by decide) (fun Kc hKc => ?_)
      refine goes_ Try.func19 (by kernel_rfl) rfl #[.agg #[.slice A2 n2 c2], .slice Al ml cl] (by rfl) rfl rfl (by simp only [List.map_toArray, List.map_cons, List.map_nil]; rfl) ?_
      with_reducible refine (rcover_c (Kd.C_below HC2.out (by repeat (first | (with_reducible first | exact HL.out | apply below_alloc | apply pw_below_drewN | apply below_drew1) | exact HL.out))) (Kd.C_below HLM.out (by repeat (first | (with_reducible first | exact HB.out | apply below_alloc | apply pw_below_drewN | apply below_drew1) | exact HB.out))) hmlm hn2m _ EC.out).mono ?_
      rintro e w13 ⟨rfl, hb⟩
      refine ⟨_, rfl, ?_⟩
      have n0_ := Aside0.mk (below_step (by repeat (first | (with_reducible first | exact HB.out | apply below_alloc | apply pw_below_drewN | apply below_drew1) | exact HB.out)) hb)
      clear HB
      have HB := n0_
      clear n0_
      have n0_ := Aside0.mk (below_step (by repeat (first | (with_reducible first | exact HL.out | apply below_alloc | apply pw_below_drewN | apply below_drew1) | exact HL.out)) hb)
      clear HL
      have HL := n0_
      clear n0_
      refine hKc.out _ _ ⟨pw_cell_below hb hHeld.1, pw_cell_below hb hHeld.2.1, pw_cell_below hb hHeld.2.2⟩ (fun hHeld => ?_)
      clear hKc Kc
      refine norm_ (a' := ?_) ?_ ?_
      rotate_left
      · show Act.put _ (some 110) _ = _
        simp only [Act.put, List.setIfInBounds_toArray, List.set_cons_zero, List.set_cons_succ, i64_w, i32_w]
        rfl
      refine pure_ (i := 28) (N := some 111) (v := ?_) (a' := ?_) #[true, true, true, true, true, true, true, true, true, true, true, true, true, true, true, true, true, true, true, true, true, true, true, true, true, true, true, true, true, false, false, false, false, false, false, false, false, false, false, false, false, false, false, false, false, false, false, false, false, false, false, false, false] rfl rfl (by kernel_rfl) (fun _ _ _ h => h) (Or.inl ⟨by rfl, ?_⟩) ?_ ?_
      rotate_left
      · intro w'
        go_simp
        with_reducible rfl
      rotate_left
      · simp only [Act.put, List.setIfInBounds_toArray, List.set_cons_zero, List.set_cons_succ, i64_w, i32_w]
        rfl
      refine pure_ (i := 29) (N := some 112) (v := ?_) (a' := ?_) #[true, true, true, true, true, true, true, true, true, true, true, true, true, true, true, true, true, true, true, true, true, true, true, true, true, true, true, true, true, true, false, false, false, false, false, false, false, false, false, false, false, false, false, false, false, false, false, false, false, false, false, false, false] rfl rfl (by kernel_rfl) (fun _ _ _ h => h) (Or.inl ⟨by rfl, ?_⟩) ?_ ?_
      rotate_left
      · intro w'
        go_simp
        with_reducible rfl
      rotate_left
      · simp only [Act.put, List.setIfInBounds_toArray, List.set_cons_zero, List.set_cons_succ, i64_w, i32_w]
        rfl
      refine pure_ (i := 30) (N := some 113) (v := ?_) (a' := ?_) #[true, true, true, true, true, true, true, true, true, true, true, true, true, true, true, true, true, true, true, true, true, true, true, true, true, true, true, true, true, true, true, false, false, false, false, false, false, false, false, false, false, false, false, false, false, false, false, false, false, false, false, false, false] rfl rfl (by kernel_rfl) (fun _ _ _ h => h) (Or.inl ⟨by rfl, ?_⟩) ?_ ?_
      rotate_left
      · intro w'
        go_simp
        with_reducible rfl
      rotate_left
      · simp only [Act.put, List.setIfInBounds_toArray, List.set_cons_zero, List.set_cons_succ, i64_w, i32_w]
        rfl
      refine take_ (i := 31) (N := some 114) (v := ?_) (a' := ?_) #[true, true, true, true, true, true, true, true, true, true, true, true, true, true, true, true, true, true, true, true, true, true, true, true, true, true, true, true, true, true, true, true, false, false, false, false, false, false, false, false, false, false, false, false, false, false, false, false, false, false, false, false, false] rfl rfl (by kernel_rfl) (fun _ _ _ h => h) (Or.inl ⟨by rfl, ?_⟩) hHeld ?_ ?_
      rotate_left
      · rintro w' ⟨s0, s1, s2⟩
        go_simp
        with_reducible rfl
      rotate_left
      · simp only [Act.put, List.setIfInBounds_toArray, List.set_cons_zero, List.set_cons_succ, i64_w, i32_w]
        rfl
      refine take_ (i := 33) (N := some 116) (v := ?_) (a' := ?_) #[true, true, true, true, true, true, true, true, true, true, true, true, true, true, true, true, true, true, true, true, true, true, true, true, true, true, true, true, true, true, true, true, false, true, false, false, false, false, false, false, false, false, false, false, false, false, false, false, false, false, false, false, false] rfl rfl (by kernel_rfl) (fun _ _ _ h => h) (Or.inl ⟨by rfl, ?_⟩) hHeld ?_ ?_
      rotate_left
      · rintro w' ⟨s0, s1, s2⟩
        go_simp
        with_reducible rfl
      rotate_left
      · simp only [Act.put, List.setIfInBounds_toArray, List.set_cons_zero, List.set_cons_succ, i64_w, i32_w]
        rfl
      refine one_ (i := 32) (N := some 115) #[true, true, true, true, true, true, true, true, true, true, true, true, true, true, true, true, true, true, true, true, true, true, true, true, true, true, true, true, true, true, true, true, true, true, false, false, false, false, false, false, false, false, false, false, false, false, false, false, false, false, false, false, false] rfl rfl (by kernel_rfl) (by decide) (fun Kc hKc => ?_)
      refine goes_ Try.func20 (by kernel_rfl) rfl #[.agg #[.slice A1 n1 c1]] (by rfl) rfl rfl (by simp only [List.map_toArray, List.map_cons, List.map_nil]; rfl) ?_
      with_reducible refine (right_c (Kd.C_below HC1.out (by repeat (first | (with_reducible first | exact HL.out | apply below_alloc | apply pw_below_drewN | apply below_drew1) | exact HL.out))) hnc1 hn1m _ ER.out).mono ?_
      rintro e w13 ⟨rfl, hb⟩
      refine ⟨_, rfl, ?_⟩
      have n0_ := Aside0.mk (below_step (by repeat (first | (with_reducible first | exact HB.out | apply below_alloc | apply pw_below_drewN | apply below_drew1) | exact HB.out)) hb)
      clear HB
      have HB := n0_
      clear n0_
      have n0_ := Aside0.mk (below_step (by repeat (first | (with_reducible first | exact HL.out | apply below_alloc | apply pw_below_drewN | apply below_drew1) | exact HL.out)) hb)
      clear HL
      have HL := n0_
      clear n0_
      refine hKc.out _ _ ⟨pw_cell_below hb hHeld.1, pw_cell_below hb hHeld.2.1, pw_cell_below hb hHeld.2.2⟩ (fun hHeld => ?_)
      clear hKc Kc
      refine norm_ (a' := ?_) ?_ ?_
      rotate_left
      · show Act.put _ (some 115) _ = _
        simp only [Act.put, List.setIfInBounds_toArray, List.set_cons_zero, List.set_cons_succ, i64_w, i32_w]
        rfl
      refine one_ (i := 34) (N := some 117) #[true, true, true, true, true, true, true, true, true, true, true, true, true, true, true, true, true, true, true, true, true, true, true, true, true, true, true, true, true, true, true, true, true, true, true, false, false, false, false, false, false, false, false, false, false, false, false, false, false, false, false, false, false] rfl rfl (by kernel_rfl) (by decide) (fun Kc hKc => ?_)
      refine goes_ Try.func21 (by kernel_rfl) rfl #[.agg #[.slice A2 n2 c2]] (by rfl) rfl rfl (by simp only [List.map_toArray, List.map_cons, List.map_nil]; rfl) ?_
      with_reducible refine (rright_c (Kd.C_below HC2.out (by repeat (first | (with_reducible first | exact HL.out | apply below_alloc | apply pw_below_drewN | apply below_drew1) | exact HL.out))) hnc2 hn2m _ ER.out).mono ?_
      rintro e w13 ⟨rfl, hb⟩
      refine ⟨_, rfl, ?_⟩
      have n0_ := Aside0.mk (below_step (by repeat (first | (with_reducible first | exact HB.out | apply below_alloc | apply pw_below_drewN | apply below_drew1) | exact HB.out)) hb)
      clear HB
      have HB := n0_
      clear n0_
      have n0_ := Aside0.mk (below_step (by repeat (first | (with_reducible first | exact HL.out | apply below_alloc | apply pw_below_drewN | apply below_drew1) | exact HL.out)) hb)
      clear HL
      have HL := n0_
      clear n0_
      refine hKc.out _ _ ⟨pw_cell_below hb hHeld.1, pw_cell_below hb hHeld.2.1, pw_cell_below hb hHeld.2.2⟩ (fun hHeld => ?_)
      clear hKc Kc
      refine norm_ (a' := ?_) ?_ ?_
      rotate_left
      · show Act.put _ (some 117) _ = _
        simp only [Act.put, List.setIfInBounds_toArray, List.set_cons_zero, List.set_cons_succ, i64_w, i32_w]
        rfl
      refine pure_ (i := 35) (N := some 118) (v := ?_) (a' := ?_) #[true, true, true, true, true, true, true, true, true, true, true, true, true, true, true, true, true, true, true, true, true, true, true, true, true, true, true, true, true, true, true, true, true, true, true, true, false, false, false, false, false, false, false, false, false, false, false, false, false, false, false, false, false] rfl rfl (by kernel_rfl) (fun _ _ _ h => h) (Or.inl ⟨by rfl, ?_⟩) ?_ ?_
      rotate_left
      · intro w'
        go_simp
        with_reducible rfl
      rotate_left
      · simp only [Act.put, List.setIfInBounds_toArray, List.set_cons_zero, List.set_cons_succ, i64_w, i32_w]
        rfl
      refine pure_ (i := 36) (N := some 119) (v := ?_) (a' := ?_) #[true, true, true, true, true, true, true, true, true, true, true, true, true, true, true, true, true, true, true, true, true, true, true, true, true, true, true, true, true, true, true, true, true, true, true, true, true, false, false, false, false, false, false, false, false, false, false, false, false, false, false, false, false] rfl rfl (by kernel_rfl) (fun _ _ _ h => h) (Or.inl ⟨by rfl, ?_⟩) ?_ ?_
      rotate_left
      · intro w'
        go_simp
        with_reducible rfl
      rotate_left
      · simp only [Act.put, List.setIfInBounds_toArray, List.set_cons_zero, List.set_cons_succ, i64_w, i32_w]
        rfl
      refine pure_ (i := 37) (N := some 120) (v := ?_) (a' := ?_) #[true, true, true, true, true, true, true, true, true, true, true, true, true, true, true, true, true, true, true, true, true, true, true, true, true, true, true, true, true, true, true, true, true, true, true, true, true, true, false, false, false, false, false, false, false, false, false, false, false, false, false, false, false] rfl rfl (by kernel_rfl) (fun _ _ _ h => h) (Or.inl ⟨by rfl, ?_⟩) ?_ ?_
      rotate_left
      · intro w'
        go_simp
        with_reducible rfl
      rotate_left
      · simp only [Act.put, List.setIfInBounds_toArray, List.set_cons_zero, List.set_cons_succ, i64_w, i32_w]
        rfl
      refine take_ (i := 38) (N := some 121) (v := ?_) (a' := ?_) #[true, true, true, true, true, true, true, true, true, true, true, true, true, true, true, true, true, true, true, true, true, true, true, true, true, true, true, true, true, true, true, true, true, true, true, true, true, true, true, false, false, false, false, false, false, false, false, false, false, false, false, false, false] rfl rfl (by kernel_rfl) (fun _ _ _ h => h) (Or.inl ⟨by rfl, ?_⟩) hHeld ?_ ?_
      rotate_left
      · rintro w' ⟨s0, s1, s2⟩
        go_simp
        with_reducible rfl
      rotate_left
      · simp only [Act.put, List.setIfInBounds_toArray, List.set_cons_zero, List.set_cons_succ, i64_w, i32_w]
        rfl
      refine take_ (i := 39) (N := some 122) (v := ?_) (a' := ?_) #[true, true, true, true, true, true, true, true, true, true, true, true, true, true, true, true, true, true, true, true, true, true, true, true, true, true, true, true, true, true, true, true, true, true, true, true, true, true, true, true, false, false, false, false, false, false, false, false, false, false, false, false, false] rfl rfl (by kernel_rfl) (fun _ _ _ h => h) (Or.inl ⟨by rfl, ?_⟩) hHeld ?_ ?_
      rotate_left
      · rintro w' ⟨s0, s1, s2⟩
        go_simp
        with_reducible rfl
      rotate_left
      · simp only [Act.put, List.setIfInBounds_toArray, List.set_cons_zero, List.set_cons_succ, i64_w, i32_w]
        rfl
      refine take_ (i := 41) (N := some 124) (v := ?_) (a' := ?_) #[true, true, true, true, true, true, true, true, true, true, true, true, true, true, true, true, true, true, true, true, true, true, true, true, true, true, true, true, true, true, true, true, true, true, true, true, true, true, true, true, false, true, false, false, false, false, false, false, false, false, false, false, false] rfl rfl (by kernel_rfl) (fun _ _ _ h => h) (Or.inl ⟨by rfl, ?_⟩) hHeld ?_ ?_
      rotate_left
      · rintro w' ⟨s0, s1, s2⟩
        go_simp
        with_reducible rfl
      rotate_left
      · simp only [Act.put, List.setIfInBounds_toArray, List.set_cons_zero, List.set_cons_succ, i64_w, i32_w]
        rfl
      refine take_ (i := 42) (N := some 125) (v := ?_) (a' := ?_) #[true, true, true, true, true, true, true, true, true, true, true, true, true, true, true, true, true, true, true, true, true, true, true, true, true, true, true, true, true, true, true, true, true, true, true, true, true, true, true, true, false, true, true, false, false, false, false, false, false, false, false, false, false] rfl rfl (by kernel_rfl) (fun _ _ _ h => h) (Or.inl ⟨by rfl, ?_⟩) hHeld ?_ ?_
      rotate_left
      · rintro w' ⟨s0, s1, s2⟩
        go_simp
        with_reducible rfl
      rotate_left
      · simp only [Act.put, List.setIfInBounds_toArray, List.set_cons_zero, List.set_cons_succ, i64_w, i32_w]
        rfl
      refine one_ (i := 40) (N := some 123) #[true, true, true, true, true, true, true, true, true, true, true, true, true, true, true, true, true, true, true, true, true, true, true, true, true, true, true, true, true, true, true, true, true, true, true, true, true, true, true, true, true, true, true, false, false, false, false, false, false, false, false, false, false] rfl rfl (by kernel_rfl) (by decide) (fun Kc hKc => ?_)
      refine goes_ Try.func22 (by kernel_rfl) rfl #[.agg #[.slice A1 n1 c1], .agg #[.slice Ay ny cy]] (by rfl) rfl rfl (by simp only [List.map_toArray, List.map_cons, List.map_nil]; rfl) ?_
      with_reducible refine (same_c (Kd.C_below HC1.out (by repeat (first | (with_reducible first | exact HL.out | apply below_alloc | apply pw_below_drewN | apply below_drew1) | exact HL.out))) (Kd.C_below HY.out (by repeat (first | (with_reducible first | exact HB.out | apply below_alloc | apply pw_below_drewN | apply below_drew1) | exact HB.out))) hn1m _ ES.out).mono ?_
      rintro e w13 ⟨rfl, hb⟩
      refine ⟨_, rfl, ?_⟩
      have n0_ := Aside0.mk (below_step (by repeat (first | (with_reducible first | exact HB.out | apply below_alloc | apply pw_below_drewN | apply below_drew1) | exact HB.out)) hb)
      clear HB
      have HB := n0_
      clear n0_
      have n0_ := Aside0.mk (below_step (by repeat (first | (with_reducible first | exact HL.out | apply below_alloc | apply pw_below_drewN | apply below_drew1) | exact HL.out)) hb)
      clear HL
      have HL := n0_
      clear n0_
      refine hKc.out _ _ ⟨pw_cell_below hb hHeld.1, pw_cell_below hb hHeld.2.1, pw_cell_below hb hHeld.2.2⟩ (fun hHeld => ?_)
      clear hKc Kc
      refine norm_ (a' := ?_) ?_ ?_
      rotate_left
      · show Act.put _ (some 123) _ = _
        simp only [Act.put, List.setIfInBounds_toArray, List.set_cons_zero, List.set_cons_succ, i64_w, i32_w]
        rfl
      refine one_ (i := 43) (N := some 126) #[true, true, true, true, true, true, true, true, true, true, true, true, true, true, true, true, true, true, true, true, true, true, true, true, true, true, true, true, true, true, true, true, true, true, true, true, true, true, true, true, true, true, true, true, false, false, false, false, false, false, false, false, false] rfl rfl (by kernel_rfl) (by decide) (fun Kc hKc => ?_)
      refine goes_ Try.func9 (by kernel_rfl) rfl #[.agg #[.slice Ay ny cy]] (by rfl) rfl rfl (by simp only [List.map_toArray, List.map_cons, List.map_nil]; rfl) ?_
      with_reducible refine (ref_c).mono ?_
      rintro e w13 ⟨rfl, hb⟩
      refine ⟨_, rfl, ?_⟩
      have n0_ := Aside0.mk (below_step (by repeat (first | (with_reducible first | exact HB.out | apply below_alloc | apply pw_below_drewN | apply below_drew1) | exact HB.out)) hb)
      clear HB
      have HB := n0_
      clear n0_
      have n0_ := Aside0.mk (below_step (by repeat (first | (with_reducible first | exact HL.out | apply below_alloc | apply pw_below_drewN | apply below_drew1) | exact HL.out)) hb)
      clear HL
      have HL := n0_
      clear n0_
      refine hKc.out _ _ ⟨pw_cell_below hb hHeld.1, pw_cell_below hb hHeld.2.1, pw_cell_below hb hHeld.2.2⟩ (fun hHeld => ?_)
      clear hKc Kc
      refine norm_ (a' := ?_) ?_ ?_
      rotate_left
      · show Act.put _ (some 126) _ = _
        simp only [Act.put, List.setIfInBounds_toArray, List.set_cons_zero, List.set_cons_succ, i64_w, i32_w]
        rfl
      refine one_ (i := 44) (N := some 127) #[true, true, true, true, true, true, true, true, true, true, true, true, true, true, true, true, true, true, true, true, true, true, true, true, true, true, true, true, true, true, true, true, true, true, true, true, true, true, true, true, true, true, true, true, true, false, false, false, false, false, false, false, false] rfl rfl (by kernel_rfl) (by decide) (fun Kc hKc => ?_)
      refine goes_ Try.func13 (by kernel_rfl) rfl #[.agg #[.slice A2 n2 c2], .agg #[.slice Ay ny cy]] (by rfl) rfl rfl (by simp only [List.map_toArray, List.map_cons, List.map_nil]; rfl) ?_
      with_reducible refine (rsame_c (Kd.C_below HC2.out (by repeat (first | (with_reducible first | exact HL.out | apply below_alloc | apply pw_below_drewN | apply below_drew1) | exact HL.out))) (Kd.C_below HY.out (by repeat (first | (with_reducible first | exact HB.out | apply below_alloc | apply pw_below_drewN | apply below_drew1) | exact HB.out))) hn2m _ ES.out).mono ?_
      rintro e w13 ⟨rfl, hb⟩
      refine ⟨_, rfl, ?_⟩
      have n0_ := Aside0.mk (below_step (by repeat (first | (with_reducible first | exact HB.out | apply below_alloc | apply pw_below_drewN | apply below_drew1) | exact HB.out)) hb)
      clear HB
      have HB := n0_
      clear n0_
      have n0_ := Aside0.mk (below_step (by repeat (first | (with_reducible first | exact HL.out | apply below_alloc | apply pw_below_drewN | apply below_drew1) | exact HL.out)) hb)
      clear HL
      have HL := n0_
      clear n0_
      refine hKc.out _ _ ⟨pw_cell_below hb hHeld.1, pw_cell_below hb hHeld.2.1, pw_cell_below hb hHeld.2.2⟩ (fun hHeld => ?_)
      clear hKc Kc
      refine norm_ (a' := ?_) ?_ ?_
      rotate_left
      · show Act.put _ (some 127) _ = _
        simp only [Act.put, List.setIfInBounds_toArray, List.set_cons_zero, List.set_cons_succ, i64_w, i32_w]
        rfl
      refine pure_ (i := 45) (N := some 128) (v := ?_) (a' := ?_) #[true, true, true, true, true, true, true, true, true, true, true, true, true, true, true, true, true, true, true, true, true, true, true, true, true, true, true, true, true, true, true, true, true, true, true, true, true, true, true, true, true, true, true, true, true, true, false, false, false, false, false, false, false] rfl rfl (by kernel_rfl) (fun _ _ _ h => h) (Or.inl ⟨by rfl, ?_⟩) ?_ ?_
      rotate_left
      · intro w'
        go_simp
        with_reducible rfl
      rotate_left
      · simp only [Act.put, List.setIfInBounds_toArray, List.set_cons_zero, List.set_cons_succ, i64_w, i32_w]
        rfl
      refine pure_ (i := 46) (N := some 129) (v := ?_) (a' := ?_) #[true, true, true, true, true, true, true, true, true, true, true, true, true, true, true, true, true, true, true, true, true, true, true, true, true, true, true, true, true, true, true, true, true, true, true, true, true, true, true, true, true, true, true, true, true, true, true, false, false, false, false, false, false] rfl rfl (by kernel_rfl) (fun _ _ _ h => h) (Or.inl ⟨by rfl, ?_⟩) ?_ ?_
      rotate_left
      · intro w'
        go_simp
        with_reducible rfl
      rotate_left
      · simp only [Act.put, List.setIfInBounds_toArray, List.set_cons_zero, List.set_cons_succ, i64_w, i32_w]
        rfl
      refine pure_ (i := 47) (N := some 130) (v := ?_) (a' := ?_) #[true, true, true, true, true, true, true, true, true, true, true, true, true, true, true, true, true, true, true, true, true, true, true, true, true, true, true, true, true, true, true, true, true, true, true, true, true, true, true, true, true, true, true, true, true, true, true, true, false, false, false, false, false] rfl rfl (by kernel_rfl) (fun _ _ _ h => h) (Or.inl ⟨by rfl, ?_⟩) ?_ ?_
      rotate_left
      · intro w'
        go_simp
        with_reducible rfl
      rotate_left
      · simp only [Act.put, List.setIfInBounds_toArray, List.set_cons_zero, List.set_cons_succ, i64_w, i32_w]
        rfl
      refine take_ (i := 48) (N := some 131) (v := ?_) (a' := ?_) #[true, true, true, true, true, true, true, true, true, true, true, true, true, true, true, true, true, true, true, true, true, true, true, true, true, true, true, true, true, true, true, true, true, true, true, true, true, true, true, true, true, true, true, true, true, true, true, true, true, false, false, false, false] rfl rfl (by kernel_rfl) (fun _ _ _ h => h) (Or.inl ⟨by rfl, ?_⟩) hHeld ?_ ?_
      rotate_left
      · rintro w' ⟨s0, s1, s2⟩
        go_simp
        with_reducible rfl
      rotate_left
      · simp only [Act.put, List.setIfInBounds_toArray, List.set_cons_zero, List.set_cons_succ, i64_w, i32_w]
        rfl
      refine take_ (i := 49) (N := some 132) (v := ?_) (a' := ?_) #[true, true, true, true, true, true, true, true, true, true, true, true, true, true, true, true, true, true, true, true, true, true, true, true, true, true, true, true, true, true, true, true, true, true, true, true, true, true, true, true, true, true, true, true, true, true, true, true, true, true, false, false, false] rfl rfl (by kernel_rfl) (fun _ _ _ h => h) (Or.inl ⟨by rfl, ?_⟩) hHeld ?_ ?_
      rotate_left
      · rintro w' ⟨s0, s1, s2⟩
        go_simp
        with_reducible rfl
      rotate_left
      · simp only [Act.put, List.setIfInBounds_toArray, List.set_cons_zero, List.set_cons_succ, i64_w, i32_w]
        rfl
      refine one_ (i := 50) (N := some 133) #[true, true, true, true, true, true, true, true, true, true, true, true, true, true, true, true, true, true, true, true, true, true, true, true, true, true, true, true, true, true, true, true, true, true, true, true, true, true, true, true, true, true, true, true, true, true, true, true, true, true, true, false, false] rfl rfl (by kernel_rfl) (by decide) (fun Kc hKc => ?_)
      refine goes_ Try.func22 (by kernel_rfl) rfl #[.agg #[.slice A1 n1 c1], .agg #[.slice A1 n1 c1]] (by rfl) rfl rfl (by simp only [List.map_toArray, List.map_cons, List.map_nil]; rfl) ?_
      with_reducible refine (same_c (Kd.C_below HC1.out (by repeat (first | (with_reducible first | exact HL.out | apply below_alloc | apply pw_below_drewN | apply below_drew1) | exact HL.out))) (Kd.C_below HC1.out (by repeat (first | (with_reducible first | exact HL.out | apply below_alloc | apply pw_below_drewN | apply below_drew1) | exact HL.out))) hn1m true (decide_eq_true rfl)).mono ?_
      rintro e w13 ⟨rfl, hb⟩
      refine ⟨_, rfl, ?_⟩
      have n0_ := Aside0.mk (below_step (by repeat (first | (with_reducible first | exact HB.out | apply below_alloc | apply pw_below_drewN | apply below_drew1) | exact HB.out)) hb)
      clear HB
      have HB := n0_
      clear n0_
      have n0_ := Aside0.mk (below_step (by repeat (first | (with_reducible first | exact HL.out | apply below_alloc | apply pw_below_drewN | apply below_drew1) | exact HL.out)) hb)
      clear HL
      have HL := n0_
      clear n0_
      refine hKc.out _ _ ⟨pw_cell_below hb hHeld.1, pw_cell_below hb hHeld.2.1, pw_cell_below hb hHeld.2.2⟩ (fun hHeld => ?_)
      clear hKc Kc
      refine norm_ (a' := ?_) ?_ ?_
      rotate_left
      · show Act.put _ (some 133) _ = _
        simp only [Act.put, List.setIfInBounds_toArray, List.set_cons_zero, List.set_cons_succ, i64_w, i32_w]
        rfl
      refine pure_ (i := 51) (N := some 134) (v := ?_) (a' := ?_) #[true, true, true, true, true, true, true, true, true, true, true, true, true, true, true, true, true, true, true, true, true, true, true, true, true, true, true, true, true, true, true, true, true, true, true, true, true, true, true, true, true, true, true, true, true, true, true, true, true, true, true, true, false] rfl rfl (by kernel_rfl) (fun _ _ _ h => h) (Or.inl ⟨by rfl, ?_⟩) ?_ ?_
      rotate_left
      · intro w'
        go_simp
        with_reducible rfl
      rotate_left
      · simp only [Act.put, List.setIfInBounds_toArray, List.set_cons_zero, List.set_cons_succ, i64_w, i32_w]
        rfl
      refine pure_ (i := 52) (N := some 16) (v := ?_) (a' := ?_) #[true, true, true, true, true, true, true, true, true, true, true, true, true, true, true, true, true, true, true, true, true, true, true, true, true, true, true, true, true, true, true, true, true, true, true, true, true, true, true, true, true, true, true, true, true, true, true, true, true, true, true, true, true] rfl rfl (by kernel_rfl) (fun _ _ _ h => h) (Or.inl ⟨by rfl, ?_⟩) ?_ ?_
      rotate_left
      · intro w'
        go_simp
        with_reducible rfl
      rotate_left
      · simp only [Act.put, List.setIfInBounds_toArray, List.set_cons_zero, List.set_cons_succ, i64_w, i32_w]
        rfl
      refine done_ (by kernel_rfl) ?_
      go_wp2
      go_ret
      exact ⟨rfl, (by repeat (first | (with_reducible first | exact HB.out | apply below_alloc | apply pw_below_drewN | apply below_drew1) | exact HB.out))⟩
end Go.Proofs.Ytoidaakmmnlhgaa.Hand
namespace Go.Proofs.Ytoidaakmmnlhgaa.Hand
open Go.RowKit Go.Proofs.YtoidaakmmnlhgaaW.PrintWords Go.Proofs.YtoidaakmmnlhgaaW.PrintLast Go.Proofs.YtoidaakmmnlhgaaW.PrintMore
theorem wf_u8 {n : Int} (h : (Lit.int .u8 n).wf = true) : 0 ≤ n ∧ n ≤ 255 := by
  simp [Lit.wf, IntKind.min, IntKind.max, IntKind.signed, IntKind.bits] at h
  omega
theorem short16 {α : Type} {G : α → Prop} {l : List α} (h : ShortRow (Try.prog.bytesOf 43) G l) : l.length ≤ 140737488351232 := by
  have e : Try.prog.bytesOf 43 = 16 := by kernel_rfl
  have := h.1
  rw [e] at this
  omega
theorem short8 {α : Type} {G : α → Prop} {l : List α} (h : ShortRow (Try.prog.bytesOf 2) G l) : l.length ≤ 140737488351232 := by
  have e : Try.prog.bytesOf 2 = 8 := by kernel_rfl
  have := h.1
  rw [e] at this
  omega
theorem short1 {α : Type} {G : α → Prop} {l : List α} (h : ShortRow (Try.prog.bytesOf 5) G l) : l.length ≤ 140737488351232 := by
  have e : Try.prog.bytesOf 5 = 1 := by kernel_rfl
  have := h.1
  rw [e] at this
  omega
theorem spans_arg {W : World} {y : List (List Int)} {cs : Array Value} (h : ∀ W', Has W W' → (Kd.slice 43 (Kd.arr 2 (Kd.int .i64) (by decide))).K W' y cs.toList) : ∃ A c, cs = #[.slice A y.length c] ∧ y.length ≤ c ∧ Kd.C kI W A y.length (ivOf y) := by
  obtain ⟨A, c, e, hl, hC⟩ := h W (Has.refl W)
  exact ⟨A, c, by rw [← Array.toArray_toList (xs := cs), e], hl, arr2_C hC⟩
theorem SpansTells_walk (y0 : List (List Int)) (l0 : Array Value) (a1 : Bool) (y2 : List Int) (a2 : Option Addr) (cap2 : Nat) (y3 : List Int) (a3 : Option Addr) (cap3 : Nat) (a4 a5 a6 : Int) (y7 : List (List Int)) (l7 : Array Value) (W : World)
    (ky0 : ∀ W', Has W W' → (Kd.slice 43 (Kd.arr 2 (Kd.int .i64) (by decide))).K W' y0 l0.toList) {G0 : List Int → Prop} (gy0 : ShortRow (Try.prog.bytesOf 43) G0 y0)
    (hl2 : y2.length ≤ cap2) (hk2 : ∀ W', Has W W' → Kd.C (Kd.int .i64) W' a2 y2.length y2) {G2 : Int → Prop} (gy2 : ShortRow (Try.prog.bytesOf 2) G2 y2)
    (hl3 : y3.length ≤ cap3) (hk3 : ∀ W', Has W W' → Kd.C (Kd.int .u8) W' a3 y3.length y3) (gy3 : ShortRow (Try.prog.bytesOf 5) (fun n => (Lit.int .u8 n).wf = true) y3)
    (w4 : (Lit.int .i64 a4).wf = true) (w5 : (Lit.int .i64 a5).wf = true) (w6 : (Lit.int .u8 a6).wf = true)
    (ky7 : ∀ W', Has W W' → (Kd.slice 43 (Kd.arr 2 (Kd.int .i64) (by decide))).K W' y7 l7.toList) {G7 : List Int → Prop} (gy7 : ShortRow (Try.prog.bytesOf 43) G7 y7) :
    Calls Try.prog 3 #[.agg l0, .bool a1, .slice a2 y2.length cap2, .slice a3 y3.length cap3, .int .i64 a4, .int .i64 a5, .int .u8 a6, .agg l7] W fun e W' => e = .returned (.bool true) ∧ Below W.heap.size W W' := by
  obtain ⟨A, c, rfl, hc, hC⟩ := spans_arg ky0
  obtain ⟨A', c', rfl, hc', hC'⟩ := spans_arg ky7
  obtain ⟨h1, h2⟩ := wf_u8 w6
  exact tells_walk a1 a4 a5 a6 hC hc (short16 gy0) hC' hc' (short16 gy7) (hk2 W (Has.refl W)) hl2 (short8 gy2) (hk3 W (Has.refl W)) hl3 (short1 gy3) h1 h2 (fun x hx => (wf_u8 (gy3.2 x hx)).1)
end Go.Proofs.Ytoidaakmmnlhgaa.Hand
