/- Chapter 8: types, Type. -/
import Derived.Test.YtimmomhgljofnaaDoorV5
import Derived.Deep.RegionLaw
import Derived.Deep.DeepCutAuto
import Derived.Deep.CutBlock
set_option linter.unusedVariables false
set_option linter.unusedSimpArgs false
namespace Go.Proofs.YtimmomhgljofnaaDoor.Hand
open Go.Proofs.YtimmomhgljofnaaDoor.PValueBad
open Go.RowKit Go.Proofs.YtimmomhgljofnaaDoorW.PrintWords Go.Proofs.YtimmomhgljofnaaDoorW.PrintLast Go.Proofs.YtimmomhgljofnaaDoorW.PrintMore
set_option maxHeartbeats 4000000 in
set_option maxRecDepth 100000 in
theorem types_c : ∀ (d : Nat) (x : S24), SizeOf.sizeOf x ≤ d → ∀ {W : World} {A : Option Addr} {c : Nat}, Kd.C k24 W A x.f5.length x.f5 → x.f5.length ≤ c →
    Calls Tryd.prog 46 #[.agg #[.int .i64 x.f0, .string x.f1, .int .i64 x.f2, .string x.f3, .string x.f4, .slice A x.f5.length c]] W fun e w' => e = .returned (.int .i64 (typesE x)) ∧ Below W.heap.size W w' := by
  intro d
  induction d with
  | zero =>
    intro x hx
    have : 0 < SizeOf.sizeOf x := by cases x; simp only [S24.mk.sizeOf_spec]; omega
    omega
  | succ d ih =>
    intro x hx W A c hr hc
    obtain ⟨k, op, n, v, f, kids⟩ := x
    simp only [S24.mk.sizeOf_spec] at hx
    simp only at hr hc ⊢
    have IH : ∀ y ∈ kids, ∀ (W2 : World) (A' : Option Addr) (c' : Nat), Kd.C k24 W2 A' y.f5.length y.f5 → y.f5.length ≤ c' → Calls Tryd.prog 46 #[.agg #[.int .i64 y.f0, .string y.f1, .int .i64 y.f2, .string y.f3, .string y.f4, .slice A' y.f5.length c']] W2 fun e w' => e = .returned (.int .i64 (typesE y)) ∧ Below W2.heap.size W2 w' := by
      intro y hy W2 A' c' hC hc'
      have hs : SizeOf.sizeOf y < SizeOf.sizeOf kids := List.sizeOf_lt_of_mem hy
      exact ih y (by omega) hC hc'
    have HI := Aside0.mk IH
    have HR := Aside0.mk hr
    have hli : (kids.length : Int) ≤ 9223372036854775807 := by have := hr.2.1; omega
    clear hr ih hx IH
    have HB0 := Aside0.mk (Below.refl W.heap.size W)
    by_cases hk2 : k < 2
    · have HT := Aside0.mk (show typesE ⟨k, op, n, v, f, kids⟩ = 1 by rw [typesE, if_pos hk2])
      go_enter Tryd.func46, Tryd.ntmps46
      go_upto_region 2 with fail
      have HB := Aside0.mk (show Below W.heap.size W ((W.alloc (.cells #[.int .i64 k, .string op, .int .i64 n, .string v, .string f, .slice A kids.length c] 24 (0, 0))).alloc (.cells #[.int .i64 1] 3 (0, 0))) from below_alloc (below_alloc (Below.refl _ _) _) _)
      have BE := Aside0.mk (show ((W.alloc (.cells #[.int .i64 k, .string op, .int .i64 n, .string v, .string f, .slice A kids.length c] 24 (0, 0))).alloc (.cells #[.int .i64 1] 3 (0, 0))).heap[W.heap.size]? = some (.cells #[.int .i64 k, .string op, .int .i64 n, .string v, .string f, .slice A kids.length c] 24 (0, 0)) from blk_alloc (blk_new _ _) _)
      have BW := Aside0.mk (show ((W.alloc (.cells #[.int .i64 k, .string op, .int .i64 n, .string v, .string f, .slice A kids.length c] 24 (0, 0))).alloc (.cells #[.int .i64 1] 3 (0, 0))).heap[W.heap.size + 1]? = some (.cells #[.int .i64 1] 3 (0, 0)) from blk_new' (by simp))
      clear HB0
      generalize ((W.alloc (.cells #[.int .i64 k, .string op, .int .i64 n, .string v, .string f, .slice A kids.length c] 24 (0, 0))).alloc (.cells #[.int .i64 1] 3 (0, 0))) = w0 at *
      obtain ⟨qBE_0, qBE_1, qBE_2, qBE_3, qBE_4, qBE_5, lBE⟩ := cells6 BE.out
      have qBW_0 := blk_cell BW.out 0
      have lBW := blk_lt BW.out
      simp only [List.getElem?_toArray, List.getElem?_cons_zero, List.getElem?_cons_succ] at qBW_0
      have fBW := blk_frozen BW.out 0
      have HL := Aside0.mk (Below.refl w0.heap.size w0)
      go_wp2
      all_goals (try (exfalso; omega))
      all_goals go_ret
      all_goals exact ⟨by rw [HT.out]; rfl, (by repeat (first | exact HB.out | (with_reducible apply below_drew1) | (with_reducible apply pw_below_drewN) | (with_reducible refine below_set ?_ (by omega))))⟩
    by_cases ek2 : k = 2
    · subst ek2
      cases hop : op.toList == [33]
      · have HW := Aside0.mk (show wantE 2 op = 1 from by simp [wantE, eqS, hop])
        have HIS := Aside0.mk (show isE 2 op = 1 from by simp [isE, eqS, hop])
        cases hany : kids.any (fun y => typesE y != 1)
        · have HT := Aside0.mk (show typesE ⟨2, op, n, v, f, kids⟩ = 1 by rw [typesE, if_neg (by decide), HW.out, typesL_all, hany, HIS.out]; rfl)
          go_enter Tryd.func46, Tryd.ntmps46
          go_upto_region 2 with fail
          have HB := Aside0.mk (show Below W.heap.size W ((W.alloc (.cells #[.int .i64 2, .string op, .int .i64 n, .string v, .string f, .slice A kids.length c] 24 (0, 0))).alloc (.cells #[.int .i64 1] 3 (0, 0))) from below_alloc (below_alloc (Below.refl _ _) _) _)
          have BE := Aside0.mk (show ((W.alloc (.cells #[.int .i64 2, .string op, .int .i64 n, .string v, .string f, .slice A kids.length c] 24 (0, 0))).alloc (.cells #[.int .i64 1] 3 (0, 0))).heap[W.heap.size]? = some (.cells #[.int .i64 2, .string op, .int .i64 n, .string v, .string f, .slice A kids.length c] 24 (0, 0)) from blk_alloc (blk_new _ _) _)
          have BW := Aside0.mk (show ((W.alloc (.cells #[.int .i64 2, .string op, .int .i64 n, .string v, .string f, .slice A kids.length c] 24 (0, 0))).alloc (.cells #[.int .i64 1] 3 (0, 0))).heap[W.heap.size + 1]? = some (.cells #[.int .i64 1] 3 (0, 0)) from blk_new' (by simp))
          clear HB0
          generalize ((W.alloc (.cells #[.int .i64 2, .string op, .int .i64 n, .string v, .string f, .slice A kids.length c] 24 (0, 0))).alloc (.cells #[.int .i64 1] 3 (0, 0))) = w0 at *
          obtain ⟨qBE_0, qBE_1, qBE_2, qBE_3, qBE_4, qBE_5, lBE⟩ := cells6 BE.out
          have qBW_0 := blk_cell BW.out 0
          have lBW := blk_lt BW.out
          simp only [List.getElem?_toArray, List.getElem?_cons_zero, List.getElem?_cons_succ] at qBW_0
          have fBW := blk_frozen BW.out 0
          have HL := Aside0.mk (Below.refl w0.heap.size w0)
          go_wp2_with (first | (go_at_call 54; (with_reducible refine (tcf_c (bw := W.heap.size + 1) (fun y => typesE y != 1) (fun y hy W' A' c' hb hC hc' => types1_c y 1 (typesE y) (blk_below (o := .cells #[.int .i64 1] 3 (0, 0)) (by first | exact blk_put BW.out _ | exact BW.out) hb) (fun W2 h2 => HI.out y hy W2 A' c' (Kd.C_below hC h2) hc')) (Kd.C_below HR.out (by repeat (first | exact HB.out | (with_reducible apply below_drew1) | (with_reducible apply pw_below_drewN) | (with_reducible refine below_set ?_ (by omega))))) hc).mono ?_); rintro e w3 ⟨rfl, hb⟩; have n0_ := Aside0.mk (below_step (show Below W.heap.size W _ from (by repeat (first | exact HB.out | (with_reducible apply below_drew1) | (with_reducible apply pw_below_drewN) | (with_reducible refine below_set ?_ (by omega))))) hb); clear HB; have HB := n0_; clear n0_ hb))
          all_goals (try (exfalso; omega))
          all_goals go_ret
          all_goals exact ⟨by rw [HT.out]; rfl, (by repeat (first | exact HB.out | (with_reducible apply below_drew1) | (with_reducible apply pw_below_drewN) | (with_reducible refine below_set ?_ (by omega))))⟩
        · have HT := Aside0.mk (show typesE ⟨2, op, n, v, f, kids⟩ = 0 by rw [typesE, if_neg (by decide), HW.out, typesL_all, hany, HIS.out]; rfl)
          go_enter Tryd.func46, Tryd.ntmps46
          go_upto_region 2 with fail
          have HB := Aside0.mk (show Below W.heap.size W ((W.alloc (.cells #[.int .i64 2, .string op, .int .i64 n, .string v, .string f, .slice A kids.length c] 24 (0, 0))).alloc (.cells #[.int .i64 1] 3 (0, 0))) from below_alloc (below_alloc (Below.refl _ _) _) _)
          have BE := Aside0.mk (show ((W.alloc (.cells #[.int .i64 2, .string op, .int .i64 n, .string v, .string f, .slice A kids.length c] 24 (0, 0))).alloc (.cells #[.int .i64 1] 3 (0, 0))).heap[W.heap.size]? = some (.cells #[.int .i64 2, .string op, .int .i64 n, .string v, .string f, .slice A kids.length c] 24 (0, 0)) from blk_alloc (blk_new _ _) _)
          have BW := Aside0.mk (show ((W.alloc (.cells #[.int .i64 2, .string op, .int .i64 n, .string v, .string f, .slice A kids.length c] 24 (0, 0))).alloc (.cells #[.int .i64 1] 3 (0, 0))).heap[W.heap.size + 1]? = some (.cells #[.int .i64 1] 3 (0, 0)) from blk_new' (by simp))
          clear HB0
          generalize ((W.alloc (.cells #[.int .i64 2, .string op, .int .i64 n, .string v, .string f, .slice A kids.length c] 24 (0, 0))).alloc (.cells #[.int .i64 1] 3 (0, 0))) = w0 at *
          obtain ⟨qBE_0, qBE_1, qBE_2, qBE_3, qBE_4, qBE_5, lBE⟩ := cells6 BE.out
          have qBW_0 := blk_cell BW.out 0
          have lBW := blk_lt BW.out
          simp only [List.getElem?_toArray, List.getElem?_cons_zero, List.getElem?_cons_succ] at qBW_0
          have fBW := blk_frozen BW.out 0
          have HL := Aside0.mk (Below.refl w0.heap.size w0)
          go_wp2_with (first | (go_at_call 54; (with_reducible refine (tcf_c (bw := W.heap.size + 1) (fun y => typesE y != 1) (fun y hy W' A' c' hb hC hc' => types1_c y 1 (typesE y) (blk_below (o := .cells #[.int .i64 1] 3 (0, 0)) (by first | exact blk_put BW.out _ | exact BW.out) hb) (fun W2 h2 => HI.out y hy W2 A' c' (Kd.C_below hC h2) hc')) (Kd.C_below HR.out (by repeat (first | exact HB.out | (with_reducible apply below_drew1) | (with_reducible apply pw_below_drewN) | (with_reducible refine below_set ?_ (by omega))))) hc).mono ?_); rintro e w3 ⟨rfl, hb⟩; have n0_ := Aside0.mk (below_step (show Below W.heap.size W _ from (by repeat (first | exact HB.out | (with_reducible apply below_drew1) | (with_reducible apply pw_below_drewN) | (with_reducible refine below_set ?_ (by omega))))) hb); clear HB; have HB := n0_; clear n0_ hb))
          all_goals (try (exfalso; omega))
          all_goals go_ret
          all_goals exact ⟨by rw [HT.out]; rfl, (by repeat (first | exact HB.out | (with_reducible apply below_drew1) | (with_reducible apply pw_below_drewN) | (with_reducible refine below_set ?_ (by omega))))⟩
      · have HW := Aside0.mk (show wantE 2 op = 2 from by simp [wantE, eqS, hop])
        have HIS := Aside0.mk (show isE 2 op = 2 from by simp [isE, eqS, hop])
        cases hany : kids.any (fun y => typesE y != 2)
        · have HT := Aside0.mk (show typesE ⟨2, op, n, v, f, kids⟩ = 2 by rw [typesE, if_neg (by decide), HW.out, typesL_all, hany, HIS.out]; rfl)
          go_enter Tryd.func46, Tryd.ntmps46
          go_upto_region 2 with fail
          have HB := Aside0.mk (show Below W.heap.size W ((W.alloc (.cells #[.int .i64 2, .string op, .int .i64 n, .string v, .string f, .slice A kids.length c] 24 (0, 0))).alloc (.cells #[.int .i64 1] 3 (0, 0))) from below_alloc (below_alloc (Below.refl _ _) _) _)
          have BE := Aside0.mk (show ((W.alloc (.cells #[.int .i64 2, .string op, .int .i64 n, .string v, .string f, .slice A kids.length c] 24 (0, 0))).alloc (.cells #[.int .i64 1] 3 (0, 0))).heap[W.heap.size]? = some (.cells #[.int .i64 2, .string op, .int .i64 n, .string v, .string f, .slice A kids.length c] 24 (0, 0)) from blk_alloc (blk_new _ _) _)
          have BW := Aside0.mk (show ((W.alloc (.cells #[.int .i64 2, .string op, .int .i64 n, .string v, .string f, .slice A kids.length c] 24 (0, 0))).alloc (.cells #[.int .i64 1] 3 (0, 0))).heap[W.heap.size + 1]? = some (.cells #[.int .i64 1] 3 (0, 0)) from blk_new' (by simp))
          clear HB0
          generalize ((W.alloc (.cells #[.int .i64 2, .string op, .int .i64 n, .string v, .string f, .slice A kids.length c] 24 (0, 0))).alloc (.cells #[.int .i64 1] 3 (0, 0))) = w0 at *
          obtain ⟨qBE_0, qBE_1, qBE_2, qBE_3, qBE_4, qBE_5, lBE⟩ := cells6 BE.out
          have qBW_0 := blk_cell BW.out 0
          have lBW := blk_lt BW.out
          simp only [List.getElem?_toArray, List.getElem?_cons_zero, List.getElem?_cons_succ] at qBW_0
          have fBW := blk_frozen BW.out 0
          have HL := Aside0.mk (Below.refl w0.heap.size w0)
          go_wp2_with (first | (go_at_call 54; (with_reducible refine (tcf_c (bw := W.heap.size + 1) (fun y => typesE y != 2) (fun y hy W' A' c' hb hC hc' => types1_c y 2 (typesE y) (blk_below (o := .cells #[.int .i64 2] 3 (0, 0)) (by first | exact blk_put BW.out _ | exact BW.out) hb) (fun W2 h2 => HI.out y hy W2 A' c' (Kd.C_below hC h2) hc')) (Kd.C_below HR.out (by repeat (first | exact HB.out | (with_reducible apply below_drew1) | (with_reducible apply pw_below_drewN) | (with_reducible refine below_set ?_ (by omega))))) hc).mono ?_); rintro e w3 ⟨rfl, hb⟩; have n0_ := Aside0.mk (below_step (show Below W.heap.size W _ from (by repeat (first | exact HB.out | (with_reducible apply below_drew1) | (with_reducible apply pw_below_drewN) | (with_reducible refine below_set ?_ (by omega))))) hb); clear HB; have HB := n0_; clear n0_ hb))
          all_goals (try (exfalso; omega))
          all_goals go_ret
          all_goals exact ⟨by rw [HT.out]; rfl, (by repeat (first | exact HB.out | (with_reducible apply below_drew1) | (with_reducible apply pw_below_drewN) | (with_reducible refine below_set ?_ (by omega))))⟩
        · have HT := Aside0.mk (show typesE ⟨2, op, n, v, f, kids⟩ = 0 by rw [typesE, if_neg (by decide), HW.out, typesL_all, hany, HIS.out]; rfl)
          go_enter Tryd.func46, Tryd.ntmps46
          go_upto_region 2 with fail
          have HB := Aside0.mk (show Below W.heap.size W ((W.alloc (.cells #[.int .i64 2, .string op, .int .i64 n, .string v, .string f, .slice A kids.length c] 24 (0, 0))).alloc (.cells #[.int .i64 1] 3 (0, 0))) from below_alloc (below_alloc (Below.refl _ _) _) _)
          have BE := Aside0.mk (show ((W.alloc (.cells #[.int .i64 2, .string op, .int .i64 n, .string v, .string f, .slice A kids.length c] 24 (0, 0))).alloc (.cells #[.int .i64 1] 3 (0, 0))).heap[W.heap.size]? = some (.cells #[.int .i64 2, .string op, .int .i64 n, .string v, .string f, .slice A kids.length c] 24 (0, 0)) from blk_alloc (blk_new _ _) _)
          have BW := Aside0.mk (show ((W.alloc (.cells #[.int .i64 2, .string op, .int .i64 n, .string v, .string f, .slice A kids.length c] 24 (0, 0))).alloc (.cells #[.int .i64 1] 3 (0, 0))).heap[W.heap.size + 1]? = some (.cells #[.int .i64 1] 3 (0, 0)) from blk_new' (by simp))
          clear HB0
          generalize ((W.alloc (.cells #[.int .i64 2, .string op, .int .i64 n, .string v, .string f, .slice A kids.length c] 24 (0, 0))).alloc (.cells #[.int .i64 1] 3 (0, 0))) = w0 at *
          obtain ⟨qBE_0, qBE_1, qBE_2, qBE_3, qBE_4, qBE_5, lBE⟩ := cells6 BE.out
          have qBW_0 := blk_cell BW.out 0
          have lBW := blk_lt BW.out
          simp only [List.getElem?_toArray, List.getElem?_cons_zero, List.getElem?_cons_succ] at qBW_0
          have fBW := blk_frozen BW.out 0
          have HL := Aside0.mk (Below.refl w0.heap.size w0)
          go_wp2_with (first | (go_at_call 54; (with_reducible refine (tcf_c (bw := W.heap.size + 1) (fun y => typesE y != 2) (fun y hy W' A' c' hb hC hc' => types1_c y 2 (typesE y) (blk_below (o := .cells #[.int .i64 2] 3 (0, 0)) (by first | exact blk_put BW.out _ | exact BW.out) hb) (fun W2 h2 => HI.out y hy W2 A' c' (Kd.C_below hC h2) hc')) (Kd.C_below HR.out (by repeat (first | exact HB.out | (with_reducible apply below_drew1) | (with_reducible apply pw_below_drewN) | (with_reducible refine below_set ?_ (by omega))))) hc).mono ?_); rintro e w3 ⟨rfl, hb⟩; have n0_ := Aside0.mk (below_step (show Below W.heap.size W _ from (by repeat (first | exact HB.out | (with_reducible apply below_drew1) | (with_reducible apply pw_below_drewN) | (with_reducible refine below_set ?_ (by omega))))) hb); clear HB; have HB := n0_; clear n0_ hb))
          all_goals (try (exfalso; omega))
          all_goals go_ret
          all_goals exact ⟨by rw [HT.out]; rfl, (by repeat (first | exact HB.out | (with_reducible apply below_drew1) | (with_reducible apply pw_below_drewN) | (with_reducible refine below_set ?_ (by omega))))⟩
    by_cases ek3 : k = 3
    · subst ek3
      by_cases h3 : lvl op < 3
      · have HW := Aside0.mk (show wantE 3 op = 2 from by simp [wantE, h3])
        have HIS := Aside0.mk (show isE 3 op = 2 from by simp [isE, h3])
        cases hany : kids.any (fun y => typesE y != 2)
        · have HT := Aside0.mk (show typesE ⟨3, op, n, v, f, kids⟩ = 2 by rw [typesE, if_neg (by decide), HW.out, typesL_all, hany, HIS.out]; rfl)
          go_enter Tryd.func46, Tryd.ntmps46
          go_upto_region 2 with fail
          have HB := Aside0.mk (show Below W.heap.size W ((W.alloc (.cells #[.int .i64 3, .string op, .int .i64 n, .string v, .string f, .slice A kids.length c] 24 (0, 0))).alloc (.cells #[.int .i64 1] 3 (0, 0))) from below_alloc (below_alloc (Below.refl _ _) _) _)
          have BE := Aside0.mk (show ((W.alloc (.cells #[.int .i64 3, .string op, .int .i64 n, .string v, .string f, .slice A kids.length c] 24 (0, 0))).alloc (.cells #[.int .i64 1] 3 (0, 0))).heap[W.heap.size]? = some (.cells #[.int .i64 3, .string op, .int .i64 n, .string v, .string f, .slice A kids.length c] 24 (0, 0)) from blk_alloc (blk_new _ _) _)
          have BW := Aside0.mk (show ((W.alloc (.cells #[.int .i64 3, .string op, .int .i64 n, .string v, .string f, .slice A kids.length c] 24 (0, 0))).alloc (.cells #[.int .i64 1] 3 (0, 0))).heap[W.heap.size + 1]? = some (.cells #[.int .i64 1] 3 (0, 0)) from blk_new' (by simp))
          clear HB0
          generalize ((W.alloc (.cells #[.int .i64 3, .string op, .int .i64 n, .string v, .string f, .slice A kids.length c] 24 (0, 0))).alloc (.cells #[.int .i64 1] 3 (0, 0))) = w0 at *
          obtain ⟨qBE_0, qBE_1, qBE_2, qBE_3, qBE_4, qBE_5, lBE⟩ := cells6 BE.out
          have qBW_0 := blk_cell BW.out 0
          have lBW := blk_lt BW.out
          simp only [List.getElem?_toArray, List.getElem?_cons_zero, List.getElem?_cons_succ] at qBW_0
          have fBW := blk_frozen BW.out 0
          have HL := Aside0.mk (Below.refl w0.heap.size w0)
          go_wp2_with (first | (go_at_call 56; (with_reducible refine (level_c op).mono ?_); rintro e w1 ⟨rfl, hb⟩; have n0_ := Aside0.mk (below_step (by repeat (first | (with_reducible first | exact HB.out | apply below_alloc | apply pw_below_drewN | apply below_drew1) | exact HB.out)) hb); clear HB; have HB := n0_; clear n0_; have hs_ := below_step (by repeat (first | (with_reducible first | exact HL.out | apply below_alloc | apply pw_below_drewN | apply below_drew1) | exact HL.out)) hb; have n_ := Aside0.mk (blk_below BE.out hs_); clear qBE_0 qBE_1 qBE_2 qBE_3 qBE_4 qBE_5 lBE; clear BE; have BE := n_; clear n_; obtain ⟨qBE_0, qBE_1, qBE_2, qBE_3, qBE_4, qBE_5, lBE⟩ := cells6 BE.out; have n_ := Aside0.mk (blk_below BW.out hs_); clear qBW_0 lBW fBW; clear BW; have BW := n_; clear n_; have qBW_0 := blk_cell BW.out 0; have lBW := blk_lt BW.out; simp only [List.getElem?_toArray, List.getElem?_cons_zero, List.getElem?_cons_succ] at qBW_0; have fBW := blk_frozen BW.out 0; clear HL hs_ hb; have HL := Aside0.mk (Below.refl w1.heap.size w1)) | (go_at_call 54; (with_reducible refine (tcf_c (bw := W.heap.size + 1) (fun y => typesE y != 2) (fun y hy W' A' c' hb hC hc' => types1_c y 2 (typesE y) (blk_below (o := .cells #[.int .i64 2] 3 (0, 0)) (by first | exact blk_put BW.out _ | exact BW.out) hb) (fun W2 h2 => HI.out y hy W2 A' c' (Kd.C_below hC h2) hc')) (Kd.C_below HR.out (by repeat (first | exact HB.out | (with_reducible apply below_drew1) | (with_reducible apply pw_below_drewN) | (with_reducible refine below_set ?_ (by omega))))) hc).mono ?_); rintro e w3 ⟨rfl, hb⟩; have n0_ := Aside0.mk (below_step (show Below W.heap.size W _ from (by repeat (first | exact HB.out | (with_reducible apply below_drew1) | (with_reducible apply pw_below_drewN) | (with_reducible refine below_set ?_ (by omega))))) hb); clear HB; have HB := n0_; clear n0_ hb))
          all_goals (try (exfalso; omega))
          all_goals go_ret
          all_goals exact ⟨by rw [HT.out]; rfl, (by repeat (first | exact HB.out | (with_reducible apply below_drew1) | (with_reducible apply pw_below_drewN) | (with_reducible refine below_set ?_ (by omega))))⟩
        · have HT := Aside0.mk (show typesE ⟨3, op, n, v, f, kids⟩ = 0 by rw [typesE, if_neg (by decide), HW.out, typesL_all, hany, HIS.out]; rfl)
          go_enter Tryd.func46, Tryd.ntmps46
          go_upto_region 2 with fail
          have HB := Aside0.mk (show Below W.heap.size W ((W.alloc (.cells #[.int .i64 3, .string op, .int .i64 n, .string v, .string f, .slice A kids.length c] 24 (0, 0))).alloc (.cells #[.int .i64 1] 3 (0, 0))) from below_alloc (below_alloc (Below.refl _ _) _) _)
          have BE := Aside0.mk (show ((W.alloc (.cells #[.int .i64 3, .string op, .int .i64 n, .string v, .string f, .slice A kids.length c] 24 (0, 0))).alloc (.cells #[.int .i64 1] 3 (0, 0))).heap[W.heap.size]? = some (.cells #[.int .i64 3, .string op, .int .i64 n, .string v, .string f, .slice A kids.length c] 24 (0, 0)) from blk_alloc (blk_new _ _) _)
          have BW := Aside0.mk (show ((W.alloc (.cells #[.int .i64 3, .string op, .int .i64 n, .string v, .string f, .slice A kids.length c] 24 (0, 0))).alloc (.cells #[.int .i64 1] 3 (0, 0))).heap[W.heap.size + 1]? = some (.cells #[.int .i64 1] 3 (0, 0)) from blk_new' (by simp))
          clear HB0
          generalize ((W.alloc (.cells #[.int .i64 3, .string op, .int .i64 n, .string v, .string f, .slice A kids.length c] 24 (0, 0))).alloc (.cells #[.int .i64 1] 3 (0, 0))) = w0 at *
          obtain ⟨qBE_0, qBE_1, qBE_2, qBE_3, qBE_4, qBE_5, lBE⟩ := cells6 BE.out
          have qBW_0 := blk_cell BW.out 0
          have lBW := blk_lt BW.out
          simp only [List.getElem?_toArray, List.getElem?_cons_zero, List.getElem?_cons_succ] at qBW_0
          have fBW := blk_frozen BW.out 0
          have HL := Aside0.mk (Below.refl w0.heap.size w0)
          go_wp2_with (first | (go_at_call 56; (with_reducible refine (level_c op).mono ?_); rintro e w1 ⟨rfl, hb⟩; have n0_ := Aside0.mk (below_step (by repeat (first | (with_reducible first | exact HB.out | apply below_alloc | apply pw_below_drewN | apply below_drew1) | exact HB.out)) hb); clear HB; have HB := n0_; clear n0_; have hs_ := below_step (by repeat (first | (with_reducible first | exact HL.out | apply below_alloc | apply pw_below_drewN | apply below_drew1) | exact HL.out)) hb; have n_ := Aside0.mk (blk_below BE.out hs_); clear qBE_0 qBE_1 qBE_2 qBE_3 qBE_4 qBE_5 lBE; clear BE; have BE := n_; clear n_; obtain ⟨qBE_0, qBE_1, qBE_2, qBE_3, qBE_4, qBE_5, lBE⟩ := cells6 BE.out; have n_ := Aside0.mk (blk_below BW.out hs_); clear qBW_0 lBW fBW; clear BW; have BW := n_; clear n_; have qBW_0 := blk_cell BW.out 0; have lBW := blk_lt BW.out; simp only [List.getElem?_toArray, List.getElem?_cons_zero, List.getElem?_cons_succ] at qBW_0; have fBW := blk_frozen BW.out 0; clear HL hs_ hb; have HL := Aside0.mk (Below.refl w1.heap.size w1)) | (go_at_call 54; (with_reducible refine (tcf_c (bw := W.heap.size + 1) (fun y => typesE y != 2) (fun y hy W' A' c' hb hC hc' => types1_c y 2 (typesE y) (blk_below (o := .cells #[.int .i64 2] 3 (0, 0)) (by first | exact blk_put BW.out _ | exact BW.out) hb) (fun W2 h2 => HI.out y hy W2 A' c' (Kd.C_below hC h2) hc')) (Kd.C_below HR.out (by repeat (first | exact HB.out | (with_reducible apply below_drew1) | (with_reducible apply pw_below_drewN) | (with_reducible refine below_set ?_ (by omega))))) hc).mono ?_); rintro e w3 ⟨rfl, hb⟩; have n0_ := Aside0.mk (below_step (show Below W.heap.size W _ from (by repeat (first | exact HB.out | (with_reducible apply below_drew1) | (with_reducible apply pw_below_drewN) | (with_reducible refine below_set ?_ (by omega))))) hb); clear HB; have HB := n0_; clear n0_ hb))
          all_goals (try (exfalso; omega))
          all_goals go_ret
          all_goals exact ⟨by rw [HT.out]; rfl, (by repeat (first | exact HB.out | (with_reducible apply below_drew1) | (with_reducible apply pw_below_drewN) | (with_reducible refine below_set ?_ (by omega))))⟩
      by_cases h5 : lvl op < 5
      · have HW := Aside0.mk (show wantE 3 op = 1 from by simp [wantE, h3])
        have HIS := Aside0.mk (show isE 3 op = 2 from by simp [isE, h3, h5])
        cases hany : kids.any (fun y => typesE y != 1)
        · have HT := Aside0.mk (show typesE ⟨3, op, n, v, f, kids⟩ = 2 by rw [typesE, if_neg (by decide), HW.out, typesL_all, hany, HIS.out]; rfl)
          go_enter Tryd.func46, Tryd.ntmps46
          go_upto_region 2 with fail
          have HB := Aside0.mk (show Below W.heap.size W ((W.alloc (.cells #[.int .i64 3, .string op, .int .i64 n, .string v, .string f, .slice A kids.length c] 24 (0, 0))).alloc (.cells #[.int .i64 1] 3 (0, 0))) from below_alloc (below_alloc (Below.refl _ _) _) _)
          have BE := Aside0.mk (show ((W.alloc (.cells #[.int .i64 3, .string op, .int .i64 n, .string v, .string f, .slice A kids.length c] 24 (0, 0))).alloc (.cells #[.int .i64 1] 3 (0, 0))).heap[W.heap.size]? = some (.cells #[.int .i64 3, .string op, .int .i64 n, .string v, .string f, .slice A kids.length c] 24 (0, 0)) from blk_alloc (blk_new _ _) _)
          have BW := Aside0.mk (show ((W.alloc (.cells #[.int .i64 3, .string op, .int .i64 n, .string v, .string f, .slice A kids.length c] 24 (0, 0))).alloc (.cells #[.int .i64 1] 3 (0, 0))).heap[W.heap.size + 1]? = some (.cells #[.int .i64 1] 3 (0, 0)) from blk_new' (by simp))
          clear HB0
          generalize ((W.alloc (.cells #[.int .i64 3, .string op, .int .i64 n, .string v, .string f, .slice A kids.length c] 24 (0, 0))).alloc (.cells #[.int .i64 1] 3 (0, 0))) = w0 at *
          obtain ⟨qBE_0, qBE_1, qBE_2, qBE_3, qBE_4, qBE_5, lBE⟩ := cells6 BE.out
          have qBW_0 := blk_cell BW.out 0
          have lBW := blk_lt BW.out
          simp only [List.getElem?_toArray, List.getElem?_cons_zero, List.getElem?_cons_succ] at qBW_0
          have fBW := blk_frozen BW.out 0
          have HL := Aside0.mk (Below.refl w0.heap.size w0)
          go_wp2_with (first | (go_at_call 56; (with_reducible refine (level_c op).mono ?_); rintro e w1 ⟨rfl, hb⟩; have n0_ := Aside0.mk (below_step (by repeat (first | (with_reducible first | exact HB.out | apply below_alloc | apply pw_below_drewN | apply below_drew1) | exact HB.out)) hb); clear HB; have HB := n0_; clear n0_; have hs_ := below_step (by repeat (first | (with_reducible first | exact HL.out | apply below_alloc | apply pw_below_drewN | apply below_drew1) | exact HL.out)) hb; have n_ := Aside0.mk (blk_below BE.out hs_); clear qBE_0 qBE_1 qBE_2 qBE_3 qBE_4 qBE_5 lBE; clear BE; have BE := n_; clear n_; obtain ⟨qBE_0, qBE_1, qBE_2, qBE_3, qBE_4, qBE_5, lBE⟩ := cells6 BE.out; have n_ := Aside0.mk (blk_below BW.out hs_); clear qBW_0 lBW fBW; clear BW; have BW := n_; clear n_; have qBW_0 := blk_cell BW.out 0; have lBW := blk_lt BW.out; simp only [List.getElem?_toArray, List.getElem?_cons_zero, List.getElem?_cons_succ] at qBW_0; have fBW := blk_frozen BW.out 0; clear HL hs_ hb; have HL := Aside0.mk (Below.refl w1.heap.size w1)) | (go_at_call 54; (with_reducible refine (tcf_c (bw := W.heap.size + 1) (fun y => typesE y != 1) (fun y hy W' A' c' hb hC hc' => types1_c y 1 (typesE y) (blk_below (o := .cells #[.int .i64 1] 3 (0, 0)) (by first | exact blk_put BW.out _ | exact BW.out) hb) (fun W2 h2 => HI.out y hy W2 A' c' (Kd.C_below hC h2) hc')) (Kd.C_below HR.out (by repeat (first | exact HB.out | (with_reducible apply below_drew1) | (with_reducible apply pw_below_drewN) | (with_reducible refine below_set ?_ (by omega))))) hc).mono ?_); rintro e w3 ⟨rfl, hb⟩; have n0_ := Aside0.mk (below_step (show Below W.heap.size W _ from (by repeat (first | exact HB.out | (with_reducible apply below_drew1) | (with_reducible apply pw_below_drewN) | (with_reducible refine below_set ?_ (by omega))))) hb); clear HB; have HB := n0_; clear n0_ hb))
          all_goals (try (exfalso; omega))
          all_goals go_ret
          all_goals exact ⟨by rw [HT.out]; rfl, (by repeat (first | exact HB.out | (with_reducible apply below_drew1) | (with_reducible apply pw_below_drewN) | (with_reducible refine below_set ?_ (by omega))))⟩
        · have HT := Aside0.mk (show typesE ⟨3, op, n, v, f, kids⟩ = 0 by rw [typesE, if_neg (by decide), HW.out, typesL_all, hany, HIS.out]; rfl)
          go_enter Tryd.func46, Tryd.ntmps46
          go_upto_region 2 with fail
          have HB := Aside0.mk (show Below W.heap.size W ((W.alloc (.cells #[.int .i64 3, .string op, .int .i64 n, .string v, .string f, .slice A kids.length c] 24 (0, 0))).alloc (.cells #[.int .i64 1] 3 (0, 0))) from below_alloc (below_alloc (Below.refl _ _) _) _)
          have BE := Aside0.mk (show ((W.alloc (.cells #[.int .i64 3, .string op, .int .i64 n, .string v, .string f, .slice A kids.length c] 24 (0, 0))).alloc (.cells #[.int .i64 1] 3 (0, 0))).heap[W.heap.size]? = some (.cells #[.int .i64 3, .string op, .int .i64 n, .string v, .string f, .slice A kids.length c] 24 (0, 0)) from blk_alloc (blk_new _ _) _)
          have BW := Aside0.mk (show ((W.alloc (.cells #[.int .i64 3, .string op, .int .i64 n, .string v, .string f, .slice A kids.length c] 24 (0, 0))).alloc (.cells #[.int .i64 1] 3 (0, 0))).heap[W.heap.size + 1]? = some (.cells #[.int .i64 1] 3 (0, 0)) from blk_new' (by simp))
          clear HB0
          generalize ((W.alloc (.cells #[.int .i64 3, .string op, .int .i64 n, .string v, .string f, .slice A kids.length c] 24 (0, 0))).alloc (.cells #[.int .i64 1] 3 (0, 0))) = w0 at *
          obtain ⟨qBE_0, qBE_1, qBE_2, qBE_3, qBE_4, qBE_5, lBE⟩ := cells6 BE.out
          have qBW_0 := blk_cell BW.out 0
          have lBW := blk_lt BW.out
          simp only [List.getElem?_toArray, List.getElem?_cons_zero, List.getElem?_cons_succ] at qBW_0
          have fBW := blk_frozen BW.out 0
          have HL := Aside0.mk (Below.refl w0.heap.size w0)
          go_wp2_with (first | (go_at_call 56; (with_reducible refine (level_c op).mono ?_); rintro e w1 ⟨rfl, hb⟩; have n0_ := Aside0.mk (below_step (by repeat (first | (with_reducible first | exact HB.out | apply below_alloc | apply pw_below_drewN | apply below_drew1) | exact HB.out)) hb); clear HB; have HB := n0_; clear n0_; have hs_ := below_step (by repeat (first | (with_reducible first | exact HL.out | apply below_alloc | apply pw_below_drewN | apply below_drew1) | exact HL.out)) hb; have n_ := Aside0.mk (blk_below BE.out hs_); clear qBE_0 qBE_1 qBE_2 qBE_3 qBE_4 qBE_5 lBE; clear BE; have BE := n_; clear n_; obtain ⟨qBE_0, qBE_1, qBE_2, qBE_3, qBE_4, qBE_5, lBE⟩ := cells6 BE.out; have n_ := Aside0.mk (blk_below BW.out hs_); clear qBW_0 lBW fBW; clear BW; have BW := n_; clear n_; have qBW_0 := blk_cell BW.out 0; have lBW := blk_lt BW.out; simp only [List.getElem?_toArray, List.getElem?_cons_zero, List.getElem?_cons_succ] at qBW_0; have fBW := blk_frozen BW.out 0; clear HL hs_ hb; have HL := Aside0.mk (Below.refl w1.heap.size w1)) | (go_at_call 54; (with_reducible refine (tcf_c (bw := W.heap.size + 1) (fun y => typesE y != 1) (fun y hy W' A' c' hb hC hc' => types1_c y 1 (typesE y) (blk_below (o := .cells #[.int .i64 1] 3 (0, 0)) (by first | exact blk_put BW.out _ | exact BW.out) hb) (fun W2 h2 => HI.out y hy W2 A' c' (Kd.C_below hC h2) hc')) (Kd.C_below HR.out (by repeat (first | exact HB.out | (with_reducible apply below_drew1) | (with_reducible apply pw_below_drewN) | (with_reducible refine below_set ?_ (by omega))))) hc).mono ?_); rintro e w3 ⟨rfl, hb⟩; have n0_ := Aside0.mk (below_step (show Below W.heap.size W _ from (by repeat (first | exact HB.out | (with_reducible apply below_drew1) | (with_reducible apply pw_below_drewN) | (with_reducible refine below_set ?_ (by omega))))) hb); clear HB; have HB := n0_; clear n0_ hb))
          all_goals (try (exfalso; omega))
          all_goals go_ret
          all_goals exact ⟨by rw [HT.out]; rfl, (by repeat (first | exact HB.out | (with_reducible apply below_drew1) | (with_reducible apply pw_below_drewN) | (with_reducible refine below_set ?_ (by omega))))⟩
      · have HW := Aside0.mk (show wantE 3 op = 1 from by simp [wantE, h3])
        have HIS := Aside0.mk (show isE 3 op = 1 from by simp [isE, h3, h5])
        cases hany : kids.any (fun y => typesE y != 1)
        · have HT := Aside0.mk (show typesE ⟨3, op, n, v, f, kids⟩ = 1 by rw [typesE, if_neg (by decide), HW.out, typesL_all, hany, HIS.out]; rfl)
          go_enter Tryd.func46, Tryd.ntmps46
          go_upto_region 2 with fail
          have HB := Aside0.mk (show Below W.heap.size W ((W.alloc (.cells #[.int .i64 3, .string op, .int .i64 n, .string v, .string f, .slice A kids.length c] 24 (0, 0))).alloc (.cells #[.int .i64 1] 3 (0, 0))) from below_alloc (below_alloc (Below.refl _ _) _) _)
          have BE := Aside0.mk (show ((W.alloc (.cells #[.int .i64 3, .string op, .int .i64 n, .string v, .string f, .slice A kids.length c] 24 (0, 0))).alloc (.cells #[.int .i64 1] 3 (0, 0))).heap[W.heap.size]? = some (.cells #[.int .i64 3, .string op, .int .i64 n, .string v, .string f, .slice A kids.length c] 24 (0, 0)) from blk_alloc (blk_new _ _) _)
          have BW := Aside0.mk (show ((W.alloc (.cells #[.int .i64 3, .string op, .int .i64 n, .string v, .string f, .slice A kids.length c] 24 (0, 0))).alloc (.cells #[.int .i64 1] 3 (0, 0))).heap[W.heap.size + 1]? = some (.cells #[.int .i64 1] 3 (0, 0)) from blk_new' (by simp))
          clear HB0
          generalize ((W.alloc (.cells #[.int .i64 3, .string op, .int .i64 n, .string v, .string f, .slice A kids.length c] 24 (0, 0))).alloc (.cells #[.int .i64 1] 3 (0, 0))) = w0 at *
          obtain ⟨qBE_0, qBE_1, qBE_2, qBE_3, qBE_4, qBE_5, lBE⟩ := cells6 BE.out
          have qBW_0 := blk_cell BW.out 0
          have lBW := blk_lt BW.out
          simp only [List.getElem?_toArray, List.getElem?_cons_zero, List.getElem?_cons_succ] at qBW_0
          have fBW := blk_frozen BW.out 0
          have HL := Aside0.mk (Below.refl w0.heap.size w0)
          go_wp2_with (first | (go_at_call 56; (with_reducible refine (level_c op).mono ?_); rintro e w1 ⟨rfl, hb⟩; have n0_ := Aside0.mk (below_step (by repeat (first | (with_reducible first | exact HB.out | apply below_alloc | apply pw_below_drewN | apply below_drew1) | exact HB.out)) hb); clear HB; have HB := n0_; clear n0_; have hs_ := below_step (by repeat (first | (with_reducible first | exact HL.out | apply below_alloc | apply pw_below_drewN | apply below_drew1) | exact HL.out)) hb; have n_ := Aside0.mk (blk_below BE.out hs_); clear qBE_0 qBE_1 qBE_2 qBE_3 qBE_4 qBE_5 lBE; clear BE; have BE := n_; clear n_; obtain ⟨qBE_0, qBE_1, qBE_2, qBE_3, qBE_4, qBE_5, lBE⟩ := cells6 BE.out; have n_ := Aside0.mk (blk_below BW.out hs_); clear qBW_0 lBW fBW; clear BW; have BW := n_; clear n_; have qBW_0 := blk_cell BW.out 0; have lBW := blk_lt BW.out; simp only [List.getElem?_toArray, List.getElem?_cons_zero, List.getElem?_cons_succ] at qBW_0; have fBW := blk_frozen BW.out 0; clear HL hs_ hb; have HL := Aside0.mk (Below.refl w1.heap.size w1)) | (go_at_call 54; (with_reducible refine (tcf_c (bw := W.heap.size + 1) (fun y => typesE y != 1) (fun y hy W' A' c' hb hC hc' => types1_c y 1 (typesE y) (blk_below (o := .cells #[.int .i64 1] 3 (0, 0)) (by first | exact blk_put BW.out _ | exact BW.out) hb) (fun W2 h2 => HI.out y hy W2 A' c' (Kd.C_below hC h2) hc')) (Kd.C_below HR.out (by repeat (first | exact HB.out | (with_reducible apply below_drew1) | (with_reducible apply pw_below_drewN) | (with_reducible refine below_set ?_ (by omega))))) hc).mono ?_); rintro e w3 ⟨rfl, hb⟩; have n0_ := Aside0.mk (below_step (show Below W.heap.size W _ from (by repeat (first | exact HB.out | (with_reducible apply below_drew1) | (with_reducible apply pw_below_drewN) | (with_reducible refine below_set ?_ (by omega))))) hb); clear HB; have HB := n0_; clear n0_ hb))
          all_goals (try (exfalso; omega))
          all_goals go_ret
          all_goals exact ⟨by rw [HT.out]; rfl, (by repeat (first | exact HB.out | (with_reducible apply below_drew1) | (with_reducible apply pw_below_drewN) | (with_reducible refine below_set ?_ (by omega))))⟩
        · have HT := Aside0.mk (show typesE ⟨3, op, n, v, f, kids⟩ = 0 by rw [typesE, if_neg (by decide), HW.out, typesL_all, hany, HIS.out]; rfl)
          go_enter Tryd.func46, Tryd.ntmps46
          go_upto_region 2 with fail
          have HB := Aside0.mk (show Below W.heap.size W ((W.alloc (.cells #[.int .i64 3, .string op, .int .i64 n, .string v, .string f, .slice A kids.length c] 24 (0, 0))).alloc (.cells #[.int .i64 1] 3 (0, 0))) from below_alloc (below_alloc (Below.refl _ _) _) _)
          have BE := Aside0.mk (show ((W.alloc (.cells #[.int .i64 3, .string op, .int .i64 n, .string v, .string f, .slice A kids.length c] 24 (0, 0))).alloc (.cells #[.int .i64 1] 3 (0, 0))).heap[W.heap.size]? = some (.cells #[.int .i64 3, .string op, .int .i64 n, .string v, .string f, .slice A kids.length c] 24 (0, 0)) from blk_alloc (blk_new _ _) _)
          have BW := Aside0.mk (show ((W.alloc (.cells #[.int .i64 3, .string op, .int .i64 n, .string v, .string f, .slice A kids.length c] 24 (0, 0))).alloc (.cells #[.int .i64 1] 3 (0, 0))).heap[W.heap.size + 1]? = some (.cells #[.int .i64 1] 3 (0, 0)) from blk_new' (by simp))
          clear HB0
          generalize ((W.alloc (.cells #[.int .i64 3, .string op, .int .i64 n, .string v, .string f, .slice A kids.length c] 24 (0, 0))).alloc (.cells #[.int .i64 1] 3 (0, 0))) = w0 at *
          obtain ⟨qBE_0, qBE_1, qBE_2, qBE_3, qBE_4, qBE_5, lBE⟩ := cells6 BE.out
          have qBW_0 := blk_cell BW.out 0
          have lBW := blk_lt BW.out
          simp only [List.getElem?_toArray, List.getElem?_cons_zero, List.getElem?_cons_succ] at qBW_0
          have fBW := blk_frozen BW.out 0
          have HL := Aside0.mk (Below.refl w0.heap.size w0)
          go_wp2_with (first | (go_at_call 56; (with_reducible refine (level_c op).mono ?_); rintro e w1 ⟨rfl, hb⟩; have n0_ := Aside0.mk (below_step (by repeat (first | (with_reducible first | exact HB.out | apply below_alloc | apply pw_below_drewN | apply below_drew1) | exact HB.out)) hb); clear HB; have HB := n0_; clear n0_; have hs_ := below_step (by repeat (first | (with_reducible first | exact HL.out | apply below_alloc | apply pw_below_drewN | apply below_drew1) | exact HL.out)) hb; have n_ := Aside0.mk (blk_below BE.out hs_); clear qBE_0 qBE_1 qBE_2 qBE_3 qBE_4 qBE_5 lBE; clear BE; have BE := n_; clear n_; obtain ⟨qBE_0, qBE_1, qBE_2, qBE_3, qBE_4, qBE_5, lBE⟩ := cells6 BE.out; have n_ := Aside0.mk (blk_below BW.out hs_); clear qBW_0 lBW fBW; clear BW; have BW := n_; clear n_; have qBW_0 := blk_cell BW.out 0; have lBW := blk_lt BW.out; simp only [List.getElem?_toArray, List.getElem?_cons_zero, List.getElem?_cons_succ] at qBW_0; have fBW := blk_frozen BW.out 0; clear HL hs_ hb; have HL := Aside0.mk (Below.refl w1.heap.size w1)) | (go_at_call 54; (with_reducible refine (tcf_c (bw := W.heap.size + 1) (fun y => typesE y != 1) (fun y hy W' A' c' hb hC hc' => types1_c y 1 (typesE y) (blk_below (o := .cells #[.int .i64 1] 3 (0, 0)) (by first | exact blk_put BW.out _ | exact BW.out) hb) (fun W2 h2 => HI.out y hy W2 A' c' (Kd.C_below hC h2) hc')) (Kd.C_below HR.out (by repeat (first | exact HB.out | (with_reducible apply below_drew1) | (with_reducible apply pw_below_drewN) | (with_reducible refine below_set ?_ (by omega))))) hc).mono ?_); rintro e w3 ⟨rfl, hb⟩; have n0_ := Aside0.mk (below_step (show Below W.heap.size W _ from (by repeat (first | exact HB.out | (with_reducible apply below_drew1) | (with_reducible apply pw_below_drewN) | (with_reducible refine below_set ?_ (by omega))))) hb); clear HB; have HB := n0_; clear n0_ hb))
          all_goals (try (exfalso; omega))
          all_goals go_ret
          all_goals exact ⟨by rw [HT.out]; rfl, (by repeat (first | exact HB.out | (with_reducible apply below_drew1) | (with_reducible apply pw_below_drewN) | (with_reducible refine below_set ?_ (by omega))))⟩
    have e2 : (k == 2) = false := beq_eq_false_iff_ne.mpr ek2
    have e3 : (k == 3) = false := beq_eq_false_iff_ne.mpr ek3
    have HW := Aside0.mk (show wantE k op = 1 from by simp [wantE, ek2, ek3])
    have HIS := Aside0.mk (show isE k op = 1 from by simp [isE, ek2, ek3])
    cases hany : kids.any (fun y => typesE y != 1)
    · have HT := Aside0.mk (show typesE ⟨k, op, n, v, f, kids⟩ = 1 by rw [typesE, if_neg (hk2), HW.out, typesL_all, hany, HIS.out]; rfl)
      go_enter Tryd.func46, Tryd.ntmps46
      go_upto_region 2 with fail
      have HB := Aside0.mk (show Below W.heap.size W ((W.alloc (.cells #[.int .i64 k, .string op, .int .i64 n, .string v, .string f, .slice A kids.length c] 24 (0, 0))).alloc (.cells #[.int .i64 1] 3 (0, 0))) from below_alloc (below_alloc (Below.refl _ _) _) _)
      have BE := Aside0.mk (show ((W.alloc (.cells #[.int .i64 k, .string op, .int .i64 n, .string v, .string f, .slice A kids.length c] 24 (0, 0))).alloc (.cells #[.int .i64 1] 3 (0, 0))).heap[W.heap.size]? = some (.cells #[.int .i64 k, .string op, .int .i64 n, .string v, .string f, .slice A kids.length c] 24 (0, 0)) from blk_alloc (blk_new _ _) _)
      have BW := Aside0.mk (show ((W.alloc (.cells #[.int .i64 k, .string op, .int .i64 n, .string v, .string f, .slice A kids.length c] 24 (0, 0))).alloc (.cells #[.int .i64 1] 3 (0, 0))).heap[W.heap.size + 1]? = some (.cells #[.int .i64 1] 3 (0, 0)) from blk_new' (by simp))
      clear HB0
      generalize ((W.alloc (.cells #[.int .i64 k, .string op, .int .i64 n, .string v, .string f, .slice A kids.length c] 24 (0, 0))).alloc (.cells #[.int .i64 1] 3 (0, 0))) = w0 at *
      obtain ⟨qBE_0, qBE_1, qBE_2, qBE_3, qBE_4, qBE_5, lBE⟩ := cells6 BE.out
      have qBW_0 := blk_cell BW.out 0
      have lBW := blk_lt BW.out
      simp only [List.getElem?_toArray, List.getElem?_cons_zero, List.getElem?_cons_succ] at qBW_0
      have fBW := blk_frozen BW.out 0
      have HL := Aside0.mk (Below.refl w0.heap.size w0)
      go_wp2_with (first | (go_at_call 54; (with_reducible refine (tcf_c (bw := W.heap.size + 1) (fun y => typesE y != 1) (fun y hy W' A' c' hb hC hc' => types1_c y 1 (typesE y) (blk_below (o := .cells #[.int .i64 1] 3 (0, 0)) (by first | exact blk_put BW.out _ | exact BW.out) hb) (fun W2 h2 => HI.out y hy W2 A' c' (Kd.C_below hC h2) hc')) (Kd.C_below HR.out (by repeat (first | exact HB.out | (with_reducible apply below_drew1) | (with_reducible apply pw_below_drewN) | (with_reducible refine below_set ?_ (by omega))))) hc).mono ?_); rintro e w3 ⟨rfl, hb⟩; have n0_ := Aside0.mk (below_step (show Below W.heap.size W _ from (by repeat (first | exact HB.out | (with_reducible apply below_drew1) | (with_reducible apply pw_below_drewN) | (with_reducible refine below_set ?_ (by omega))))) hb); clear HB; have HB := n0_; clear n0_ hb))
      all_goals (try (exfalso; omega))
      all_goals go_ret
      all_goals exact ⟨by rw [HT.out]; rfl, (by repeat (first | exact HB.out | (with_reducible apply below_drew1) | (with_reducible apply pw_below_drewN) | (with_reducible refine below_set ?_ (by omega))))⟩
    · have HT := Aside0.mk (show typesE ⟨k, op, n, v, f, kids⟩ = 0 by rw [typesE, if_neg (hk2), HW.out, typesL_all, hany, HIS.out]; rfl)
      go_enter Tryd.func46, Tryd.ntmps46
      go_upto_region 2 with fail
      have HB := Aside0.mk (show Below W.heap.size W ((W.alloc (.cells #[.int .i64 k, .string op, .int .i64 n, .string v, .string f, .slice A kids.length c] 24 (0, 0))).alloc (.cells #[.int .i64 1] 3 (0, 0))) from below_alloc (below_alloc (Below.refl _ _) _) _)
      have BE := Aside0.mk (show ((W.alloc (.cells #[.int .i64 k, .string op, .int .i64 n, .string v, .string f, .slice A kids.length c] 24 (0, 0))).alloc (.cells #[.int .i64 1] 3 (0, 0))).heap[W.heap.size]? = some (.cells #[.int .i64 k, .string op, .int .i64 n, .string v, .string f, .slice A kids.length c] 24 (0, 0)) from blk_alloc (blk_new _ _) _)
      have BW := Aside0.mk (show ((W.alloc (.cells #[.int .i64 k, .string op, .int .i64 n, .string v, .string f, .slice A kids.length c] 24 (0, 0))).alloc (.cells #[.int .i64 1] 3 (0, 0))).heap[W.heap.size + 1]? = some (.cells #[.int .i64 1] 3 (0, 0)) from blk_new' (by simp))
      clear HB0
      generalize ((W.alloc (.cells #[.int .i64 k, .string op, .int .i64 n, .string v, .string f, .slice A kids.length c] 24 (0, 0))).alloc (.cells #[.int .i64 1] 3 (0, 0))) = w0 at *
      obtain ⟨qBE_0, qBE_1, qBE_2, qBE_3, qBE_4, qBE_5, lBE⟩ := cells6 BE.out
      have qBW_0 := blk_cell BW.out 0
      have lBW := blk_lt BW.out
      simp only [List.getElem?_toArray, List.getElem?_cons_zero, List.getElem?_cons_succ] at qBW_0
      have fBW := blk_frozen BW.out 0
      have HL := Aside0.mk (Below.refl w0.heap.size w0)
      go_wp2_with (first | (go_at_call 54; (with_reducible refine (tcf_c (bw := W.heap.size + 1) (fun y => typesE y != 1) (fun y hy W' A' c' hb hC hc' => types1_c y 1 (typesE y) (blk_below (o := .cells #[.int .i64 1] 3 (0, 0)) (by first | exact blk_put BW.out _ | exact BW.out) hb) (fun W2 h2 => HI.out y hy W2 A' c' (Kd.C_below hC h2) hc')) (Kd.C_below HR.out (by repeat (first | exact HB.out | (with_reducible apply below_drew1) | (with_reducible apply pw_below_drewN) | (with_reducible refine below_set ?_ (by omega))))) hc).mono ?_); rintro e w3 ⟨rfl, hb⟩; have n0_ := Aside0.mk (below_step (show Below W.heap.size W _ from (by repeat (first | exact HB.out | (with_reducible apply below_drew1) | (with_reducible apply pw_below_drewN) | (with_reducible refine below_set ?_ (by omega))))) hb); clear HB; have HB := n0_; clear n0_ hb))
      all_goals (try (exfalso; omega))
      all_goals go_ret
      all_goals exact ⟨by rw [HT.out]; rfl, (by repeat (first | exact HB.out | (with_reducible apply below_drew1) | (with_reducible apply pw_below_drewN) | (with_reducible refine below_set ?_ (by omega))))⟩
end Go.Proofs.YtimmomhgljofnaaDoor.Hand
