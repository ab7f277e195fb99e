/- Chapter 8: the type of an expression. -/
import Derived.Test.YtimmomhgljofnaaDoorV4
import Derived.Deep.RegionLaw
import Derived.Deep.DeepCutAuto
import Derived.Deep.CutBlock
set_option linter.unusedVariables false
set_option linter.unusedSimpArgs false
namespace Go.Proofs.YtimmomhgljofnaaDoor.Hand
open Go.Proofs.YtimmomhgljofnaaDoor.PValueBad
open Go.RowKit Go.Proofs.YtimmomhgljofnaaDoorW.PrintWords Go.Proofs.YtimmomhgljofnaaDoorW.PrintLast Go.Proofs.YtimmomhgljofnaaDoorW.PrintMore
def wantE (k : Int) (op : ByteArray) : Int := if (decide (k = 2) && eqS op [33]) || (decide (k = 3) && decide (lvl op < 3)) then 2 else 1
def isE (k : Int) (op : ByteArray) : Int := if (decide (k = 2) && eqS op [33]) || (decide (k = 3) && decide (lvl op < 3)) then 2 else if decide (k = 3) && decide (lvl op < 5) then 2 else 1
mutual
def typesE : S24 → Int
  | ⟨k, op, _, _, _, kids⟩ => if k < 2 then 1 else if typesL (wantE k op) kids then isE k op else 0
def typesL (w : Int) : List S24 → Bool
  | [] => true
  | x :: r => (typesE x == w) && typesL w r
end
theorem typesL_all (w : Int) : ∀ L : List S24, typesL w L = !L.any (fun y => typesE y != w)
  | [] => by simp [typesL]
  | x :: r => by
    rw [typesL, typesL_all w r, List.any_cons, Bool.not_or]
    congr 1
    simp [bne]
def typeE (nm : ByteArray → Bool) (x : S24) : Int := if rightE nm x then typesE x else 0
set_option maxHeartbeats 1000000 in
set_option maxRecDepth 100000 in
theorem tix_c {W : World} {A : Option Addr} {n c : Nat} {bw : Nat} {L : List S24} (p : S24 → Bool) (HCL : ∀ y ∈ L, ∀ (W' : World) (A' : Option Addr) (c' : Nat), Below W.heap.size W W' → Kd.C k24 W' A' y.f5.length y.f5 → y.f5.length ≤ c' → Calls Tryd.prog 57 #[.agg #[.int .i64 y.f0, .string y.f1, .int .i64 y.f2, .string y.f3, .string y.f4, .slice A' y.f5.length c'], .pointer (some ⟨bw, 0, none⟩)] W' fun e w' => e = .returned (.bool (p y)) ∧ Below W'.heap.size W' w') (hr : Kd.C k24 W A n L) (hc : n ≤ c) :
    Calls Tryd.prog 62 #[.slice A n c, (.func (.func 57) #[] #[.pointer (some ⟨bw, 0, none⟩)])] W fun e w' => e = .returned (.int .i64 (idxB p L 0)) ∧ Below W.heap.size W w' := by
  have hlm : n ≤ 9223372036854775807 := hr.2.1
  have hn := hr.1
  subst hn
  rcases A with _ | ad
  · obtain ⟨_, rfl⟩ := C_none' hr
    have HB := Aside0.mk (Below.refl W.heap.size W)
    clear hr hlm HCL
    go_enter Tryd.func62, Tryd.ntmps62
    go_wp2
    go_loopw [8] (fun v8 wr => v8 = .int .i64 0 ∧ Aside0 (Below W.heap.size W wr)) (fun _ _ => 0)
    case atStart => exact ⟨rfl, ⟨(by repeat (first | (with_reducible first | exact HB.out | apply below_alloc | apply pw_below_drewN | apply below_drew1) | exact HB.out))⟩⟩
    case round =>
      clear HB
      obtain ⟨rfl, HB⟩ := hrel
      go_wp2
      all_goals (try (exfalso; omega))
      all_goals go_ret
      all_goals exact ⟨rfl, HB.out⟩
  have HB := Aside0.mk (Below.refl W.heap.size W)
  have HR := Aside0.mk hr
  have HCL1 := Aside0.mk HCL
  clear hr HCL
  go_enter Tryd.func62, Tryd.ntmps62
  go_wp2
  go_loopw [8] (fun v8 wr => ∃ k : Nat, v8 = .int .i64 (k : Int) ∧ k ≤ L.length ∧ (L.take k).any p = false ∧ Aside0 (Below W.heap.size W wr)) (fun v _ => L.length - (intOf v).toNat)
  case atStart => exact ⟨0, rfl, by omega, rfl, ⟨(by repeat (first | (with_reducible first | exact HB.out | apply below_alloc | apply pw_below_drewN | apply below_drew1) | exact HB.out))⟩⟩
  case round =>
    clear HB
    obtain ⟨k, rfl, hk, hno, HB⟩ := hrel
    by_cases hlt : k < L.length
    · obtain ⟨x, hx⟩ : ∃ x, L[k]? = some x := ⟨L[k], List.getElem?_eq_getElem hlt⟩
      obtain ⟨A1, c1, d0, d1, d2, d3, d4, d5, hc1, hK⟩ := ex_at (Kd.C_below HR.out HB.out) k x hx
      have HK := Aside0.mk hK
      have HMEM := Aside0.mk (List.mem_of_getElem? hx)
      clear hK
      have HCL1A := HCL1.out x HMEM.out wr A1 c1 HB.out HK.out hc1
      cases hp : p x with
      | true =>
        have HAN := Aside0.mk (idxB_at p L k 0 x hx hp hno)
        rw [hp] at HCL1A
        clear hno hx
        go_wp2_with (first | (go_at_call 57; (with_reducible refine HCL1A.mono ?_); rintro e w2 ⟨rfl, hb⟩; have n0_ := Aside0.mk (below_step HB.out hb); clear HB; have HB := n0_; clear n0_ hb))
        all_goals (try (exfalso; omega))
        all_goals go_ret
        all_goals exact ⟨by rw [HAN.out]; simp, HB.out⟩
      | false =>
        have HNO := Aside0.mk (any_take_succ p L k x hx hno hp)
        rw [hp] at HCL1A
        clear hno hx
        go_wp2_with (first | (go_at_call 57; (with_reducible refine HCL1A.mono ?_); rintro e w2 ⟨rfl, hb⟩; have n0_ := Aside0.mk (below_step HB.out hb); clear HB; have HB := n0_; clear n0_ hb))
        all_goals (try (exfalso; omega))
        all_goals go_roundw
        all_goals (try (case rel => exact ⟨k + 1, by go_num, by omega, HNO.out, HB⟩))
        all_goals (try (case measure => (simp [intOf] <;> omega)))
    · obtain rfl : k = L.length := by omega
      rw [List.take_length] at hno
      have HNO := Aside0.mk (idxB_none p L 0 hno)
      clear hno
      go_wp2
      all_goals (try (exfalso; omega))
      all_goals go_ret
      all_goals exact ⟨by rw [HNO.out]; rfl, HB.out⟩
set_option maxHeartbeats 1000000 in
set_option maxRecDepth 100000 in
theorem tcf_c {W : World} {A : Option Addr} {n c : Nat} {bw : Nat} {L : List S24} (p : S24 → Bool) (HCL : ∀ y ∈ L, ∀ (W' : World) (A' : Option Addr) (c' : Nat), Below W.heap.size W W' → Kd.C k24 W' A' y.f5.length y.f5 → y.f5.length ≤ c' → Calls Tryd.prog 57 #[.agg #[.int .i64 y.f0, .string y.f1, .int .i64 y.f2, .string y.f3, .string y.f4, .slice A' y.f5.length c'], .pointer (some ⟨bw, 0, none⟩)] W' fun e w' => e = .returned (.bool (p y)) ∧ Below W'.heap.size W' w') (hr : Kd.C k24 W A n L) (hc : n ≤ c) :
    Calls Tryd.prog 54 #[.slice A n c, (.func (.func 57) #[] #[.pointer (some ⟨bw, 0, none⟩)])] W fun e w' => e = .returned (.bool (L.any p)) ∧ Below W.heap.size W w' := by
  have HB := Aside0.mk (Below.refl W.heap.size W)
  have HL := Aside0.mk (Below.refl W.heap.size W)
  have HX := Aside0.mk (idxB_any p L 0)
  have HC := Aside0.mk (tix_c p HCL hr hc)
  clear HCL hr
  go_enter Tryd.func54, Tryd.ntmps54
  go_wp2_with (first | (go_at_call 62; (with_reducible refine HC.out.mono ?_); rintro e w1 ⟨rfl, hb⟩; have n0_ := Aside0.mk hb; clear HB; have HB := n0_; clear n0_ hb))
  all_goals go_ret
  all_goals exact ⟨by rw [← HX.out]; rfl, (by repeat (first | (with_reducible first | exact HB.out | apply below_alloc | apply pw_below_drewN | apply below_drew1) | exact HB.out))⟩
set_option maxHeartbeats 1000000 in
set_option maxRecDepth 100000 in
theorem types1_c {W : World} {A : Option Addr} {c bw : Nat} (y : S24) (want t : Int) (hb : W.heap[bw]? = some (.cells #[.int .i64 want] 3 (0, 0))) (IH : ∀ W2, Below W.heap.size W W2 → Calls Tryd.prog 46 #[.agg #[.int .i64 y.f0, .string y.f1, .int .i64 y.f2, .string y.f3, .string y.f4, .slice A y.f5.length c]] W2 fun e w' => e = .returned (.int .i64 t) ∧ Below W2.heap.size W2 w') :
    Calls Tryd.prog 57 #[.agg #[.int .i64 y.f0, .string y.f1, .int .i64 y.f2, .string y.f3, .string y.f4, .slice A y.f5.length c], .pointer (some ⟨bw, 0, none⟩)] W fun e w' => e = .returned (.bool (t != want)) ∧ Below W.heap.size W w' := by
  have HI := Aside0.mk IH
  clear IH
  have HB := Aside0.mk (show Below W.heap.size W (W.alloc (.cells #[.int .i64 y.f0, .string y.f1, .int .i64 y.f2, .string y.f3, .string y.f4, .slice A y.f5.length c] 24 (0, 0))) from below_alloc (Below.refl _ _) _)
  have BE := Aside0.mk (show (W.alloc (.cells #[.int .i64 y.f0, .string y.f1, .int .i64 y.f2, .string y.f3, .string y.f4, .slice A y.f5.length c] 24 (0, 0))).heap[W.heap.size]? = some (.cells #[.int .i64 y.f0, .string y.f1, .int .i64 y.f2, .string y.f3, .string y.f4, .slice A y.f5.length c] 24 (0, 0)) from blk_new _ _)
  have BW := Aside0.mk (show (W.alloc (.cells #[.int .i64 y.f0, .string y.f1, .int .i64 y.f2, .string y.f3, .string y.f4, .slice A y.f5.length c] 24 (0, 0))).heap[bw]? = some (.cells #[.int .i64 want] 3 (0, 0)) from blk_alloc hb _)
  clear hb
  go_enter Tryd.func57, Tryd.ntmps57
  go_upto_region 1 with fail
  generalize (W.alloc (.cells #[.int .i64 y.f0, .string y.f1, .int .i64 y.f2, .string y.f3, .string y.f4, .slice A y.f5.length c] 24 (0, 0))) = w0 at *
  obtain ⟨qBE_0, qBE_1, qBE_2, qBE_3, qBE_4, qBE_5, lBE⟩ := cells6 BE.out
  have qBW_0 := blk_cell BW.out 0
  have lBW := blk_lt BW.out
  simp only [List.getElem?_toArray, List.getElem?_cons_zero, List.getElem?_cons_succ] at qBW_0
  have fBW := blk_frozen BW.out 0
  go_region_law (first | (refine goes_ Tryd.func46 (by kernel_rfl) rfl #[.agg #[.int .i64 y.f0, .string y.f1, .int .i64 y.f2, .string y.f3, .string y.f4, .slice A y.f5.length c]] (by rfl) rfl rfl (by simp only [List.map_toArray, List.map_cons, List.map_nil]; rfl) ?_; refine (HI.out _ (by repeat (first | (with_reducible first | exact HB.out | apply below_alloc | apply pw_below_drewN | apply below_drew1) | exact HB.out))).mono ?_; rintro e w2 ⟨rfl, hb⟩; refine ⟨_, rfl, ?_⟩; have n0_ := Aside0.mk (below_step (by repeat (first | (with_reducible first | exact HB.out | apply below_alloc | apply pw_below_drewN | apply below_drew1) | exact HB.out)) hb); clear HB; have HB := n0_; clear n0_; have n_ := Aside0.mk (blk_below (o := .cells #[.int .i64 want] 3 (0, 0)) (g := bw) (by repeat (first | exact BW.out | (with_reducible refine blk_drewN ?_ _) | (with_reducible refine blk_drew ?_))) hb); clear qBW_0 lBW fBW; clear BW; have BW := n_; clear n_; have qBW_0 := blk_cell BW.out 0; have lBW := blk_lt BW.out; simp only [List.getElem?_toArray, List.getElem?_cons_zero, List.getElem?_cons_succ] at qBW_0; have fBW := blk_frozen BW.out 0; clear BE qBE_0 qBE_1 qBE_2 qBE_3 qBE_4 qBE_5 lBE hb))
  all_goals go_wp2
  all_goals go_ret
  all_goals exact ⟨rfl, (by repeat (first | exact HB.out | (with_reducible apply below_drew1) | (with_reducible apply pw_below_drewN) | (with_reducible refine below_set ?_ (by omega))))⟩
end Go.Proofs.YtimmomhgljofnaaDoor.Hand
