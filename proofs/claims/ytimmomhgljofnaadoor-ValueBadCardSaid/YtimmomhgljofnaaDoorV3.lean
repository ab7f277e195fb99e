/- Chapter 8: slices.IndexFunc, ContainsFunc over kids, with Right's closure. -/
import Derived.Test.YtimmomhgljofnaaDoorV2
import Derived.Deep.RegionLaw
import Derived.Deep.DeepCutAuto
import Derived.Deep.CutBlock
set_option linter.unusedVariables false
set_option linter.unusedSimpArgs false
namespace Go.Proofs.YtimmomhgljofnaaDoor.Hand
open Go.Proofs.YtimmomhgljofnaaDoor.PValueBad
open Go.RowKit Go.Proofs.YtimmomhgljofnaaDoorW.PrintWords Go.Proofs.YtimmomhgljofnaaDoorW.PrintLast Go.Proofs.YtimmomhgljofnaaDoorW.PrintMore
theorem ex_at {W : World} {ad : Addr} {n : Nat} {L : List S24} (h : Kd.C k24 W (some ad) n L) (k : Nat) (x : S24) (hx : L[k]? = some x) : ∃ A5 c5, W.cell? (ad.add (k * 6)) = some (.int .i64 x.f0) ∧ W.cell? ⟨(ad.add (k * 6)).block, (ad.add (k * 6)).off + 1, none⟩ = some (.string x.f1) ∧ W.cell? ⟨(ad.add (k * 6)).block, (ad.add (k * 6)).off + 2, none⟩ = some (.int .i64 x.f2) ∧ W.cell? ⟨(ad.add (k * 6)).block, (ad.add (k * 6)).off + 3, none⟩ = some (.string x.f3) ∧ W.cell? ⟨(ad.add (k * 6)).block, (ad.add (k * 6)).off + 4, none⟩ = some (.string x.f4) ∧ W.cell? ⟨(ad.add (k * 6)).block, (ad.add (k * 6)).off + 5, none⟩ = some (.slice A5 x.f5.length c5) ∧ x.f5.length ≤ c5 ∧ Kd.C k24 W A5 x.f5.length x.f5 := by
  obtain ⟨hk, _⟩ := List.getElem?_eq_some_iff.1 hx
  obtain ⟨ad', A5, c5, e, h1⟩ := at_T24 h (k : Int) (by omega) (by have := h.1; omega)
  have e' := Option.some.inj e
  subst e'
  rw [show rd_T24 L (k : Int) = x from by unfold rd_T24; rw [Int.toNat_natCast, List.getD_eq_getElem?_getD, hx]; rfl, Int.toNat_natCast] at h1
  exact ⟨A5, c5, h1⟩
set_option maxHeartbeats 1000000 in
set_option maxRecDepth 100000 in
theorem rix_c {W : World} {A : Option Addr} {n c : Nat} {L : List S24} (p : S24 → Bool) (HCL : ∀ y ∈ L, ∀ (W' : World) (A' : Option Addr) (c' : Nat), Below W.heap.size W W' → Kd.C k24 W' A' y.f5.length y.f5 → y.f5.length ≤ c' → Calls Tryd.prog 55 #[.agg #[.int .i64 y.f0, .string y.f1, .int .i64 y.f2, .string y.f3, .string y.f4, .slice A' y.f5.length c']] W' fun e w' => e = .returned (.bool (p y)) ∧ Below W'.heap.size W' w') (hr : Kd.C k24 W A n L) (hc : n ≤ c) :
    Calls Tryd.prog 62 #[.slice A n c, (.func (.func 55) #[] #[])] W fun e w' => e = .returned (.int .i64 (idxB p L 0)) ∧ Below W.heap.size W w' := by
  have hlm : n ≤ 9223372036854775807 := hr.2.1
  have hn := hr.1
  subst hn
  rcases A with _ | ad
  · obtain ⟨_, rfl⟩ := C_none' hr
    have HB := Aside0.mk (Below.refl W.heap.size W)
    clear hr hlm HCL
    go_enter Tryd.func62, Tryd.ntmps62
    go_wp2
    go_loopw [8] (fun v8 wr => v8 = .int .i64 0 ∧ Aside0 (Below W.heap.size W wr)) (fun _ _ => 0)
    case atStart => exact ⟨rfl, ⟨(by repeat (first | (with_reducible first | exact HB.out | apply below_alloc | apply pw_below_drewN | apply below_drew1) | exact HB.out))⟩⟩
    case round =>
      clear HB
      obtain ⟨rfl, HB⟩ := hrel
      go_wp2
      all_goals (try (exfalso; omega))
      all_goals go_ret
      all_goals exact ⟨rfl, HB.out⟩
  have HB := Aside0.mk (Below.refl W.heap.size W)
  have HR := Aside0.mk hr
  have HCL1 := Aside0.mk HCL
  clear hr HCL
  go_enter Tryd.func62, Tryd.ntmps62
  go_wp2
  go_loopw [8] (fun v8 wr => ∃ k : Nat, v8 = .int .i64 (k : Int) ∧ k ≤ L.length ∧ (L.take k).any p = false ∧ Aside0 (Below W.heap.size W wr)) (fun v _ => L.length - (intOf v).toNat)
  case atStart => exact ⟨0, rfl, by omega, rfl, ⟨(by repeat (first | (with_reducible first | exact HB.out | apply below_alloc | apply pw_below_drewN | apply below_drew1) | exact HB.out))⟩⟩
  case round =>
    clear HB
    obtain ⟨k, rfl, hk, hno, HB⟩ := hrel
    by_cases hlt : k < L.length
    · obtain ⟨x, hx⟩ : ∃ x, L[k]? = some x := ⟨L[k], List.getElem?_eq_getElem hlt⟩
      obtain ⟨A1, c1, d0, d1, d2, d3, d4, d5, hc1, hK⟩ := ex_at (Kd.C_below HR.out HB.out) k x hx
      have HK := Aside0.mk hK
      have HMEM := Aside0.mk (List.mem_of_getElem? hx)
      clear hK
      have HCL1A := HCL1.out x HMEM.out wr A1 c1 HB.out HK.out hc1
      cases hp : p x with
      | true =>
        have HAN := Aside0.mk (idxB_at p L k 0 x hx hp hno)
        rw [hp] at HCL1A
        clear hno hx
        go_wp2_with (first | (go_at_call 55; (with_reducible refine HCL1A.mono ?_); rintro e w2 ⟨rfl, hb⟩; have n0_ := Aside0.mk (below_step HB.out hb); clear HB; have HB := n0_; clear n0_ hb))
        all_goals (try (exfalso; omega))
        all_goals go_ret
        all_goals exact ⟨by rw [HAN.out]; simp, HB.out⟩
      | false =>
        have HNO := Aside0.mk (any_take_succ p L k x hx hno hp)
        rw [hp] at HCL1A
        clear hno hx
        go_wp2_with (first | (go_at_call 55; (with_reducible refine HCL1A.mono ?_); rintro e w2 ⟨rfl, hb⟩; have n0_ := Aside0.mk (below_step HB.out hb); clear HB; have HB := n0_; clear n0_ hb))
        all_goals (try (exfalso; omega))
        all_goals go_roundw
        all_goals (try (case rel => exact ⟨k + 1, by go_num, by omega, HNO.out, HB⟩))
        all_goals (try (case measure => (simp [intOf] <;> omega)))
    · obtain rfl : k = L.length := by omega
      rw [List.take_length] at hno
      have HNO := Aside0.mk (idxB_none p L 0 hno)
      clear hno
      go_wp2
      all_goals (try (exfalso; omega))
      all_goals go_ret
      all_goals exact ⟨by rw [HNO.out]; rfl, HB.out⟩
set_option maxHeartbeats 1000000 in
set_option maxRecDepth 100000 in
theorem rcf_c {W : World} {A : Option Addr} {n c : Nat} {L : List S24} (p : S24 → Bool) (HCL : ∀ y ∈ L, ∀ (W' : World) (A' : Option Addr) (c' : Nat), Below W.heap.size W W' → Kd.C k24 W' A' y.f5.length y.f5 → y.f5.length ≤ c' → Calls Tryd.prog 55 #[.agg #[.int .i64 y.f0, .string y.f1, .int .i64 y.f2, .string y.f3, .string y.f4, .slice A' y.f5.length c']] W' fun e w' => e = .returned (.bool (p y)) ∧ Below W'.heap.size W' w') (hr : Kd.C k24 W A n L) (hc : n ≤ c) :
    Calls Tryd.prog 54 #[.slice A n c, (.func (.func 55) #[] #[])] W fun e w' => e = .returned (.bool (L.any p)) ∧ Below W.heap.size W w' := by
  have HB := Aside0.mk (Below.refl W.heap.size W)
  have HL := Aside0.mk (Below.refl W.heap.size W)
  have HX := Aside0.mk (idxB_any p L 0)
  have HC := Aside0.mk (rix_c p HCL hr hc)
  clear HCL hr
  go_enter Tryd.func54, Tryd.ntmps54
  go_wp2_with (first | (go_at_call 62; (with_reducible refine HC.out.mono ?_); rintro e w1 ⟨rfl, hb⟩; have n0_ := Aside0.mk hb; clear HB; have HB := n0_; clear n0_ hb))
  all_goals go_ret
  all_goals exact ⟨by rw [← HX.out]; rfl, (by repeat (first | (with_reducible first | exact HB.out | apply below_alloc | apply pw_below_drewN | apply below_drew1) | exact HB.out))⟩
end Go.Proofs.YtimmomhgljofnaaDoor.Hand
