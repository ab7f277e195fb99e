/- 'jettison/jettisonlaw19.SpansKeep' returns true for every input: each argument reads afterwards as it read before. No condition. -/
import Derived.Test.YtoidaakmmnlhgaaRows
import Derived.Test.YtoidaakmmnlhgaaL3
import Derived.Test.YtoidaakmmnlhgaaO0
import Derived.WalkKit
import Derived.ProofKit
import Derived.OpenShut
import Derived.ShutString
import Derived.ChangeOld
import Derived.Below
import Derived.SizedLaws
import Derived.Test.YtoidaakmmnlhgaaO0
namespace Go.Proofs.Ytoidaakmmnlhgaa.spansKeep
open Go.ChangeShapes Go.WideShapes Go.ChangeAt Go.RowKit
open Go.ChangeMaps (open_string shut_string)
open Go.Proofs.YtoidaakmmnlhgaaW.PrintWords Go.Proofs.Ytoidaakmmnlhgaa.PSpansTells
set_option linter.unusedVariables false
theorem own : ownKnob Try.prog.godebug = none := by kernel_rfl
theorem laidOut : laidOutB Try.prog = true := by kernel_rfl
set_option maxRecDepth 100000 in
theorem lifted (os : Os) (started : os.Started) (H : Type) (enc : TypeId × Value → H) :
    ReturnsInHanded {} Try.checked os 4 .any (Rows.spansKeepSpec.pre6 enc Try.prog Try.f4 Rows.spansKeepRow.domain false) (Rows.spansKeepSpec.post enc Try.prog Try.f4 false true false false) := by
  refine returnsInHanded_of_change_sized (C := Try.checked) own started (by kernel_rfl) Try.func4
    (ChangeSpec.witness6 (enc := enc) (C := Try.checked) false ⟨#[], #[.slice none 0 0, .slice none 0 0], []⟩ 8 (by kernel_rfl) (by kernel_rfl) (by kernel_rfl) (by kernel_rfl)) ?_
  intro W base args ds gs before hval0 hW hcnd hsz0 _
  have hsz : (DataW.weightsEach Try.prog (Try.f4.params.toList ++ Rows.spansKeepSpec.plain.varTypes Try.prog) (ds ++ gs)).all (· ≤ reachBytes) = true := hsz0
  have hval : ∀ (j : Nat) t v, Try.f4.params[j]? = some t → args[j]? = some v → Value.okWide Try.prog W .any base t v := hval0
  have hW' := hW
  obtain ⟨p, q, hA0, hV, rfl, hfz, hnd⟩ := hW
  have hA : DataW.TrodAll enc Try.prog W 0 (fun _ => true) true Try.f4.params.toList args.toList ds p := hA0
  rw [Try.params4] at hA hval hsz
  obtain ⟨v0, vs0, d0, ds0, p0, q0, hargs, rfl, rfl, h0, r0⟩ := trodAll_cons hA
  obtain ⟨v1, vs1, d1, ds1, p1, q1, rfl, rfl, rfl, h1, r1⟩ := trodAll_cons r0
  obtain ⟨rfl, rfl, rfl⟩ := trodAll_nil r1
  obtain rfl : args = #[v0, v1] := by cases args; simp_all
  obtain ⟨rfl, rfl⟩ := trodVars_none hV
  have k0 := h0
  have lt0 : ∀ x ∈ p0, x.block < W.heap.size := by obtain ⟨m, hm⟩ := k0; exact DataW.trod_lt m _ _ _ hm
  obtain ⟨a0, len0, cap0, rfl⟩ := okWide_slice Try.underlying25 (hval 0 25 v0 rfl rfl)
  obtain ⟨y0, gy0, ky0⟩ := Hand.Opens.arg (Hand.opens_slice (B := Try.prog.bytesOf 2) (d := (Kd.int .i64)) Try.underlying25 rfl (by kernel_rfl) (Hand.opens_int .i64 Try.underlying2)) hsz (j := 0) rfl rfl h0
  obtain ⟨A0, c0, ev0, hl0, hk0⟩ := Hand.slice_arg ky0
  injection ev0 with ea0 eb0 ec0
  subst ea0 eb0 ec0
  have k1 := h1
  have lt1 : ∀ x ∈ p1, x.block < W.heap.size := by obtain ⟨m, hm⟩ := k1; exact DataW.trod_lt m _ _ _ hm
  obtain ⟨a1, len1, cap1, rfl⟩ := okWide_slice Try.underlying26 (hval 1 26 v1 rfl rfl)
  obtain ⟨y1, gy1, ky1⟩ := Hand.Opens.arg (Hand.opens_slice (B := Try.prog.bytesOf 5) (d := (Kd.int .u8)) Try.underlying26 rfl (by kernel_rfl) (Hand.opens_int .u8 Try.underlying5)) hsz (j := 1) rfl rfl h1
  obtain ⟨A1, c1, ev1, hl1, hk1⟩ := Hand.slice_arg ky1
  injection ev1 with ea1 eb1 ec1
  subst ea1 eb1 ec1
  clear hA0 hval0 hsz0 hsz
  refine (Hand.SpansKeep_walk y0 a0 cap0 y1 a1 cap1 W hl0 hk0 gy0 hl1 hk1 gy1).mono fun e W' ⟨he, bel⟩ => ?_
  subst he
  exact ⟨_, rfl, _, _, _, [], _, [], hW', trodAll_mk1 (shut_bool Try.underlying4 _), (trodAll_cons_mk (Below.trod laidOut (by kernel_rfl) (of_decide_eq_true (by kernel_rfl)) k0 bel lt0) (trodAll_cons_mk (Below.trod laidOut (by kernel_rfl) (of_decide_eq_true (by kernel_rfl)) k1 bel lt1) trodAll_mk0)), rfl, bel.frame _, fun h => by cases h⟩
theorem over : Rows.spansKeepRow.holds Try.pinned (OpenSpec.ofChange Rows.spansKeepSpec) :=
  OpenClaim.holds_of_wide 4 Try.f4 rfl rfl rfl rfl rfl rfl rfl ⟨rfl, rfl, rfl, rfl, rfl⟩ rfl rfl rfl rfl rfl (by kernel_rfl) Try.func4 (by kernel_rfl)
    (of_decide_eq_true (by kernel_rfl)) (by unfold Func.isWrapper; first | (rw [if_pos (by decide +kernel)]; kernel_rfl) | (rw [if_neg (by decide +kernel)]; exact ⟨rfl, rfl⟩))
    (fun os started H enc _ => lifted os started H enc)
theorem proved : Rows.SpansKeepSaid := over
#print axioms proved
end Go.Proofs.Ytoidaakmmnlhgaa.spansKeep
namespace Go.Proofs.Ytoidaakmmnlhgaa
/-- The row, under a short name, for the claim. -/
theorem spansKeep_holds : Rows.SpansKeepSaid := spansKeep.proved
end Go.Proofs.Ytoidaakmmnlhgaa

