/- 'jettison/jettisonlaw17.BucketTells' returns true for every input: each argument reads afterwards as it read before. No condition. -/
import Derived.Test.YtdfphcealdgldaaRows
import Derived.Test.YtdfphcealdgldaaB9
import Derived.WalkKit
import Derived.ProofKit
import Derived.OpenShut
import Derived.ShutString
import Derived.ChangeOld
import Derived.Below
import Derived.SizedLaws
import Derived.Test.YtdfphcealdgldaaWSized
namespace Go.Proofs.Ytdfphcealdgldaa.bucketTells
open Go.ChangeShapes Go.WideShapes Go.ChangeAt Go.RowKit
open Go.ChangeMaps (open_string shut_string)
set_option linter.unusedVariables false
theorem own : ownKnob Try.prog.godebug = none := by kernel_rfl
theorem laidOut : laidOutB Try.prog = true := by kernel_rfl
theorem list2 {α : Type} {l : List α} (h : l.length = 2) : ∃ y0 y1, l = [y0, y1] := by
  match l, h with
  | [y0, y1], _ => exact ⟨_, _, rfl⟩
theorem list4 {α : Type} {l : List α} (h : l.length = 4) : ∃ y0 y1 y2 y3, l = [y0, y1, y2, y3] := by
  match l, h with
  | [y0, y1, y2, y3], _ => exact ⟨_, _, _, _, rfl⟩
theorem list5 {α : Type} {l : List α} (h : l.length = 5) : ∃ y0 y1 y2 y3 y4, l = [y0, y1, y2, y3, y4] := by
  match l, h with
  | [y0, y1, y2, y3, y4], _ => exact ⟨_, _, _, _, _, rfl⟩
theorem openT25 {H : Type} {enc : TypeId × Value → H} {W : World} {base : Nat} {spare : Nat → Bool} {held : Bool} {r : Reach} {b0 : Nat} {v : Value} {d : DataW H} {p : List MemPlace} (hv : Value.okWide Try.prog W r b0 25 v) (h : DataW.Trod enc Try.prog W base spare held 25 v d p) :
    ∃ (a0 : Int) (a1 : Int) (a2 : Int) (a3 : Int) (a4 : Bool), v = .agg #[.int .i64 a0, .int .i64 a1, .int .i64 a2, .int .i64 a3, .bool a4] ∧ (Lit.int .i64 a0).wf = true ∧ (Lit.int .i64 a1).wf = true ∧ (Lit.int .i64 a2).wf = true ∧ (Lit.int .i64 a3).wf = true := by
  obtain ⟨⟨l⟩, rfl, hsz⟩ := okWide_struct Try.underlying25 hv
  obtain ⟨c0, c1, c2, c3, c4, rfl⟩ : ∃ c0 c1 c2 c3 c4, l = [c0, c1, c2, c3, c4] := list5 (hsz.trans (by kernel_rfl))
  obtain ⟨fuel, hf⟩ := h
  have hf' : DataW.trod enc Try.prog W base spare held fuel 25 [c0, c1, c2, c3, c4] = some (d, p) := hf
  obtain ⟨x, n, _, _, _, l, g⟩ := DataW.trod_struct Try.underlying25 hf'
  obtain ⟨y_0, y_1, rfl⟩ : ∃ y_0 y_1, x = [y_0, y_1] := list2 l
  have h_0 : DataW.trod enc Try.prog W base spare held n 23 [c0, c1, c2, c3] = some y_0 := by
    have cc : Try.prog.cellsOf 23 = 4 := by kernel_rfl
    simpa [cc] using g 0 _ rfl
  obtain ⟨x_0, n_0, _, _, _, l_0, g_0⟩ := DataW.trod_struct Try.underlying23 h_0
  obtain ⟨y_0_0, y_0_1, y_0_2, y_0_3, rfl⟩ : ∃ y_0_0 y_0_1 y_0_2 y_0_3, x_0 = [y_0_0, y_0_1, y_0_2, y_0_3] := list4 l_0
  have h_0_0 : DataW.trod enc Try.prog W base spare held n_0 3 [c0] = some y_0_0 := by
    have cc : Try.prog.cellsOf 3 = 1 := by kernel_rfl
    simpa [cc] using g_0 0 _ rfl
  obtain ⟨a0, e0, _, w0⟩ := DataW.trod_int Try.underlying3 h_0_0
  have h_0_1 : DataW.trod enc Try.prog W base spare held n_0 3 [c1] = some y_0_1 := by
    have cc : Try.prog.cellsOf 3 = 1 := by kernel_rfl
    simpa [cc] using g_0 1 _ rfl
  obtain ⟨a1, e1, _, w1⟩ := DataW.trod_int Try.underlying3 h_0_1
  have h_0_2 : DataW.trod enc Try.prog W base spare held n_0 2 [c2] = some y_0_2 := by
    have cc : Try.prog.cellsOf 2 = 1 := by kernel_rfl
    simpa [cc] using g_0 2 _ rfl
  obtain ⟨a2, e2, _, w2⟩ := DataW.trod_int Try.underlying2 h_0_2
  have h_0_3 : DataW.trod enc Try.prog W base spare held n_0 2 [c3] = some y_0_3 := by
    have cc : Try.prog.cellsOf 2 = 1 := by kernel_rfl
    simpa [cc] using g_0 3 _ rfl
  obtain ⟨a3, e3, _, w3⟩ := DataW.trod_int Try.underlying2 h_0_3
  have h_1 : DataW.trod enc Try.prog W base spare held n 4 [c4] = some y_1 := by
    have cc : Try.prog.cellsOf 4 = 1 := by kernel_rfl
    simpa [cc] using g 1 _ rfl
  obtain ⟨a4, e4, _⟩ := DataW.trod_bool Try.underlying4 h_1
  obtain rfl := List.head_eq_of_cons_eq e0
  obtain rfl := List.head_eq_of_cons_eq e1
  obtain rfl := List.head_eq_of_cons_eq e2
  obtain rfl := List.head_eq_of_cons_eq e3
  obtain rfl := List.head_eq_of_cons_eq e4
  exact ⟨a0, a1, a2, a3, a4, rfl, w0, w1, w2, w3⟩
set_option maxRecDepth 100000 in
theorem lifted (os : Os) (started : os.Started) (H : Type) (enc : TypeId × Value → H) :
    ReturnsInHanded {} Try.checked os 3 .any (Rows.bucketTellsSpec.pre6 enc Try.prog Try.f3 Rows.bucketTellsRow.domain false) (Rows.bucketTellsSpec.post enc Try.prog Try.f3 false true false false) := by
  refine returnsInHanded_of_change_sized (C := Try.checked) own started (by kernel_rfl) Try.func3
    (ChangeSpec.witness6 (enc := enc) (C := Try.checked) false ⟨#[], #[.agg #[.int .i64 0, .int .i64 0, .int .i64 0, .int .i64 0, .bool false], .int .i64 0, .bool false, .int .i64 0, .int .i64 0], []⟩ 8 (by kernel_rfl) (by kernel_rfl) (by kernel_rfl) (by kernel_rfl)) ?_
  intro W base args ds gs before hval0 hW hcnd hsz0 _
  have hsz : (DataW.weightsEach Try.prog (Try.f3.params.toList ++ Rows.bucketTellsSpec.plain.varTypes Try.prog) (ds ++ gs)).all (· ≤ reachBytes) = true := hsz0
  have hval : ∀ (j : Nat) t v, Try.f3.params[j]? = some t → args[j]? = some v → Value.okWide Try.prog W .any base t v := hval0
  have hW' := hW
  obtain ⟨p, q, hA0, hV, rfl, hfz, hnd⟩ := hW
  have hA : DataW.TrodAll enc Try.prog W 0 (fun _ => true) true Try.f3.params.toList args.toList ds p := hA0
  rw [Try.params3] at hA hval hsz
  obtain ⟨v0, vs0, d0, ds0, p0, q0, hargs, rfl, rfl, h0, r0⟩ := trodAll_cons hA
  obtain ⟨v1, vs1, d1, ds1, p1, q1, rfl, rfl, rfl, h1, r1⟩ := trodAll_cons r0
  obtain ⟨v2, vs2, d2, ds2, p2, q2, rfl, rfl, rfl, h2, r2⟩ := trodAll_cons r1
  obtain ⟨v3, vs3, d3, ds3, p3, q3, rfl, rfl, rfl, h3, r3⟩ := trodAll_cons r2
  obtain ⟨v4, vs4, d4, ds4, p4, q4, rfl, rfl, rfl, h4, r4⟩ := trodAll_cons r3
  obtain ⟨rfl, rfl, rfl⟩ := trodAll_nil r4
  obtain rfl : args = #[v0, v1, v2, v3, v4] := by cases args; simp_all
  obtain ⟨rfl, rfl⟩ := trodVars_none hV
  have k0 := h0
  have lt0 : ∀ x ∈ p0, x.block < W.heap.size := by obtain ⟨m, hm⟩ := k0; exact DataW.trod_lt m _ _ _ hm
  obtain ⟨a0_0, a0_1, a0_2, a0_3, a0_4, rfl, w0_0, w0_1, w0_2, w0_3⟩ := openT25 (hval 0 25 v0 rfl rfl) h0
  obtain ⟨a1, rfl, rfl, rfl, w1⟩ := open_int Try.underlying2 (hval 1 2 v1 rfl rfl) h1
  obtain ⟨a2, rfl, rfl, rfl⟩ := open_bool Try.underlying4 (hval 2 4 v2 rfl rfl) h2
  obtain ⟨a3, rfl, rfl, rfl, w3⟩ := open_int Try.underlying3 (hval 3 3 v3 rfl rfl) h3
  obtain ⟨a4, rfl, rfl, rfl, w4⟩ := open_int Try.underlying2 (hval 4 2 v4 rfl rfl) h4
  clear hA0 hval0 hsz0 hsz
  refine (Hand.BucketTells_walk a0_0 a0_1 a0_2 a0_3 a0_4 a1 a2 a3 a4 W w0_0 w0_1 w0_2 w0_3 w1 w3 w4).mono fun e W' ⟨he, bel⟩ => ?_
  subst he
  exact ⟨_, rfl, _, _, _, [], _, [], hW', trodAll_mk1 (shut_bool Try.underlying4 _), (trodAll_cons_mk (Below.trod laidOut (by kernel_rfl) (of_decide_eq_true (by kernel_rfl)) k0 bel lt0) (trodAll_cons_mk (shut_int Try.underlying2 w1) (trodAll_cons_mk (shut_bool Try.underlying4 _) (trodAll_cons_mk (shut_int Try.underlying3 w3) (trodAll_cons_mk (shut_int Try.underlying2 w4) trodAll_mk0))))), rfl, bel.frame _, fun h => by cases h⟩
theorem over : Rows.bucketTellsRow.holds Try.pinned (OpenSpec.ofChange Rows.bucketTellsSpec) :=
  OpenClaim.holds_of_wide 3 Try.f3 rfl rfl rfl rfl rfl rfl rfl ⟨rfl, rfl, rfl, rfl, rfl⟩ rfl rfl rfl rfl rfl (by kernel_rfl) Try.func3 (by kernel_rfl)
    (of_decide_eq_true (by kernel_rfl)) (by unfold Func.isWrapper; first | (rw [if_pos (by decide +kernel)]; kernel_rfl) | (rw [if_neg (by decide +kernel)]; exact ⟨rfl, rfl⟩))
    (fun os started H enc _ => lifted os started H enc)
theorem proved : Rows.BucketTellsSaid := over
#print axioms proved
end Go.Proofs.Ytdfphcealdgldaa.bucketTells
namespace Go.Proofs.Ytdfphcealdgldaa
/-- The row, under a short name, for the claim. -/
theorem bucketTells_holds : Rows.BucketTellsSaid := bucketTells.proved
end Go.Proofs.Ytdfphcealdgldaa

