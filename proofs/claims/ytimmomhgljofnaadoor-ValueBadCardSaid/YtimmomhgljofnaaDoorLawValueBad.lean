/- 'jettison/jettisonlaw08.ValueBad' returns true for every input: each argument reads afterwards as it read before. No condition. -/
import Derived.Test.YtimmomhgljofnaaDoorRows
import Derived.Test.YtimmomhgljofnaaDoorY9
import Derived.Test.YtimmomhgljofnaaDoorO0
import Derived.Test.YtimmomhgljofnaaDoorTie
import Derived.Test.YtimmomhgljofnaaDoorCards
import Derived.PinnedBridge
import Derived.Lib.LaidIn
import Derived.Lib.LaidU8T
import Derived.WalkKit
import Derived.LaidMore
import Derived.Lay
import Derived.SevenTiedAt
import Derived.Stop.Joined
import Derived.ProofKit
import Derived.OpenShut
import Derived.ShutString
import Derived.ChangeOld
import Derived.Below
import Derived.SizedLaws
namespace Go.Proofs.YtimmomhgljofnaaDoor.valueBad
open Go.ChangeShapes Go.WideShapes Go.ChangeAt Go.RowKit
open Go.ChangeMaps (open_string shut_string)
open Go.Proofs.YtimmomhgljofnaaDoorW.PrintWords Go.Proofs.YtimmomhgljofnaaDoor.PValueBad
set_option linter.unusedVariables false
theorem own : ownKnob Tryd.prog.godebug = none := by kernel_rfl
theorem laidOut : laidOutB Tryd.prog = true := by kernel_rfl
set_option maxRecDepth 100000 in
theorem lifted (os : Os) (started : os.Started) (H : Type) (enc : TypeId × Value → H) :
    ReturnsInHanded {} Tryd.checked os 6 .any (fun w args => (Rows.valueBadSpec.pre enc Tryd.prog Tryd.f6 Rows.valueBadRow.domain false w args ∧ laidMetH Tryd.prog Rows.valueBadRow.laid w) ∧ sizedMet enc Tryd.prog Tryd.f6 (OpenSpec.ofChange Rows.valueBadSpec) false w args)
      (Rows.valueBadSpec.post enc Tryd.prog Tryd.f6 false true false false) := by
  refine returnsInHanded_of_change_and (C := Tryd.checked) (X := fun w _ => laidMetH Tryd.prog Rows.valueBadRow.laid w) (fun _ _ _ hh h => h.of_heap hh) own started (by kernel_rfl) Tryd.func6
    (ChangeSpec.witness_shaped (enc := enc) (C := Tryd.checked) (os := os) (X := fun w _ => laidMetH Tryd.prog Rows.valueBadRow.laid w) false (World.laidAll Tryd.prog os Rows.valueBadRow.laid) #[.slice none 0 0, .slice none 0 0, .slice none 0 0, .int .u8 0] 8 (World.laidAll_os _ _ _)
      (World.shaped_of_ZipB (by kernel_rfl) (by kernel_rfl)) (by kernel_rfl) (by kernel_rfl) (by kernel_rfl)
      (by rw [MakeChecks.laidMetH_plain _ _ _ (by kernel_rfl)]; exact laidMet_laidAll _ (by kernel_rfl) (by kernel_rfl))) ?_
  intro W base args ds gs before hval0 hW hcnd hsz0 hLaid _
  have hsz : (DataW.weightsEach Tryd.prog (Tryd.f6.params.toList ++ Rows.valueBadSpec.plain.varTypes Tryd.prog) (ds ++ gs)).all (· ≤ reachBytes) = true := hsz0
  have hval : ∀ (j : Nat) t v, Tryd.f6.params[j]? = some t → args[j]? = some v → Value.okWide Tryd.prog W .any base t v := hval0
  have hW' := hW
  obtain ⟨p, q, hA0, hV, rfl, hfz, hnd⟩ := hW
  have hA : DataW.TrodAll enc Tryd.prog W 0 (fun _ => true) true Tryd.f6.params.toList args.toList ds p := hA0
  rw [Tryd.params6] at hA hval hsz
  obtain ⟨v0, vs0, d0, ds0, p0, q0, hargs, rfl, rfl, h0, r0⟩ := trodAll_cons hA
  obtain ⟨v1, vs1, d1, ds1, p1, q1, rfl, rfl, rfl, h1, r1⟩ := trodAll_cons r0
  obtain ⟨v2, vs2, d2, ds2, p2, q2, rfl, rfl, rfl, h2, r2⟩ := trodAll_cons r1
  obtain ⟨v3, vs3, d3, ds3, p3, q3, rfl, rfl, rfl, h3, r3⟩ := trodAll_cons r2
  obtain ⟨rfl, rfl, rfl⟩ := trodAll_nil r3
  obtain rfl : args = #[v0, v1, v2, v3] := by cases args; simp_all
  obtain ⟨rfl, rfl⟩ := trodVars_none hV
  have k0 := h0
  have lt0 : ∀ x ∈ p0, x.block < W.heap.size := by obtain ⟨m, hm⟩ := k0; exact DataW.trod_lt m _ _ _ hm
  obtain ⟨a0, len0, cap0, rfl⟩ := okWide_slice Tryd.underlying25 (hval 0 25 v0 rfl rfl)
  obtain ⟨y0, gy0, ky0⟩ := Hand.Opens.arg (Hand.opens_slice (B := Tryd.prog.bytesOf 5) (d := (Kd.int .u8)) Tryd.underlying25 rfl (by kernel_rfl) (Hand.opens_int .u8 Tryd.underlying5)) hsz (j := 0) rfl rfl h0
  obtain ⟨A0, c0, ev0, hl0, hk0⟩ := Hand.slice_arg ky0
  injection ev0 with ea0 eb0 ec0
  subst ea0 eb0 ec0
  have k1 := h1
  have lt1 : ∀ x ∈ p1, x.block < W.heap.size := by obtain ⟨m, hm⟩ := k1; exact DataW.trod_lt m _ _ _ hm
  obtain ⟨a1, len1, cap1, rfl⟩ := okWide_slice Tryd.underlying25 (hval 1 25 v1 rfl rfl)
  obtain ⟨y1, gy1, ky1⟩ := Hand.Opens.arg (Hand.opens_slice (B := Tryd.prog.bytesOf 5) (d := (Kd.int .u8)) Tryd.underlying25 rfl (by kernel_rfl) (Hand.opens_int .u8 Tryd.underlying5)) hsz (j := 1) rfl rfl h1
  obtain ⟨A1, c1, ev1, hl1, hk1⟩ := Hand.slice_arg ky1
  injection ev1 with ea1 eb1 ec1
  subst ea1 eb1 ec1
  have k2 := h2
  have lt2 : ∀ x ∈ p2, x.block < W.heap.size := by obtain ⟨m, hm⟩ := k2; exact DataW.trod_lt m _ _ _ hm
  obtain ⟨a2, len2, cap2, rfl⟩ := okWide_slice Tryd.underlying26 (hval 2 26 v2 rfl rfl)
  obtain ⟨y2, gy2, ky2⟩ := Hand.Opens.arg (Hand.opens_slice (B := Tryd.prog.bytesOf 2) (d := (Kd.int .i64)) Tryd.underlying26 rfl (by kernel_rfl) (Hand.opens_int .i64 Tryd.underlying2)) hsz (j := 2) rfl rfl h2
  obtain ⟨A2, c2, ev2, hl2, hk2⟩ := Hand.slice_arg ky2
  injection ev2 with ea2 eb2 ec2
  subst ea2 eb2 ec2
  obtain ⟨a3, rfl, rfl, rfl, w3⟩ := open_int Tryd.underlying5 (hval 3 5 v3 rfl rfl) h3
  clear hA0 hval0 hsz0 hsz
  have htab : Hand.Tabs W := by
    have hL := hLaid
    rw [MakeChecks.laidMetH_plain _ _ _ (by kernel_rfl)] at hL
    have e1 : (Rows.laid_unicode_utf8_acceptRanges : DataW Unit) = Lib.acceptData := by kernel_rfl
    have r1 : Lib.VarReads Tryd.prog W "unicode/utf8.first" Go.Pinned.utf8First := Lib.laidMet.reads hL (.tail _ (.head _))
    have r2 : Lib.VarReads Tryd.prog W "unicode/utf8.acceptRanges" (Rows.laid_unicode_utf8_acceptRanges : DataW Unit) := Lib.laidMet.reads hL (.head _)
    rw [Pinned.utf8First_eq] at r1
    rw [e1] at r2
    exact utf8Tabs_of_readsT (U8Types.of196 Tryd.laysValid) ⟨by kernel_rfl, by kernel_rfl, by kernel_rfl, by kernel_rfl, by kernel_rfl, by kernel_rfl, by kernel_rfl⟩ r1 r2
  refine (Hand.ValueBad_walk y0 a0 cap0 y1 a1 cap1 y2 a2 cap2 a3 W hl0 hk0 gy0 hl1 hk1 gy1 hl2 hk2 gy2 w3 htab).mono fun e W' ⟨he, bel⟩ => ?_
  subst he
  exact ⟨_, rfl, _, _, _, [], _, [], hW', trodAll_mk1 (shut_bool Tryd.underlying4 _), (trodAll_cons_mk (Below.trod laidOut (by kernel_rfl) (of_decide_eq_true (by kernel_rfl)) k0 bel lt0) (trodAll_cons_mk (Below.trod laidOut (by kernel_rfl) (of_decide_eq_true (by kernel_rfl)) k1 bel lt1) (trodAll_cons_mk (Below.trod laidOut (by kernel_rfl) (of_decide_eq_true (by kernel_rfl)) k2 bel lt2) (trodAll_cons_mk (shut_int Tryd.underlying5 w3) trodAll_mk0)))), rfl, bel.frame _, fun h => by cases h⟩
theorem over : Rows.valueBadRow.holds Tryd.pinned (OpenSpec.ofChange Rows.valueBadSpec) :=
  OpenClaim.holds_of_wide 6 Tryd.f6 rfl rfl rfl rfl rfl rfl rfl ⟨rfl, rfl, rfl, rfl, rfl⟩ rfl rfl rfl rfl rfl (by kernel_rfl) Tryd.func6 (by kernel_rfl)
    (of_decide_eq_true (by kernel_rfl)) (by unfold Func.isWrapper; first | (rw [if_pos (by decide +kernel)]; kernel_rfl) | (rw [if_neg (by decide +kernel)]; exact ⟨rfl, rfl⟩))
    (fun os started H enc _ => lifted os started H enc)
theorem proved : Rows.ValueBadSaid := over
theorem card : Rows.ValueBadCardSaid :=
  Claim7.holds_tied_plain_at .later [] [.data, .pinned] true (true, "4392a59108e2d4f3cd07ec32d1b40c2dd28a3448763f7cae226d243f5a39d69f") true proved (fun _ h => by cases h) (by kernel_rfl) (fun _ h => by cases h) valueBad_row_tie rfl ⟨rfl, rfl⟩ (by kernel_rfl) rfl
    (fun f fn hf hfn => by
      obtain rfl : f = 6 := Option.some.inj ((show Tryd.prog.funcNamed "jettison/jettisonlaw08.ValueBad" = some 6 by kernel_rfl).symm.trans hf) |>.symm
      obtain rfl : fn = Tryd.f6 := (Option.some.inj (Tryd.func6.symm.trans hfn)).symm
      exact ⟨by kernel_rfl, fun j t ht => by
        rw [Tryd.params6] at ht
        have hm : t ∈ [25, 25, 26, 5] := by simpa using Array.mem_of_getElem? ht
        have hall : ([25, 25, 26, 5].all fun u => !Tryd.prog.wantsStandIn u) = true := by kernel_rfl
        exact (show Tryd.prog.wantsStandIn t = false by simpa using List.all_eq_true.1 hall t hm)⟩)
    (by kernel_rfl)
#print axioms card
end Go.Proofs.YtimmomhgljofnaaDoor.valueBad
namespace Go.Proofs.YtimmomhgljofnaaDoor
/-- The row, under a short name, for the claim. -/
theorem valueBad_holds : Rows.ValueBadCardSaid := valueBad.card
end Go.Proofs.YtimmomhgljofnaaDoor

