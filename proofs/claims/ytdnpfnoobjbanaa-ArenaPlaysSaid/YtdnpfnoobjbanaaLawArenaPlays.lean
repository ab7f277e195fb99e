/- 'jettison/jettisonlaw03.ArenaPlays' returns true for every input: each argument reads afterwards as it read before. No condition. -/
import Derived.Test.YtdnpfnoobjbanaaRows
import Derived.Test.YtdnpfnoobjbanaaIA
import Derived.Test.YtdnpfnoobjbanaaO0
import Derived.WalkKit
import Derived.ProofKit
import Derived.OpenShut
import Derived.ShutString
import Derived.ChangeOld
import Derived.Below
import Derived.SizedLaws
import Derived.Test.YtdnpfnoobjbanaaO0
namespace Go.Proofs.Ytdnpfnoobjbanaa.arenaPlays
open Go.ChangeShapes Go.WideShapes Go.ChangeAt Go.RowKit
open Go.ChangeMaps (open_string shut_string)
open Go.Proofs.YtdnpfnoobjbanaaW.PrintWords Go.Proofs.Ytdnpfnoobjbanaa.PArenaPlays
set_option linter.unusedVariables false
theorem own : ownKnob Try.prog.godebug = none := by kernel_rfl
theorem laidOut : laidOutB Try.prog = true := by kernel_rfl
set_option maxRecDepth 100000 in
theorem lifted (os : Os) (started : os.Started) (H : Type) (enc : TypeId × Value → H) :
    ReturnsInHanded {} Try.checked os 7 .any (Rows.arenaPlaysSpec.pre6 enc Try.prog Try.f7 Rows.arenaPlaysRow.domain false) (Rows.arenaPlaysSpec.post enc Try.prog Try.f7 false true false false) := by
  refine returnsInHanded_of_change_sized (C := Try.checked) own started (by kernel_rfl) Try.func7
    (ChangeSpec.witness6 (enc := enc) (C := Try.checked) false ⟨#[], #[.int .i64 0, .bool false, .slice none 0 0], []⟩ 8 (by kernel_rfl) (by kernel_rfl) (by kernel_rfl) (by kernel_rfl)) ?_
  intro W base args ds gs before hval0 hW hcnd hsz0 _
  have hsz : (DataW.weightsEach Try.prog (Try.f7.params.toList ++ Rows.arenaPlaysSpec.plain.varTypes Try.prog) (ds ++ gs)).all (· ≤ reachBytes) = true := hsz0
  have hval : ∀ (j : Nat) t v, Try.f7.params[j]? = some t → args[j]? = some v → Value.okWide Try.prog W .any base t v := hval0
  have hW' := hW
  obtain ⟨p, q, hA0, hV, rfl, hfz, hnd⟩ := hW
  have hA : DataW.TrodAll enc Try.prog W 0 (fun _ => true) true Try.f7.params.toList args.toList ds p := hA0
  rw [Try.params7] at hA hval hsz
  obtain ⟨v0, vs0, d0, ds0, p0, q0, hargs, rfl, rfl, h0, r0⟩ := trodAll_cons hA
  obtain ⟨v1, vs1, d1, ds1, p1, q1, rfl, rfl, rfl, h1, r1⟩ := trodAll_cons r0
  obtain ⟨v2, vs2, d2, ds2, p2, q2, rfl, rfl, rfl, h2, r2⟩ := trodAll_cons r1
  obtain ⟨rfl, rfl, rfl⟩ := trodAll_nil r2
  obtain rfl : args = #[v0, v1, v2] := by cases args; simp_all
  obtain ⟨rfl, rfl⟩ := trodVars_none hV
  obtain ⟨a0, rfl, rfl, rfl, w0⟩ := open_int Try.underlying3 (hval 0 3 v0 rfl rfl) h0
  obtain ⟨a1, rfl, rfl, rfl⟩ := open_bool Try.underlying4 (hval 1 4 v1 rfl rfl) h1
  have k2 := h2
  have lt2 : ∀ x ∈ p2, x.block < W.heap.size := by obtain ⟨m, hm⟩ := k2; exact DataW.trod_lt m _ _ _ hm
  obtain ⟨a2, len2, cap2, rfl⟩ := okWide_slice Try.underlying48 (hval 2 48 v2 rfl rfl)
  obtain ⟨y2, gy2, ky2⟩ := Hand.Opens.arg (Hand.opens_slice (B := Try.prog.bytesOf 53) (d := (Kd.pair (Kd.int .u8) (Kd.pair (Kd.int .u8) (Kd.pair (Kd.int .u8) (Kd.pair (Kd.int .i64) (Kd.pair (Kd.slice 3 (Kd.int .i64)) (Kd.pair (Kd.int .u32) (Kd.int .u32)))))))) Try.underlying48 rfl (by kernel_rfl) (Hand.opens_struct Try.underlying53 (by kernel_rfl) (Hand.opensL_cons rfl rfl (by decide) (Hand.opens_int .u8 Try.underlying5) (Hand.opensL_cons rfl rfl (by decide) (Hand.opens_int .u8 Try.underlying5) (Hand.opensL_cons rfl rfl (by decide) (Hand.opens_int .u8 Try.underlying5) (Hand.opensL_cons rfl rfl (by decide) (Hand.opens_int .i64 Try.underlying3) (Hand.opensL_cons rfl rfl (by decide) (Hand.opens_slice (B := Try.prog.bytesOf 3) (d := (Kd.int .i64)) Try.underlying51 rfl (by kernel_rfl) (Hand.opens_int .i64 Try.underlying3)) (Hand.opensL_one rfl (Hand.opens_struct Try.underlying28 (by kernel_rfl) (Hand.opensL_cons rfl rfl (by decide) (Hand.opens_int .u32 Try.underlying26) (Hand.opensL_one rfl (Hand.opens_int .u32 Try.underlying26)))))))))))) hsz (j := 2) rfl rfl h2
  obtain ⟨A2, c2, ev2, hl2, hk2⟩ := Hand.slice_arg ky2
  injection ev2 with ea2 eb2 ec2
  subst ea2 eb2 ec2
  clear hA0 hval0 hsz0 hsz
  refine (Hand.ArenaPlays_walk a0 a1 y2 a2 cap2 W w0 hl2 hk2 gy2).mono fun e W' ⟨he, bel⟩ => ?_
  subst he
  exact ⟨_, rfl, _, _, _, [], _, [], hW', trodAll_mk1 (shut_bool Try.underlying4 _), (trodAll_cons_mk (shut_int Try.underlying3 w0) (trodAll_cons_mk (shut_bool Try.underlying4 _) (trodAll_cons_mk (Below.trod laidOut (by kernel_rfl) (of_decide_eq_true (by kernel_rfl)) k2 bel lt2) trodAll_mk0))), rfl, bel.frame _, fun h => by cases h⟩
theorem over : Rows.arenaPlaysRow.holds Try.pinned (OpenSpec.ofChange Rows.arenaPlaysSpec) :=
  OpenClaim.holds_of_wide 7 Try.f7 rfl rfl rfl rfl rfl rfl rfl ⟨rfl, rfl, rfl, rfl, rfl⟩ rfl rfl rfl rfl rfl (by kernel_rfl) Try.func7 (by kernel_rfl)
    (of_decide_eq_true (by kernel_rfl)) (by unfold Func.isWrapper; first | (rw [if_pos (by decide +kernel)]; kernel_rfl) | (rw [if_neg (by decide +kernel)]; exact ⟨rfl, rfl⟩))
    (fun os started H enc _ => lifted os started H enc)
theorem proved : Rows.ArenaPlaysSaid := over
#print axioms proved
end Go.Proofs.Ytdnpfnoobjbanaa.arenaPlays
namespace Go.Proofs.Ytdnpfnoobjbanaa
/-- The row, under a short name, for the claim. -/
theorem arenaPlays_holds : Rows.ArenaPlaysSaid := arenaPlays.proved
end Go.Proofs.Ytdnpfnoobjbanaa

