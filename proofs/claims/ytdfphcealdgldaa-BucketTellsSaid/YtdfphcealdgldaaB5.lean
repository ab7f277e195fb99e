/- A bucket out of its parts: jettisonlaw17's some. -/
import Derived.Test.YtdfphcealdgldaaB2
import Derived.OpenShut
set_option linter.unusedVariables false
namespace Go.Proofs.Ytdfphcealdgldaa.Hand
open Go.RowKit Go.Proofs.Ytdfphcealdgldaa.PBucketBounds Go.Proofs.YtdfphcealdgldaaW.PrintWords Go.Proofs.YtdfphcealdgldaaW.PrintLast Go.Proofs.YtdfphcealdgldaaW.PrintMore
theorem u64_bd (x : Int) : 0 ≤ IntKind.u64.wrap x ∧ IntKind.u64.wrap x ≤ 18446744073709551615 := by rw [IntKind.wrap_u64]; omega
set_option maxHeartbeats 1000000 in
set_option maxRecDepth 100000 in
theorem some_no (s l e a : Int) (w : World) :
    Calls Try.prog 9 #[.agg #[.int .i64 s, .int .i64 l, .int .i64 e, .int .i64 a, .bool false]] w fun x w' => x = .returned (.agg #[.int .i64 s, .int .i64 l, .int .i64 e, .int .i64 a]) ∧ Below w.heap.size w w' := by
  have HB := Aside0.mk (Below.refl w.heap.size w)
  have hu := Try.underlying23
  have hu2 := Try.underlying25
  go_enter Try.func9, Try.ntmps9
  go_wp2
  exact bodyPost_ret (v := .agg #[.int .i64 s, .int .i64 l, .int .i64 e, .int .i64 a]) (by simp [results, Try.results9, go_sem]) rfl ⟨rfl, (by repeat (first | (with_reducible first | exact HB.out | apply below_alloc | apply pw_below_drewN | apply below_drew1) | exact HB.out))⟩
set_option maxHeartbeats 1000000 in
set_option maxRecDepth 100000 in
theorem some_yes (s l e a : Int) (w : World) (ws : I64 s) (wl : I64 l) (we : I64 e) (wa : I64 a) :
    Calls Try.prog 9 #[.agg #[.int .i64 s, .int .i64 l, .int .i64 e, .int .i64 a, .bool true]] w fun x w' => x = .returned (.agg #[.int .i64 (IntKind.u64.wrap s % 6), .int .i64 (IntKind.u64.wrap l % (IntKind.u64.wrap s % 6 + 1)), .int .i64 (1 + IntKind.u64.wrap e % 9), .int .i64 (a.tmod 100)]) ∧ Below w.heap.size w w' := by
  have HB := Aside0.mk (Below.refl w.heap.size w)
  have hu := Try.underlying23
  have hu2 := Try.underlying25
  obtain ⟨us0, us1⟩ := u64_bd s
  obtain ⟨ul0, ul1⟩ := u64_bd l
  obtain ⟨ue0, ue1⟩ := u64_bd e
  obtain ⟨us, hus⟩ : ∃ us, IntKind.u64.wrap s = us := ⟨_, rfl⟩
  obtain ⟨ul, hul⟩ : ∃ ul, IntKind.u64.wrap l = ul := ⟨_, rfl⟩
  obtain ⟨ue, hue⟩ : ∃ ue, IntKind.u64.wrap e = ue := ⟨_, rfl⟩
  rw [hus] at us0 us1; rw [hul] at ul0 ul1; rw [hue] at ue0 ue1
  rw [hus, hul, hue]
  have hm0 : 0 ≤ ul % (us % 6 + 1) := Int.emod_nonneg _ (by omega)
  have hm1 : ul % (us % 6 + 1) < us % 6 + 1 := Int.emod_lt_of_pos _ (by omega)
  go_enter Try.func9, Try.ntmps9
  go_wp2
  exact bodyPost_ret (v := .agg #[.int .i64 (us % 6), .int .i64 (ul % (us % 6 + 1)), .int .i64 (1 + ue % 9), .int .i64 (a.tmod 100)]) (by simp [results, Try.results9, go_sem]) rfl ⟨rfl, (by repeat (first | (with_reducible first | exact HB.out | apply below_alloc | apply pw_below_drewN | apply below_drew1) | exact HB.out))⟩
end Go.Proofs.Ytdfphcealdgldaa.Hand
