/- Package wire's Get: what its deferred closure does. -/
import Derived.Test.YthckcbacmonihaaE5
import Derived.Defers
import Derived.Recover
set_option linter.unusedVariables false
set_option linter.unusedSimpArgs false
namespace Go.Proofs.Ythckcbacmonihaa.Hand
open Go.RowKit Go.Proofs.Ythckcbacmonihaa.PWireTells Go.Proofs.YthckcbacmonihaaW.PrintWords Go.Proofs.YthckcbacmonihaaW.PrintLast Go.Proofs.YthckcbacmonihaaW.PrintMore

def bad1 (older : List PanicEntry) : List PanicEntry := { v := .iface 35 (.int .i64 7), recovered := true } :: older
theorem assert_errno (W : World) : (Instr.typeAssert (.iface 35 (.int .i64 7)) 20 35 false).run Try.prog W = .ok (.int .i64 7) W := by
  first | rfl | kernel_rfl | simp [go_sem]
set_option maxHeartbeats 1000000 in
set_option maxRecDepth 100000 in
theorem catch_bad (n m : Nat) (hne : n ≠ m) (c0 c1 c2 r0 : Value) (w : World) (h0 : w.cell? ⟨n, 0, none⟩ = some c0) (h1 : w.cell? ⟨n, 1, none⟩ = some c1) (h2 : w.cell? ⟨n, 2, none⟩ = some c2) (h3 : w.cell? ⟨m, 0, none⟩ = some r0)
    (f0 : w.frozen? ⟨n, 0, none⟩ = false) (f1 : w.frozen? ⟨n, 1, none⟩ = false) (f2 : w.frozen? ⟨n, 2, none⟩ = false) (f3 : w.frozen? ⟨m, 0, none⟩ = false) :
    CallsD Try.prog 27 #[.pointer (some ⟨n, 0, none⟩), .pointer (some ⟨m, 0, none⟩)] (.panicking bad) w fun e u' w' =>
      e = .returned (.tuple #[]) ∧ u' = .panicking (bad1 []) ∧ w'.cell? ⟨n, 0, none⟩ = some (.int .i64 0) ∧ w'.cell? ⟨n, 1, none⟩ = some (.int .i64 0) ∧ w'.cell? ⟨n, 2, none⟩ = some (.slice none 0 0) ∧ w'.cell? ⟨m, 0, none⟩ = some (.int .i64 7) ∧ (∀ B, B ≤ n → B ≤ m → Below B w w') := by
  refine callsD_of_wpS Try.func27 rfl fun c₀ cs hu => ?_
  apply wpS_seq
  apply wpS_region
  simp [wpOpsS, go_sem, recoverD, hu, Try.ntmps27, Exit.thenS, bad]
  refine wpS_of_wp ?_
  go_wp2
  change Code.wp Try.prog _ _ { tmps := #[.pointer (some ⟨n, 0, none⟩), .pointer (some ⟨m, 0, none⟩), .iface 35 (.int .i64 7), .iface 35 (.int .i64 7), .iface 35 (.int .i64 7), undef, undef, undef, .bool false], defers := [] } _
  have hta : ∀ W : World, (Instr.typeAssert (.iface 35 (.int .i64 7)) 20 35 false).run Try.prog W = .ok (.int .i64 7) W := assert_errno
  go_region
  all_goals go_wp2
  cases c₀
  have hne' : m ≠ n := fun h => hne h.symm
  refine ⟨rfl, _, rfl, .tuple #[], by simp [results, Try.results27, go_sem], rfl, rfl, ?_, ?_, ?_, ?_, ?_⟩
  · simp [go_sem, hne, hne', h0, h1, h2, h3]
  · simp [go_sem, hne, hne', h0, h1, h2, h3]
  · simp [go_sem, hne, hne', h0, h1, h2, h3]
  · simp [go_sem, hne, hne', h0, h1, h2, h3]
  · intro B hn hm
    exact (((((Below.refl B w).setCell (p := ⟨n, 0, none⟩) hn _).setCell (p := ⟨n, 1, none⟩) hn _).setCell (p := ⟨n, 2, none⟩) hn _).setCell (p := ⟨m, 0, none⟩) hm _).drew
theorem catch_idle (n m : Nat) (w : World) :
    CallsD Try.prog 27 #[.pointer (some ⟨n, 0, none⟩), .pointer (some ⟨m, 0, none⟩)] .returning w fun e u' w' => e = .returned (.tuple #[]) ∧ u' = .returning ∧ w' = w := by
  refine callsD_of_wpS Try.func27 rfl fun c₀ cs hu => ?_
  apply wpS_seq
  apply wpS_region
  simp [wpOpsS, go_sem, recoverD, hu, Try.ntmps27, Exit.thenS]
  refine wpS_of_wp ?_
  go_wp2
  cases c₀
  simp_all [bodyPostS, results, Try.results27]
end Go.Proofs.Ythckcbacmonihaa.Hand
