/- SizeRounds: the cases joined. -/
import Derived.Test.YtokfmhgbkladdaaT0
import Derived.OpenShut
set_option linter.unusedVariables false
namespace Go.Proofs.Ytokfmhgbkladdaa.Hand
open Go.RowKit Go.Proofs.Ytokfmhgbkladdaa.PSizeTells Go.Proofs.YtokfmhgbkladdaaW.PrintWords Go.Proofs.YtokfmhgbkladdaaW.PrintLast Go.Proofs.YtokfmhgbkladdaaW.PrintMore

theorem wf_u16 {x : Int} (h : (Lit.int .u16 x).wf = true) : 0 ≤ x ∧ x ≤ 65535 := by
  have := Go.bounds_u16 h
  omega
theorem SizeRounds_walk (n m : Int) (w : World) (w0 : (Lit.int .u16 n).wf = true) (w1 : (Lit.int .u16 m).wf = true) :
    Calls Try.prog 4 #[.int .u16 n, .int .u16 m] w fun e w' => e = .returned (.bool true) ∧ Below w.heap.size w w' := by
  obtain ⟨p1, p2⟩ := wf_u16 w0
  obtain ⟨q1, q2⟩ := wf_u16 w1
  obtain ⟨a, ea⟩ : ∃ a, n % 1025 = a := ⟨_, rfl⟩
  obtain ⟨b, eb⟩ : ∃ b, m % 1025 = b := ⟨_, rfl⟩
  have ha : 0 ≤ a ∧ a ≤ 1024 := by omega
  have hb : 0 ≤ b ∧ b ≤ 1024 := by omega
  obtain ⟨f1, f2, f3, f4, f5, f6, f7, f8, f9, f10⟩ := rnd_facts a ha.1 ha.2
  have g3 := fit_yes (rnd a) (by omega) (by omega)
  have z : cls a = 0 ∧ a < 17 ∨ 1 ≤ cls a ∧ 17 ≤ a := by rcases seven a ha.1 ha.2 with h | h | h | h | h | h | h <;> omega
  have go : a < b ∨ b < a ∨ a = b := by omega
  rcases z with ⟨z1, z2⟩ | ⟨z1, z2⟩ <;> rcases go with g | g | g
  · exact rounds_lo_lt n m a b _ _ _ p1 q1 ea eb rfl rfl f4 rfl (fit_yes _ ha.1 ha.2) (fit_yes _ hb.1 hb.2) g3 f9 f7 f8 f1 w z2 (beq_iff_eq.2 (f2 z2)) (beq_iff_eq.2 z1) g (rnd_mono _ _ ha.1 hb.2 (by omega))
  · exact rounds_lo_gt n m a b _ _ _ p1 q1 ea eb rfl rfl f4 rfl (fit_yes _ ha.1 ha.2) (fit_yes _ hb.1 hb.2) g3 f9 f7 f8 f1 w z2 (beq_iff_eq.2 (f2 z2)) (beq_iff_eq.2 z1) g (rnd_mono _ _ hb.1 ha.2 (by omega))
  · exact rounds_lo_eq n m a b _ _ _ p1 q1 ea eb rfl rfl f4 rfl (fit_yes _ ha.1 ha.2) (fit_yes _ hb.1 hb.2) g3 f9 f7 f8 f1 w z2 (beq_iff_eq.2 (f2 z2)) (beq_iff_eq.2 z1) (by omega) (by omega) (rnd_mono _ _ ha.1 hb.2 (by omega)) (rnd_mono _ _ hb.1 ha.2 (by omega))
  · exact rounds_hi_lt n m a b _ _ _ p1 q1 ea eb rfl rfl f4 rfl (fit_yes _ ha.1 ha.2) (fit_yes _ hb.1 hb.2) g3 f9 f7 f8 f1 w ha.1 z2 f6 (f3 z2) (beq_eq_false_iff_ne.2 (by omega)) z1 (f10 z1) g (rnd_mono _ _ ha.1 hb.2 (by omega))
  · exact rounds_hi_gt n m a b _ _ _ p1 q1 ea eb rfl rfl f4 rfl (fit_yes _ ha.1 ha.2) (fit_yes _ hb.1 hb.2) g3 f9 f7 f8 f1 w ha.1 z2 f6 (f3 z2) (beq_eq_false_iff_ne.2 (by omega)) z1 (f10 z1) g (rnd_mono _ _ hb.1 ha.2 (by omega))
  · exact rounds_hi_eq n m a b _ _ _ p1 q1 ea eb rfl rfl f4 rfl (fit_yes _ ha.1 ha.2) (fit_yes _ hb.1 hb.2) g3 f9 f7 f8 f1 w ha.1 z2 f6 (f3 z2) (beq_eq_false_iff_ne.2 (by omega)) z1 (f10 z1) (by omega) (by omega) (rnd_mono _ _ ha.1 hb.2 (by omega)) (rnd_mono _ _ hb.1 ha.2 (by omega))
end Go.Proofs.Ytokfmhgbkladdaa.Hand
