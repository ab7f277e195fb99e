/- CodecSets: the cases joined. -/
import Derived.Test.YtdihnjcplhlhkaaC9a
import Derived.Test.YtdihnjcplhlhkaaC9b
import Derived.OpenShut
set_option linter.unusedVariables false
namespace Go.Proofs.Ytdihnjcplhlhkaa.Hand
open Go.RowKit Go.Proofs.Ytdihnjcplhlhkaa.PCodecTells Go.Proofs.YtdihnjcplhlhkaaW.PrintWords Go.Proofs.YtdihnjcplhlhkaaW.PrintLast Go.Proofs.YtdihnjcplhlhkaaW.PrintMore
theorem CodecSets_walk (s : ByteArray) (a width n : Int) (w : World) (w0 : s.size ≤ 140737488351232) (w1 : (Lit.int .u8 a).wf = true) (w2 : (Lit.int .u8 width).wf = true) (w3 : (Lit.int .u64 n).wf = true) :
    Calls Try.prog 5 #[.string s, .int .u8 a, .int .u8 width, .int .u64 n] w fun e w' => e = .returned (.bool true) ∧ Below w.heap.size w w' := by
  obtain ⟨n0, n1⟩ := Go.bounds_u64 w3
  obtain ⟨a0, a1⟩ := Go.bounds_u8 w1
  obtain ⟨d0, d1⟩ := Go.bounds_u8 w2
  obtain ⟨i, hi⟩ : ∃ i : Nat, a % 30 = (i : Int) := ⟨(a % 30).toNat, by omega⟩
  have z : width % 8 = 0 ∨ width % 8 = 1 ∨ width % 8 = 2 ∨ width % 8 = 3 ∨ width % 8 = 4 ∨ width % 8 = 5 ∨ width % 8 = 6 ∨ width % 8 = 7 := by omega
  rcases z with z | z | z | z | z | z | z | z
  · rcases Nat.lt_or_ge s.size (i + 1) with h | h
    · exact sets_1_no s a width n _ i w w0 (by omega) (by omega) a0 d0 z hi (by omega) rfl (by omega) (by omega) h
    · exact sets_1_yes s a width n _ i w w0 (by omega) (by omega) a0 d0 z hi (by omega) rfl (by omega) (by omega) h
  · rcases Nat.lt_or_ge s.size (i + 2) with h | h
    · exact sets_2_no s a width n _ i w w0 (by omega) (by omega) a0 d0 z hi (by omega) rfl (by omega) (by omega) h
    · exact sets_2_yes s a width n _ i w w0 (by omega) (by omega) a0 d0 z hi (by omega) rfl (by omega) (by omega) h
  · rcases Nat.lt_or_ge s.size (i + 3) with h | h
    · exact sets_3_no s a width n _ i w w0 (by omega) (by omega) a0 d0 z hi (by omega) rfl (by omega) (by omega) h
    · exact sets_3_yes s a width n _ i w w0 (by omega) (by omega) a0 d0 z hi (by omega) rfl (by omega) (by omega) h
  · rcases Nat.lt_or_ge s.size (i + 4) with h | h
    · exact sets_4_no s a width n _ i w w0 (by omega) (by omega) a0 d0 z hi (by omega) rfl (by omega) (by omega) h
    · exact sets_4_yes s a width n _ i w w0 (by omega) (by omega) a0 d0 z hi (by omega) rfl (by omega) (by omega) h
  · rcases Nat.lt_or_ge s.size (i + 5) with h | h
    · exact sets_5_no s a width n _ i w w0 (by omega) (by omega) a0 d0 z hi (by omega) rfl (by omega) (by omega) h
    · exact sets_5_yes s a width n _ i w w0 (by omega) (by omega) a0 d0 z hi (by omega) rfl (by omega) (by omega) h
  · rcases Nat.lt_or_ge s.size (i + 6) with h | h
    · exact sets_6_no s a width n _ i w w0 (by omega) (by omega) a0 d0 z hi (by omega) rfl (by omega) (by omega) h
    · exact sets_6_yes s a width n _ i w w0 (by omega) (by omega) a0 d0 z hi (by omega) rfl (by omega) (by omega) h
  · rcases Nat.lt_or_ge s.size (i + 7) with h | h
    · exact sets_7_no s a width n _ i w w0 (by omega) (by omega) a0 d0 z hi (by omega) rfl (by omega) (by omega) h
    · exact sets_7_yes s a width n _ i w w0 (by omega) (by omega) a0 d0 z hi (by omega) rfl (by omega) (by omega) h
  · rcases Nat.lt_or_ge s.size (i + 8) with h | h
    · exact sets_8_no s a width n _ i w w0 (by omega) (by omega) a0 d0 z hi (by omega) rfl (by omega) (by omega) h
    · exact sets_8_yes s a width n _ i w w0 (by omega) (by omega) a0 d0 z hi (by omega) rfl (by omega) (by omega) h
end Go.Proofs.Ytdihnjcplhlhkaa.Hand
