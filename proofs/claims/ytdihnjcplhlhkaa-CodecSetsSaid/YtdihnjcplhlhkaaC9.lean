/- CodecSets: pieces of a text. -/
import Derived.Test.YtdihnjcplhlhkaaC6
import Derived.OpenShut
set_option linter.unusedVariables false
namespace Go.Proofs.Ytdihnjcplhlhkaa.Hand
open Go.RowKit Go.Proofs.Ytdihnjcplhlhkaa.PCodecTells Go.Proofs.YtdihnjcplhlhkaaW.PrintWords Go.Proofs.YtdihnjcplhlhkaaW.PrintLast Go.Proofs.YtdihnjcplhlhkaaW.PrintMore
theorem piece_to (s : ByteArray) (a : Nat) (h : a ≤ s.size) (W : World) : (Instr.slice 9 (.string s) none (some (.int .i64 (a : Int))) none).run Try.prog W = .ok (.string (s.extract 0 a)) W := by
  rw [run_slice_string_h (P := Try.prog) W 9 s Try.underlying9 .i64 _ (by omega) (by omega), Int.toNat_natCast]
theorem piece_from (s : ByteArray) (c : Int) (m : Nat) (e : c = m) (h : m ≤ s.size) (W : World) : (Instr.slice 9 (.string s) (some (.int .i64 c)) none none).run Try.prog W = .ok (.string (s.extract m s.size)) W := by
  subst e
  rw [run_slice_string_l (P := Try.prog) W 9 s Try.underlying9 .i64 _ (by omega) (by omega), Int.toNat_natCast]
end Go.Proofs.Ytdihnjcplhlhkaa.Hand
