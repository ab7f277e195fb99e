/- CodecBack: the cases joined. -/
import Derived.Test.YtdihnjcplhlhkaaC7a
import Derived.Test.YtdihnjcplhlhkaaC7b
import Derived.Test.YtdihnjcplhlhkaaC7c
import Derived.OpenShut
set_option linter.unusedVariables false
namespace Go.Proofs.Ytdihnjcplhlhkaa.Hand
open Go.RowKit Go.Proofs.Ytdihnjcplhlhkaa.PCodecTells Go.Proofs.YtdihnjcplhlhkaaW.PrintWords Go.Proofs.YtdihnjcplhlhkaaW.PrintLast Go.Proofs.YtdihnjcplhlhkaaW.PrintMore
theorem CodecBack_walk (n m width : Int) (w : World) (w0 : (Lit.int .u64 n).wf = true) (w1 : (Lit.int .u64 m).wf = true) (w2 : (Lit.int .u8 width).wf = true) :
    Calls Try.prog 4 #[.int .u64 n, .int .u64 m, .int .u8 width] w fun e w' => e = .returned (.bool true) ∧ Below w.heap.size w w' := by
  obtain ⟨n0, n1⟩ := Go.bounds_u64 w0
  obtain ⟨m0, m1⟩ := Go.bounds_u64 w1
  obtain ⟨d0, d1⟩ := Go.bounds_u8 w2
  have z : width % 8 = 0 ∨ width % 8 = 1 ∨ width % 8 = 2 ∨ width % 8 = 3 ∨ width % 8 = 4 ∨ width % 8 = 5 ∨ width % 8 = 6 ∨ width % 8 = 7 := by omega
  rcases z with z | z | z | z | z | z | z | z
  · rcases Int.lt_or_le n 256 with h | h
    · rcases Int.lt_or_le m 256 with g | g
      · exact back_1_A n m width w (by omega) (by omega) (by omega) (by omega) d0 z h g
      · exact back_1_B n m width w (by omega) (by omega) (by omega) (by omega) d0 z h g
    · exact back_1_C n m width w (by omega) (by omega) (by omega) (by omega) d0 z h
  · rcases Int.lt_or_le n 65536 with h | h
    · rcases Int.lt_or_le m 65536 with g | g
      · exact back_2_A n m width w (by omega) (by omega) (by omega) (by omega) d0 z h g
      · exact back_2_B n m width w (by omega) (by omega) (by omega) (by omega) d0 z h g
    · exact back_2_C n m width w (by omega) (by omega) (by omega) (by omega) d0 z h
  · rcases Int.lt_or_le n 16777216 with h | h
    · rcases Int.lt_or_le m 16777216 with g | g
      · exact back_3_A n m width w (by omega) (by omega) (by omega) (by omega) d0 z h g
      · exact back_3_B n m width w (by omega) (by omega) (by omega) (by omega) d0 z h g
    · exact back_3_C n m width w (by omega) (by omega) (by omega) (by omega) d0 z h
  · rcases Int.lt_or_le n 4294967296 with h | h
    · rcases Int.lt_or_le m 4294967296 with g | g
      · exact back_4_A n m width w (by omega) (by omega) (by omega) (by omega) d0 z h g
      · exact back_4_B n m width w (by omega) (by omega) (by omega) (by omega) d0 z h g
    · exact back_4_C n m width w (by omega) (by omega) (by omega) (by omega) d0 z h
  · rcases Int.lt_or_le n 1099511627776 with h | h
    · rcases Int.lt_or_le m 1099511627776 with g | g
      · exact back_5_A n m width w (by omega) (by omega) (by omega) (by omega) d0 z h g
      · exact back_5_B n m width w (by omega) (by omega) (by omega) (by omega) d0 z h g
    · exact back_5_C n m width w (by omega) (by omega) (by omega) (by omega) d0 z h
  · rcases Int.lt_or_le n 281474976710656 with h | h
    · rcases Int.lt_or_le m 281474976710656 with g | g
      · exact back_6_A n m width w (by omega) (by omega) (by omega) (by omega) d0 z h g
      · exact back_6_B n m width w (by omega) (by omega) (by omega) (by omega) d0 z h g
    · exact back_6_C n m width w (by omega) (by omega) (by omega) (by omega) d0 z h
  · rcases Int.lt_or_le n 72057594037927936 with h | h
    · rcases Int.lt_or_le m 72057594037927936 with g | g
      · exact back_7_A n m width w (by omega) (by omega) (by omega) (by omega) d0 z h g
      · exact back_7_B n m width w (by omega) (by omega) (by omega) (by omega) d0 z h g
    · exact back_7_C n m width w (by omega) (by omega) (by omega) (by omega) d0 z h
  · exact back_8_A n m width w (by omega) (by omega) (by omega) (by omega) d0 z
end Go.Proofs.Ytdihnjcplhlhkaa.Hand
