/- text(n, c): so many bytes. -/
import Derived.Test.YtdnpfnoobjbanaaHN
set_option linter.unusedVariables false
set_option linter.unusedSimpArgs false
namespace Go.Proofs.Ytdnpfnoobjbanaa.Hand
open Go.RowKit Go.Proofs.Ytdnpfnoobjbanaa.PArenaPlays Go.Proofs.YtdnpfnoobjbanaaW.PrintWords Go.Proofs.YtdnpfnoobjbanaaW.PrintLast Go.Proofs.YtdnpfnoobjbanaaW.PrintMore

/-- A text of n bytes c. -/
def tx (n : Nat) (c : Int) : ByteArray := strOfNums (List.replicate n c)
theorem text_go (c : Int) (n : Nat) (hn : n ≤ 1000000) : ∀ d i, i + d = n → jettisonlaw03_text.l0 (d + 1) (n : Int) c (List.replicate i c ++ List.replicate d 0) (i : Int) = some (tx n c)
  | 0, i, h => by
    have h : i = n := h
    subst h
    rw [jettisonlaw03_text.l0, if_neg (Int.lt_irrefl _), List.replicate_zero, List.append_nil]
    rfl
  | d + 1, i, h => by
    have e1 : wrap64 ((i : Int) + 1) = ((i + 1 : Nat) : Int) := by
      have e0 : wrap64 ((i : Int) + 1) = (i : Int) + 1 := by unfold wrap64; omega
      rw [e0]
      omega
    have e2 : (List.replicate i c ++ List.replicate (d + 1) (0 : Int)).set (i : Int).toNat c = List.replicate (i + 1) c ++ List.replicate d 0 := by
      rw [Int.toNat_natCast, List.set_append_right _ _ (by rw [List.length_replicate]; exact Nat.le_refl _), List.length_replicate, Nat.sub_self, List.replicate_succ, List.set_cons_zero, List.replicate_succ' (n := i), List.append_assoc]
      rfl
    rw [jettisonlaw03_text.l0, if_pos (by omega), if_pos (by omega), if_pos (by rw [List.length_append, List.length_replicate, List.length_replicate]; omega), e1, e2]
    exact text_go c n hn d (i + 1) (by omega)
theorem text_f (c : Int) (n : Nat) (hn : n ≤ 1000000) : jettisonlaw03_text.f (n + 1) (n : Int) c = some (tx n c) := by
  rw [jettisonlaw03_text.f, if_pos (by omega), if_pos (by omega), Int.toNat_natCast]
  exact text_go c n hn n 0 (by omega)
theorem text_c (n : Nat) (c : Int) (w : World) (hn : n ≤ 1000000) : Calls Try.prog 14 #[.int .i64 (n : Int), .int .u8 c] w fun e w' => e = .returned (.string (tx n c)) ∧ Below w.heap.size w w' :=
  jettisonlaw03_text.calls _ _ _ _ w (text_f c n hn)
theorem tx_size (n : Nat) (c : Int) : (tx n c).size = n := by
  simp [tx, strOfNums, ByteArray.size]
end Go.Proofs.Ytdnpfnoobjbanaa.Hand
