/- ArenaPlays: its walk. -/
import Derived.Test.YtdnpfnoobjbanaaI4
import Derived.Deep.CutBlock
import Derived.Deep.DeepCutAuto
set_option linter.unusedVariables false
set_option linter.unusedSimpArgs false
namespace Go.Proofs.Ytdnpfnoobjbanaa.Hand
open Go.RowKit Go.Proofs.Ytdnpfnoobjbanaa.PArenaPlays Go.Proofs.YtdnpfnoobjbanaaW.PrintWords Go.Proofs.YtdnpfnoobjbanaaW.PrintLast Go.Proofs.YtdnpfnoobjbanaaW.PrintMore
/-- A deed's cells. -/
def DCells (W : World) (p : Addr) (kind at_ ln N : Int) (v : Value) (hs hg : Int) : Prop := W.cell? p = some (.int .u8 kind) ∧ W.cell? ⟨p.block, p.off + 1, none⟩ = some (.int .u8 at_) ∧ W.cell? ⟨p.block, p.off + 2, none⟩ = some (.int .u8 ln) ∧ W.cell? ⟨p.block, p.off + 3, none⟩ = some (.int .i64 N) ∧ W.cell? ⟨p.block, p.off + 4, none⟩ = some v ∧ W.cell? ⟨p.block, p.off + 5, none⟩ = some (.int .u32 hs) ∧ W.cell? ⟨p.block, p.off + 6, none⟩ = some (.int .u32 hg)
theorem deed_at {w : World} {y : List (Int × Int × Int × Int × List Int × Int × Int)} {ad : Addr} (hk : ∀ W', Has w W' → Kd.C (Kd.pair (Kd.int .u8) (Kd.pair (Kd.int .u8) (Kd.pair (Kd.int .u8) (Kd.pair (Kd.int .i64) (Kd.pair (Kd.slice 3 (Kd.int .i64)) (Kd.pair (Kd.int .u32) (Kd.int .u32))))))) W' (some ad) y.length y) (hg : ShortRow (Try.prog.bytesOf 53) (fun x : Int × Int × Int × Int × List Int × Int × Int => (Lit.int .u8 x.1).wf = true ∧ (Lit.int .u8 x.2.1).wf = true ∧ (Lit.int .u8 x.2.2.1).wf = true ∧ (Lit.int .i64 x.2.2.2.1).wf = true ∧ ShortRow (Try.prog.bytesOf 3) (fun n => (Lit.int .i64 n).wf = true) x.2.2.2.2.1 ∧ (Lit.int .u32 x.2.2.2.2.2.1).wf = true ∧ (Lit.int .u32 x.2.2.2.2.2.2).wf = true) y) (i : Nat) (hi : i < y.length) :
    ∃ (kind at_ ln hs : Nat) (N hg0 : Int) (LA : Option Addr) (Lc : Nat) (ls : List Int), kind ≤ 255 ∧ at_ ≤ 255 ∧ ln ≤ 255 ∧ hs ≤ 4294967295 ∧ -9223372036854775808 ≤ N ∧ N ≤ 9223372036854775807 ∧ ls.length ≤ Lc ∧ ls.length ≤ 140737488351232 ∧
      ∀ W', Has w W' → DCells W' (ad.add (i * 7)) kind at_ ln N (.slice LA ls.length Lc) hs hg0 ∧ Kd.C (Kd.int .i64) W' LA ls.length ls := by
  obtain ⟨x, hx⟩ : ∃ x, y[i]? = some x := ⟨_, List.getElem?_eq_getElem hi⟩
  have hG := hg.2 x (List.mem_of_getElem? hx)
  obtain ⟨g1, g2, g3, g4, g5, g6, g7⟩ := hG
  have b1 := Go.bounds_u8 g1
  have b2 := Go.bounds_u8 g2
  have b3 := Go.bounds_u8 g3
  have b4 := Go.bounds_i64 g4
  have b6 := Go.bounds_u32 g6
  obtain ⟨x1, x2, x3, x4, x5, x6, x7⟩ := x
  obtain ⟨kind, rfl⟩ := Int.eq_ofNat_of_zero_le b1.1
  obtain ⟨at_, rfl⟩ := Int.eq_ofNat_of_zero_le b2.1
  obtain ⟨ln, rfl⟩ := Int.eq_ofNat_of_zero_le b3.1
  obtain ⟨hs, rfl⟩ := Int.eq_ofNat_of_zero_le b6.1
  have e8 : Try.prog.bytesOf 3 = 8 := by kernel_rfl
  have hls := g5.1
  rw [e8] at hls
  simp only at b1 b2 b3 b4 b6 hls
  have at_w : ∀ W', Has w W' → ∃ LA Lc, DCells W' (ad.add (i * 7)) kind at_ ln x4 (.slice LA x5.length Lc) hs x7 ∧ x5.length ≤ Lc ∧ Kd.C (Kd.int .i64) W' LA x5.length x5 := by
    intro W' hW
    obtain ⟨ad', e, hr⟩ := (hk W' hW).2.2 (by omega)
    injection e with e
    subst e
    obtain ⟨cs, hl, hK, hc⟩ := hr i _ hx
    obtain ⟨c1, r1, rfl, k1, c2, r2, rfl, k2, c3, r3, rfl, k3, c4, r4, rfl, k4, c5, r5, rfl, k5, c6, c7, rfl, k6, k7⟩ := hK
    obtain rfl : c1 = [.int .u8 (kind : Int)] := k1
    obtain rfl : c2 = [.int .u8 (at_ : Int)] := k2
    obtain rfl : c3 = [.int .u8 (ln : Int)] := k3
    obtain rfl : c4 = [.int .i64 x4] := k4
    obtain rfl : c6 = [.int .u32 (hs : Int)] := k6
    obtain rfl : c7 = [.int .u32 x7] := k7
    obtain ⟨LA, Lc, rfl, hlc, hC⟩ := k5
    have a0 := hc 0 _ rfl
    rw [Nat.add_zero] at a0
    have aa : ∀ q, (ad.add (i * 7 + q)) = (ad.add (i * 7)).add q := fun q => (Go.Deep.add_add ad (i * 7) q).symm
    have ac : ∀ (q : Nat) (v : Value), q ≠ 0 → W'.cell? (ad.add (i * 7 + q)) = some v → W'.cell? ⟨(ad.add (i * 7)).block, (ad.add (i * 7)).off + q, none⟩ = some v := by
      intro q v hq hv
      rw [aa q] at hv
      unfold Addr.add at hv ⊢
      rw [if_neg hq] at hv
      exact hv
    exact ⟨LA, Lc, ⟨a0, ac 1 _ (by decide) (hc 1 _ rfl), ac 2 _ (by decide) (hc 2 _ rfl), ac 3 _ (by decide) (hc 3 _ rfl), ac 4 _ (by decide) (hc 4 _ rfl), ac 5 _ (by decide) (hc 5 _ rfl), ac 6 _ (by decide) (hc 6 _ rfl)⟩, hlc, hC⟩
  obtain ⟨LA, Lc, hD, hlc, hC⟩ := at_w w (Has.refl w)
  refine ⟨kind, at_, ln, hs, x4, x7, LA, Lc, x5, by omega, by omega, by omega, by omega, b4.1, b4.2, hlc, by omega, fun W' hW => ?_⟩
  obtain ⟨LA', Lc', hD', hlc', hC'⟩ := at_w W' hW
  have e1 := hW.cell hD.2.2.2.2.1
  rw [hD'.2.2.2.2.1] at e1
  injection e1 with e1
  injection e1 with e1 e2 e3
  subst e1 e3
  exact ⟨hD', hC'⟩
end Go.Proofs.Ytdnpfnoobjbanaa.Hand
