/- StoreCharges: its walk. -/
import Derived.Test.YtibcbeibehaeeaaJT
set_option linter.unusedVariables false
set_option linter.unusedSimpArgs false
namespace Go.Proofs.Ytibcbeibehaeeaa.Hand
open Go.RowKit Go.Proofs.Ytibcbeibehaeeaa.PStorePlays Go.Proofs.YtibcbeibehaeeaaW.PrintWords Go.Proofs.YtibcbeibehaeeaaW.PrintLast Go.Proofs.YtibcbeibehaeeaaW.PrintMore
theorem StoreCharges_walk (y : List Int) (A : Option Addr) (c : Nat) (w : World) (hl : y.length ≤ c) (hk : ∀ W', Has w W' → Kd.C (Kd.int .u8) W' A y.length y) (hg : ShortRow (Try.prog.bytesOf 5) (fun n => (Lit.int .u8 n).wf = true) y) :
    Calls Try.prog 5 #[.slice A y.length c] w fun e w' => e = .returned (.bool true) ∧ Below w.heap.size w w' := by
  have e1 : Try.prog.bytesOf 5 = 1 := by kernel_rfl
  have hlm := hg.1
  rw [e1] at hlm
  rcases A with _ | ad
  · have hy : y.length = 0 := by
      rcases Nat.eq_zero_or_pos y.length with h | h
      · exact h
      · obtain ⟨ad, e, _⟩ := (hk w (Has.refl w)).2.2 h
        exact absurd e (by simp)
    rw [hy]
    exact charges0 c w
  · have main : ∀ i, i < y.length → ∃ b : Nat, b ≤ 255 ∧ ∀ W', Has w W' → W'.cell? (ad.add i) = some (.int .u8 b) := by
     intro i hi
     obtain ⟨x, hx⟩ : ∃ x, y[i]? = some x := ⟨_, List.getElem?_eq_getElem hi⟩
     have hb := Go.bounds_u8 (hg.2 x (List.mem_of_getElem? hx))
     obtain ⟨b, rfl⟩ := Int.eq_ofNat_of_zero_le hb.1
     refine ⟨b, by have := hb.2; omega, fun W' hW => ?_⟩
     obtain ⟨ad', e, hr⟩ := (hk W' hW).2.2 (by omega)
     have e2 := Option.some.inj e
     subst e2
     obtain ⟨cs, hl, hK, hc⟩ := hr i _ hx
     obtain rfl : cs = [.int .u8 (b : Int)] := hK
     have := hc 0 _ rfl
     rw [show (Kd.int .u8).sz = 1 from rfl, Nat.mul_one, Nat.add_zero] at this
     exact this
    exact StoreCharges_walk_ y ad c w (by omega) ⟨main⟩
end Go.Proofs.Ytibcbeibehaeeaa.Hand
