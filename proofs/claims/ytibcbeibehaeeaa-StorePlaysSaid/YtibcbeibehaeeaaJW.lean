/- StorePlays: its deeds. -/
import Derived.Test.YtibcbeibehaeeaaJU
import Derived.Test.YtibcbeibehaeeaaJL
import Derived.Test.YtibcbeibehaeeaaO0
import Derived.Deep.CutBlock
import Derived.Deep.DeepCutAuto
set_option linter.unusedVariables false
set_option linter.unusedSimpArgs false
namespace Go.Proofs.Ytibcbeibehaeeaa.Hand
open Go.RowKit Go.Proofs.Ytibcbeibehaeeaa.PStorePlays Go.Proofs.YtibcbeibehaeeaaW.PrintWords Go.Proofs.YtibcbeibehaeeaaW.PrintLast Go.Proofs.YtibcbeibehaeeaaW.PrintMore
theorem SX.event {W : World} {gs ga mb N : Nat} {L : List Kt} (h : SX W gs ga mb N L) {b : Nat} {cs : Array Value} (hb : W.heap[b]? = some (.cells cs 35 (0, 0))) (j : Nat) (v : Value) : SX (W.setCell ⟨b, j, none⟩ v) gs ga mb N L :=
  ⟨blk_far (p := ⟨b, j, none⟩) h.blk (blk_ne h.blk hb (by decide)) _, h.map.set hb _, fun x hx => blk_far (p := ⟨b, j, none⟩) (h.kept x hx) (blk_ne (h.kept x hx) hb (by decide)) _, h.keys, h.blks, h.low⟩
theorem SY.event {W : World} {gs ga mb N : Nat} {cap lim : Int} {bs : List S114} {l : List Kt} (h : SY W gs ga mb N cap lim bs l) {b : Nat} {cs : Array Value} (hb : W.heap[b]? = some (.cells cs 35 (0, 0))) (j : Nat) (v : Value) : SY (W.setCell ⟨b, j, none⟩ v) gs ga mb N cap lim bs l := by
  obtain ⟨⟨L, h, e⟩, ha⟩ := h
  exact ⟨⟨L, h.event hb j v, e⟩, ha.other hb (by unfold AT; decide) j v⟩
theorem sameE_refl (k t : Int) (l : List Int) : sameE k t l k t l = true := by unfold sameE; simp
theorem C_cutm {w : World} {A : Option Addr} {l : List Int} (hk : ∀ W', Has w W' → Kd.C (Kd.int .i64) W' A l.length l) (m : Nat) (hm : m ≤ l.length) : ∀ W', Has w W' → Kd.C (Kd.int .i64) W' A m (l.take m) := by
  intro W' hW
  have := Kd.C_take (hk W' hW) hm
  rwa [List.length_take, Nat.min_eq_left hm] at this
/-- A deed's cells. -/
def DCells (W : World) (p : Addr) (kind at_ : Nat) (ix ek et : Int) (v : Value) : Prop := W.cell? p = some (.int .u8 (kind : Int)) ∧ W.cell? ⟨p.block, p.off + 1, none⟩ = some (.int .u8 (at_ : Int)) ∧ W.cell? ⟨p.block, p.off + 2, none⟩ = some (.int .i64 ix) ∧ W.cell? ⟨p.block, p.off + 3, none⟩ = some (.int .i64 ek) ∧ W.cell? ⟨p.block, p.off + 4, none⟩ = some (.int .i64 et) ∧ W.cell? ⟨p.block, p.off + 5, none⟩ = some v
theorem deed_at {w : World} {y : List (Int × Int × Int × Int × Int × List Int)} {ad : Addr} (hk : ∀ W', Has w W' → Kd.C (Kd.pair (Kd.int .u8) (Kd.pair (Kd.int .u8) (Kd.pair (Kd.int .i64) (Kd.pair (Kd.int .i64) (Kd.pair (Kd.int .i64) (Kd.slice 2 (Kd.int .i64))))))) W' (some ad) y.length y) (hg : ShortRow (Try.prog.bytesOf 37) (fun x : Int × Int × Int × Int × Int × List Int => (Lit.int .u8 x.1).wf = true ∧ (Lit.int .u8 x.2.1).wf = true ∧ (Lit.int .i64 x.2.2.1).wf = true ∧ (Lit.int .i64 x.2.2.2.1).wf = true ∧ (Lit.int .i64 x.2.2.2.2.1).wf = true ∧ ShortRow (Try.prog.bytesOf 2) (fun n => (Lit.int .i64 n).wf = true) x.2.2.2.2.2) y) (i : Nat) (hi : i < y.length) :
    ∃ (kind at_ : Nat) (ix ek et : Int) (LA : Option Addr) (Lc : Nat) (ls : List Int), kind ≤ 255 ∧ at_ ≤ 255 ∧ I64 ix ∧ I64 ek ∧ I64 et ∧ ls.length ≤ Lc ∧ ls.length ≤ 140737488351232 ∧
      ∀ W', Has w W' → DCells W' (ad.add (i * 6)) kind at_ ix ek et (.slice LA ls.length Lc) ∧ Kd.C (Kd.int .i64) W' LA ls.length ls := by
  obtain ⟨x, hx⟩ : ∃ x, y[i]? = some x := ⟨_, List.getElem?_eq_getElem hi⟩
  have hG := hg.2 x (List.mem_of_getElem? hx)
  obtain ⟨g1, g2, g3, g4, g5, g6⟩ := hG
  have b1 := Go.bounds_u8 g1
  have b2 := Go.bounds_u8 g2
  have b3 : I64 x.2.2.1 := Go.bounds_i64 g3
  have b4 : I64 x.2.2.2.1 := Go.bounds_i64 g4
  have b5 : I64 x.2.2.2.2.1 := Go.bounds_i64 g5
  obtain ⟨x1, x2, x3, x4, x5, x6⟩ := x
  obtain ⟨kind, rfl⟩ := Int.eq_ofNat_of_zero_le b1.1
  obtain ⟨at_, rfl⟩ := Int.eq_ofNat_of_zero_le b2.1
  have e8 : Try.prog.bytesOf 2 = 8 := by kernel_rfl
  have hls := g6.1
  rw [e8] at hls
  simp only at b1 b2 b3 b4 b5 hls
  have at_w : ∀ W', Has w W' → ∃ LA Lc, DCells W' (ad.add (i * 6)) kind at_ x3 x4 x5 (.slice LA x6.length Lc) ∧ x6.length ≤ Lc ∧ Kd.C (Kd.int .i64) W' LA x6.length x6 := by
    intro W' hW
    obtain ⟨ad', e, hr⟩ := (hk W' hW).2.2 (by omega)
    have e' := Option.some.inj e
    subst e'
    obtain ⟨cs, hl, hK, hc⟩ := hr i _ hx
    obtain ⟨c1, r1, rfl, k1, c2, r2, rfl, k2, c3, r3, rfl, k3, c4, r4, rfl, k4, c5, c6, rfl, k5, k6⟩ := hK
    obtain rfl : c1 = [.int .u8 (kind : Int)] := k1
    obtain rfl : c2 = [.int .u8 (at_ : Int)] := k2
    obtain rfl : c3 = [.int .i64 x3] := k3
    obtain rfl : c4 = [.int .i64 x4] := k4
    obtain rfl : c5 = [.int .i64 x5] := k5
    obtain ⟨LA, Lc, rfl, hlc, hC⟩ := k6
    have a0 := hc 0 _ rfl
    rw [Nat.add_zero] at a0
    have aa : ∀ q, (ad.add (i * 6 + q)) = (ad.add (i * 6)).add q := fun q => (Go.Deep.add_add ad (i * 6) q).symm
    have ac : ∀ (q : Nat) (v : Value), q ≠ 0 → W'.cell? (ad.add (i * 6 + q)) = some v → W'.cell? ⟨(ad.add (i * 6)).block, (ad.add (i * 6)).off + q, none⟩ = some v := by
      intro q v hq hv
      rw [aa q] at hv
      unfold Addr.add at hv ⊢
      rw [if_neg hq] at hv
      exact hv
    exact ⟨LA, Lc, ⟨a0, ac 1 _ (by decide) (hc 1 _ rfl), ac 2 _ (by decide) (hc 2 _ rfl), ac 3 _ (by decide) (hc 3 _ rfl), ac 4 _ (by decide) (hc 4 _ rfl), ac 5 _ (by decide) (hc 5 _ rfl)⟩, hlc, hC⟩
  obtain ⟨LA, Lc, hD, hlc, hC⟩ := at_w w (Has.refl w)
  refine ⟨kind, at_, x3, x4, x5, LA, Lc, x6, by omega, by omega, b3, b4, b5, hlc, by omega, fun W' hW => ?_⟩
  obtain ⟨LA', Lc', hD', hlc', hC'⟩ := at_w W' hW
  have e1 := hW.cell hD.2.2.2.2.2
  rw [hD'.2.2.2.2.2] at e1
  injection e1 with e1
  injection e1 with e1 e2 e3
  subst e1 e3
  exact ⟨hD', hC'⟩
theorem RY.event {W : World} {gr ga base : Nat} {cap lim : Int} {bs : List S114} {l : List Kt} (h : RY W gr ga base cap lim bs l) {b : Nat} {cs : Array Value} (hb : W.heap[b]? = some (.cells cs 35 (0, 0))) (j : Nat) (v : Value) : RY (W.setCell ⟨b, j, none⟩ v) gr ga base cap lim bs l := by
  obtain ⟨⟨u, h⟩, ha, hz⟩ := h
  exact ⟨⟨u, blk_far (p := ⟨b, j, none⟩) h.blk (blk_ne h.blk hb (by decide)) _, h.row.set hb (by decide) j v⟩, ha.other hb (by unfold RT; decide) j v, hz⟩
theorem mod3 (k : Int) : ∃ K, wrap64 ((IntKind.u64.wrap k).tmod 3) = K ∧ I64 K := by
  have h := wrapU k
  refine ⟨_, rfl, ?_⟩
  rw [Int.tmod_eq_emod_of_nonneg h.1, w_id (by omega) (by omega)]
  unfold I64
  omega
theorem rsame_n (k t : Int) (A : Option Addr) (n c : Nat) (l : List Int) (k' t' : Int) (A' : Option Addr) (n' c' : Nat) (l' : List Int) (b : Bool) (w : World) (h1 : Kd.C (Kd.int .i64) w A n l) (h2 : n ≤ c) (h3 : Kd.C (Kd.int .i64) w A' n' l') (h4 : n' ≤ c') (h : sameE k t l k' t' l' = b) :
    Calls Try.prog 20 #[.agg #[.int .i64 k, .int .i64 t, .slice A n c], .agg #[.int .i64 k', .int .i64 t', .slice A' n' c']] w fun e w' => e = .returned (.bool b) ∧ Below w.heap.size w w' := by
  obtain rfl := h1.1
  obtain rfl := h3.1
  exact rsame_c k t A c l k' t' A' c' l' b w h1 h2 h3 h4 h
end Go.Proofs.Ytibcbeibehaeeaa.Hand
