/- Two stores side by side: what the reference's writes leave, what the program's writes leave. -/
import Derived.Test.YtibcbeibehaeeaaJL
import Derived.Test.YtibcbeibehaeeaaG9
set_option linter.unusedVariables false
set_option linter.unusedSimpArgs false
namespace Go.Proofs.Ytibcbeibehaeeaa.Hand
open Go.RowKit Go.Proofs.Ytibcbeibehaeeaa.PStorePlays Go.Proofs.YtibcbeibehaeeaaW.PrintWords Go.Proofs.YtibcbeibehaeeaaW.PrintLast Go.Proofs.YtibcbeibehaeeaaW.PrintMore
def UT (q : Nat) : Prop := RT q ∨ q = 72 ∨ q = 89
/-- Blocks ahead of g, and those of other types than the reference's, are as they were. -/
structure FU (g : Nat) (W W' : World) : Prop where
  os : W'.os = W.os
  tape : W'.tape = W.tape
  output : W'.output = W.output
  size : W.heap.size ≤ W'.heap.size
  block : ∀ k, k < W.heap.size → (k < g ∨ ∀ cs q fr, W.heap[k]? = some (.cells cs q fr) → ¬ UT q) → W'.heap[k]? = W.heap[k]?
section
variable {g : Nat} {W W1 W2 : World}
theorem FU.refl (g : Nat) (W : World) : FU g W W := ⟨rfl, rfl, rfl, Nat.le_refl _, fun _ _ _ => rfl⟩
theorem FU.of_below (hb : Below W.heap.size W W1) : FU g W W1 := ⟨hb.os, hb.tape, hb.output, hb.size, fun k hk _ => hb.block k hk⟩
theorem FU.of_fr (h : FR g W W1) : FU g W W1 := ⟨h.os, h.tape, h.output, h.size, fun k hk hp => h.block k hk (hp.imp id (fun hq cs q fr hc hr => hq cs q fr hc (.inl hr)))⟩
theorem FU.mono {g' : Nat} (h : FU g W W1) (hg : g' ≤ g) : FU g' W W1 := ⟨h.os, h.tape, h.output, h.size, fun k hk hp => h.block k hk (hp.imp (fun x => Nat.lt_of_lt_of_le x hg) id)⟩
theorem FU.trans (h : FU g W W1) (h' : FU g W1 W2) : FU g W W2 :=
  ⟨h'.os.trans h.os, h'.tape.trans h.tape, h'.output.trans h.output, Nat.le_trans h.size h'.size, fun k hk hp =>
    (h'.block k (Nat.lt_of_lt_of_le hk h.size) (hp.imp id (fun hq cs q fr hc => hq cs q fr ((h.block k hk (.inr hq)).symm.trans hc)))).trans (h.block k hk hp)⟩
theorem FU.set {b : Nat} {cs : Array Value} {q : Nat} (hb : W.heap[b]? = some (.cells cs q (0, 0))) (hq : UT q) (hg : g ≤ b) (j : Nat) (v : Value) : FU g W (W.setCell ⟨b, j, none⟩ v) := by
  have h := (Below.refl b W).setCell (p := ⟨b, j, none⟩) (Nat.le_refl b) v
  refine ⟨h.os, h.tape, h.output, h.size, fun k hk hp => ?_⟩
  have hne : k ≠ b := by
    rintro rfl
    rcases hp with hp | hp
    · omega
    · exact hp cs q (0, 0) hb hq
  exact Below.heap_setCell W ⟨b, j, none⟩ v k hne
theorem FU.grown {row : Option Nat} (hg : W.grownBy W1 row) (hr : ∀ b, row = some b → g ≤ b ∧ ∃ cs q, W.heap[b]? = some (.cells cs q (0, 0)) ∧ UT q) : FU g W W1 := by
  refine ⟨hg.os, hg.tape, hg.output, hg.size, fun k hk hp => hg.block k hk ?_⟩
  intro e
  obtain ⟨h1, cs, q, h2, h3⟩ := hr k e.symm
  rcases hp with hp | hp
  · omega
  · exact hp cs q (0, 0) h2 h3
theorem FU.below {B : Nat} {w : World} (h : FU g W W1) (hb : Below B w W) (hB : B ≤ g) (hw : B ≤ W.heap.size) : Below B w W1 :=
  hb.trans ⟨h.os, h.tape, h.output, h.size, fun k hk => h.block k (Nat.lt_of_lt_of_le hk hw) (.inl (Nat.lt_of_lt_of_le hk hB))⟩
theorem FU.blk {k : Nat} {cs : Array Value} {q : Nat} (h : FU g W W1) (hb : W.heap[k]? = some (.cells cs q (0, 0))) (hq : ¬ UT q) : W1.heap[k]? = some (.cells cs q (0, 0)) :=
  (h.block k (blk_lt hb) (.inr (fun cs' q' fr hc => by rw [hb] at hc; injection hc with hc; injection hc with _ e; subst e; exact hq))).trans hb
theorem FU.row {α : Type} {d : Kd α} {e base : Nat} {ok : Nat → Prop} {v : Value} {xs : List α} (h : FU g W W1) (hr : d.R e W base ok v xs) (ht : ∀ q, q ∈ e :: d.E → ¬ UT q) : d.R e W1 base ok v xs := by
  refine Kd.R_mono (Kd.R_move (Kd.R_bound hr) (fun k hk => ?_)) (fun _ hk => hk.1)
  obtain ⟨_, _, hlt, q, hq, cells, hc⟩ := hk
  exact h.block k hlt (.inr (fun cs' q' fr hc' => by rw [hc] at hc'; injection hc' with hc'; injection hc' with _ e; subst e; exact ht q hq))
theorem FU.qrow {α : Type} {d : Kd α} {e base : Nat} {ok : Nat → Prop} {v : Value} {xs : List α} (h : FU g W W1) (hr : d.Q e W base ok v xs) (ht : ∀ q, q ∈ e :: d.E → ¬ UT q) : d.Q e W1 base ok v xs := by
  refine Kd.Q_mono (Kd.Q_move (Kd.Q_bound hr) (fun k hk => ?_)) (fun _ hk => hk.1)
  obtain ⟨_, _, hlt, q, hq, cells, hc⟩ := hk
  exact h.block k hlt (.inr (fun cs' q' fr hc' => by rw [hc] at hc'; injection hc' with hc'; injection hc' with _ e; subst e; exact ht q hq))
end
section
variable {W W1 : World} {g gs ga mb N gr base : Nat} {cap lim : Int} {bs : List S114} {L l : List Kt} {v : Value}
theorem AX.fU (h : AX W g cap lim bs) {g' : Nat} (hF : FU g' W W1) : AX W1 g cap lim bs := by
  obtain ⟨bv, fv, h1, h2, h3⟩ := h
  refine ⟨bv, fv, hF.blk h1 (by unfold UT RT; decide), hF.row h2 ?_, hF.qrow h3 ?_⟩
  · intro q hq
    have : q = 114 := by simpa [k114, Kd.iso, Kd.pair, Kd.int, Kd.string, Kd.scalar] using hq
    subst this
    unfold UT RT; decide
  · intro q hq
    have : q = 3 := by simpa [Kd.int, Kd.scalar] using hq
    subst this
    unfold UT RT; decide
theorem MapL.fU {mb N : Nat} {l : List (Int × Nat)} (h : MapL W mb N l) (hF : FU g W W1) : MapL W1 mb N l := by
  obtain ⟨es, clock, hm⟩ := h.map_
  exact h.kept (hF.block mb h.lt (.inr (fun cs q fr hc => by rw [hm] at hc; cases hc)))
theorem SX.fU (h : SX W gs ga mb N L) (hF : FU g W W1) : SX W1 gs ga mb N L :=
  ⟨hF.blk h.blk (by unfold UT RT; decide), h.map.fU hF, fun x hx => hF.blk (h.kept x hx) (by unfold UT RT; decide), h.keys, h.blks, h.low⟩
theorem SY.fU (h : SY W gs ga mb N cap lim bs l) (hF : FU g W W1) : SY W1 gs ga mb N cap lim bs l := by
  obtain ⟨⟨L, h, e⟩, ha⟩ := h
  exact ⟨⟨L, h.fU hF, e⟩, ha.fU hF⟩
theorem FS.rowG {α : Type} {d : Kd α} {e base : Nat} {ok : Nat → Prop} {v : Value} {xs : List α} (h : FS g W W1) (hr : d.R e W base ok v xs) (ht : ∀ q, q ∈ e :: d.E → ¬ ST q) : d.R e W1 base ok v xs := by
  refine Kd.R_mono (Kd.R_move (Kd.R_bound hr) (fun k hk => ?_)) (fun _ hk => hk.1)
  obtain ⟨_, _, hlt, q', hq, cells, hc⟩ := hk
  exact h.block k hlt (.inr ⟨cells, q', hc, ht q' hq⟩)
theorem RX.fS (h : RX W ga cap lim bs) (hF : FS g W W1) : RX W1 ga cap lim bs := by
  obtain ⟨v, h1, h2⟩ := h
  exact ⟨v, hF.blk h1 (by unfold ST AT; decide), hF.rowG h2 (fun q hq => by rw [kBE82 hq]; unfold ST AT; decide)⟩
theorem kKE {q : Nat} (hq : q ∈ 89 :: kK.E) : q = 89 := by simpa [kK, Kd.pair, Kd.int, Kd.scalar] using hq
theorem RS.fS (h : RS W gr ga base v L) (hF : FS g W W1) : RS W1 gr ga base v L :=
  ⟨hF.blk h.blk (by unfold ST AT; decide), hF.rowG h.row (fun q hq => by rw [kKE hq]; unfold ST AT; decide)⟩
theorem KRow.set (h : KRow W base v L) {b q : Nat} {cs : Array Value} (hb : W.heap[b]? = some (.cells cs q (0, 0))) (hq : q ≠ 89) (j : Nat) (u : Value) : KRow (W.setCell ⟨b, j, none⟩ u) base v L :=
  Kd.R_set h hb (fun q' hq' e => by subst e; exact hq (kKE hq')) j u
/-- The reference's store over its arena. -/
def RY (W : World) (gr ga base : Nat) (cap lim : Int) (bs : List S114) (l : List Kt) : Prop := (∃ v, RS W gr ga base v l) ∧ RX W ga cap lim bs ∧ base ≤ gr ∧ base ≤ ga
theorem RY.below (h : RY W gr ga base cap lim bs l) (hb : Below W.heap.size W W1) : RY W1 gr ga base cap lim bs l := by
  obtain ⟨⟨v, h⟩, ha, hz⟩ := h
  exact ⟨⟨v, h.below hb⟩, ha.below hb, hz⟩
theorem RY.fS (h : RY W gr ga base cap lim bs l) (hF : FS g W W1) : RY W1 gr ga base cap lim bs l := by
  obtain ⟨⟨v, h⟩, ha, hz⟩ := h
  exact ⟨⟨v, h.fS hF⟩, ha.fS hF, hz⟩
end
end Go.Proofs.Ytibcbeibehaeeaa.Hand
