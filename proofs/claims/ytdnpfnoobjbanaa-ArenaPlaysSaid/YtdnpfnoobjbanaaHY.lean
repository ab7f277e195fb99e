/- The reference's arenas in memory, and its methods. -/
import Derived.Test.YtdnpfnoobjbanaaHT
import Derived.Test.YtdnpfnoobjbanaaPArenaPlaysx3
set_option linter.unusedVariables false
set_option linter.unusedSimpArgs false
namespace Go.Proofs.Ytdnpfnoobjbanaa.Hand
open Go.RowKit Go.Proofs.Ytdnpfnoobjbanaa.PArenaPlays Go.Proofs.YtdnpfnoobjbanaaW.PrintWords Go.Proofs.YtdnpfnoobjbanaaW.PrintLast Go.Proofs.YtdnpfnoobjbanaaW.PrintMore
/-- The types of what an arena's methods write. -/
def RT (q : Nat) : Prop := q = 66 ∨ q = 82
/-- Blocks ahead of g, and those of other types, are as they were. -/
structure FR (g : Nat) (W W' : World) : Prop where
  os : W'.os = W.os
  tape : W'.tape = W.tape
  output : W'.output = W.output
  size : W.heap.size ≤ W'.heap.size
  block : ∀ k, k < W.heap.size → (k < g ∨ ∀ cs q fr, W.heap[k]? = some (.cells cs q fr) → ¬ RT q) → W'.heap[k]? = W.heap[k]?
section
variable {g : Nat} {W W1 W2 : World}
theorem FR.refl (g : Nat) (W : World) : FR g W W := ⟨rfl, rfl, rfl, Nat.le_refl _, fun _ _ _ => rfl⟩
theorem FR.of_below (hb : Below W.heap.size W W1) : FR g W W1 := ⟨hb.os, hb.tape, hb.output, hb.size, fun k hk _ => hb.block k hk⟩
theorem FR.trans (h : FR g W W1) (h' : FR g W1 W2) : FR g W W2 :=
  ⟨h'.os.trans h.os, h'.tape.trans h.tape, h'.output.trans h.output, Nat.le_trans h.size h'.size, fun k hk hp =>
    (h'.block k (Nat.lt_of_lt_of_le hk h.size) (hp.imp id (fun hq cs q fr hc => hq cs q fr ((h.block k hk (.inr hq)).symm.trans hc)))).trans (h.block k hk hp)⟩
theorem FR.set {b : Nat} {cs : Array Value} {q : Nat} (hb : W.heap[b]? = some (.cells cs q (0, 0))) (hq : RT q) (hg : g ≤ b) (j : Nat) (v : Value) : FR g W (W.setCell ⟨b, j, none⟩ v) := by
  have h := (Below.refl b W).setCell (p := ⟨b, j, none⟩) (Nat.le_refl b) v
  refine ⟨h.os, h.tape, h.output, h.size, fun k hk hp => ?_⟩
  have hne : k ≠ b := by
    rintro rfl
    rcases hp with hp | hp
    · omega
    · exact hp cs q (0, 0) hb hq
  exact Below.heap_setCell W ⟨b, j, none⟩ v k hne
theorem FR.grown {row : Option Nat} (hg : W.grownBy W1 row) (hr : ∀ b, row = some b → g ≤ b ∧ ∃ cs q, W.heap[b]? = some (.cells cs q (0, 0)) ∧ RT q) : FR g W W1 := by
  refine ⟨hg.os, hg.tape, hg.output, hg.size, fun k hk hp => hg.block k hk ?_⟩
  intro e
  obtain ⟨h1, cs, q, h2, h3⟩ := hr k e.symm
  rcases hp with hp | hp
  · omega
  · exact hp cs q (0, 0) h2 h3
theorem FR.below {B : Nat} {w : World} (h : FR g W W1) (hb : Below B w W) (hB : B ≤ g) (hw : B ≤ W.heap.size) : Below B w W1 :=
  hb.trans ⟨h.os, h.tape, h.output, h.size, fun k hk => h.block k (Nat.lt_of_lt_of_le hk hw) (.inl (Nat.lt_of_lt_of_le hk hB))⟩
theorem FR.blk {k : Nat} {cs : Array Value} {q : Nat} (h : FR g W W1) (hb : W.heap[k]? = some (.cells cs q (0, 0))) (hq : ¬ RT q) : W1.heap[k]? = some (.cells cs q (0, 0)) :=
  (h.block k (blk_lt hb) (.inr (fun cs' q' fr hc => by rw [hb] at hc; injection hc with hc; injection hc with _ e; subst e; exact hq))).trans hb
theorem FR.row {α : Type} {d : Kd α} {e base : Nat} {ok : Nat → Prop} {v : Value} {xs : List α} (h : FR g W W1) (hr : d.R e W base ok v xs) (ht : ∀ q, q ∈ e :: d.E → ¬ RT q) : d.R e W1 base ok v xs := by
  refine Kd.R_mono (Kd.R_move (Kd.R_bound hr) (fun k hk => ?_)) (fun _ hk => hk.1)
  obtain ⟨_, _, hlt, q, hq, cells, hc⟩ := hk
  exact h.block k hlt (.inr (fun cs' q' fr hc' => by rw [hc] at hc'; injection hc' with hc'; injection hc' with _ e; subst e; exact ht q hq))
end
theorem FR.setNew {g : Nat} {W W1 : World} (h : FR g W W1) {b : Nat} (hb : W.heap.size ≤ b) (j : Nat) (v : Value) : FR g W (W1.setCell ⟨b, j, none⟩ v) := by
  have h2 := (Below.refl b W1).setCell (p := ⟨b, j, none⟩) (Nat.le_refl b) v
  exact ⟨h2.os.trans h.os, h2.tape.trans h.tape, h2.output.trans h.output, Nat.le_trans h.size h2.size, fun k hk hp => (Below.heap_setCell W1 ⟨b, j, none⟩ v k (show k ≠ b by omega)).trans (h.block k hk hp)⟩
theorem FR.qrow {g : Nat} {W W1 : World} {α : Type} {d : Kd α} {e base : Nat} {ok : Nat → Prop} {v : Value} {xs : List α} (h : FR g W W1) (hr : d.Q e W base ok v xs) (ht : ∀ q, q ∈ e :: d.E → ¬ RT q) : d.Q e W1 base ok v xs := by
  refine Kd.Q_mono (Kd.Q_move (Kd.Q_bound hr) (fun k hk => ?_)) (fun _ hk => hk.1)
  obtain ⟨_, _, hlt, q, hq, cells, hc⟩ := hk
  exact h.block k hlt (.inr (fun cs' q' fr hc' => by rw [hc] at hc'; injection hc' with hc'; injection hc' with _ e; subst e; exact ht q hq))
/-- The program's arena is as it was. -/
theorem AX.fR {W W1 : World} {g g' : Nat} {cap lim : Int} {bs : List S77} (h : AX W g cap lim bs) (hF : FR g' W W1) : AX W1 g cap lim bs := by
  obtain ⟨bv, fv, h1, h2, h3⟩ := h
  refine ⟨bv, fv, hF.blk h1 (by unfold RT; decide), hF.row h2 ?_, hF.qrow h3 ?_⟩
  · intro q hq
    have : q = 77 := by simpa [k77, Kd.iso, Kd.pair, Kd.int, Kd.string, Kd.scalar] using hq
    subst this
    unfold RT; decide
  · intro q hq
    have : q = 3 := by simpa [Kd.int, Kd.scalar] using hq
    subst this
    unfold RT; decide
theorem HRow.fR {W W1 : World} {g base : Nat} {v : Value} {xs : List (Int × Int)} (h : HRow W base v xs) (hF : FR g W W1) : HRow W1 base v xs := hF.row h (by
  intro q hq
  have : q = 28 := by simpa [kH, Kd.pair, Kd.int, Kd.scalar] using hq
  subst this
  unfold RT; decide)
/-- A block as the reference has it. -/
def toR (b : S77) : S82 := ⟨b.f0, decide (0 < b.f1), b.f1, b.f2⟩
def RV (W : World) (g : Nat) (cap lim : Int) (v : Value) (bs : List S77) : Prop := W.heap[g]? = some (.cells #[.int .i64 cap, .int .i64 lim, v] 66 (0, 0)) ∧ k82.R 82 W g (fun _ => True) v (bs.map toR)
/-- The reference's arena with such blocks. -/
def RX (W : World) (g : Nat) (cap lim : Int) (bs : List S77) : Prop := ∃ v, RV W g cap lim v bs
def cellsR (b : S77) : List Value := [.int .u32 b.f0, .bool (decide (0 < b.f1)), .int .i64 b.f1, .string b.f2]
section
variable {W W1 : World} {g : Nat} {cap lim : Int} {v : Value} {bs : List S77}
theorem RV.below (h : RV W g cap lim v bs) (hb : Below W.heap.size W W1) : RV W1 g cap lim v bs := ⟨blk_below h.1 hb, Kd.R_below h.2 hb⟩
theorem RX.below (h : RX W g cap lim bs) (hb : Below W.heap.size W W1) : RX W1 g cap lim bs := by
  obtain ⟨v, h⟩ := h
  exact ⟨v, h.below hb⟩
theorem k82E {q : Nat} (hq : q ∈ 82 :: k82.E) : q = 82 := by simpa [k82, Kd.iso, Kd.pair, Kd.int, Kd.string, Kd.bool, Kd.scalar] using hq
theorem RX.fr {g' : Nat} (h : RX W g cap lim bs) (hF : Fr g' W W1) : RX W1 g cap lim bs := by
  obtain ⟨v, h1, h2⟩ := h
  exact ⟨v, hF.blk h1 (by unfold AT; decide), hF.row h2 (fun q hq => by rw [k82E hq]; unfold AT; decide)⟩
theorem RX.over {u : Value} {e' : Nat} (h : RX W g cap lim bs) (hty : ∀ k, u.ownBlock = some k → ∃ cells, W.heap[k]? = some (.cells cells e' (0, 0))) (hq : ¬ RT e') (hg : W.grownBy W1 u.ownBlock) : RX W1 g cap lim bs := by
  obtain ⟨v, h1, h2⟩ := h
  refine ⟨v, blk_grown h1 hg ?_, Kd.R_over' h2 hty (fun q hq' e => hq ?_) hg⟩
  · intro e
    obtain ⟨cells, hc⟩ := hty g e.symm
    rw [hc] at h1
    injection h1 with h1
    injection h1 with _ e
    exact hq (.inl e)
  · rw [← e, k82E hq']
    exact .inr rfl
theorem RX.other {b q : Nat} {cs : Array Value} (h : RX W g cap lim bs) (hb : W.heap[b]? = some (.cells cs q (0, 0))) (hq : ¬ RT q) (j : Nat) (u : Value) : RX (W.setCell ⟨b, j, none⟩ u) g cap lim bs := by
  obtain ⟨v, h1, h2⟩ := h
  refine ⟨v, blk_far h1 (p := ⟨b, j, none⟩) ?_ u, Kd.R_set h2 hb ?_ j u⟩
  · show g ≠ b
    rintro rfl
    rw [hb] at h1
    injection h1 with h1
    injection h1 with _ e
    exact hq (.inl e)
  · intro q' hq' e
    subst e
    exact hq (.inr (k82E hq'))
theorem RV.rx (h : RV W g cap lim v bs) : RX W g cap lim bs := ⟨v, h⟩
theorem RV.val (h : RV W g cap lim v bs) : ∃ A c, v = .slice A bs.length c := by
  obtain ⟨A, c, e⟩ := Kd.R_slice h.2
  rw [List.length_map] at e
  exact ⟨A, c, e⟩
theorem RV.lt (h : RV W g cap lim v bs) : g < W.heap.size := blk_lt h.1
theorem RV.elem (h : RV W g cap lim v bs) (i : Nat) (hi : i < bs.length) : ∃ gb cb, v = .slice (some ⟨gb, 0, none⟩) bs.length cb ∧ (∀ j u, (cellsR (bk bs i))[j]? = some u → W.cell? ⟨gb, i * 4 + j, none⟩ = some u) ∧ (∀ j, W.frozen? ⟨gb, i * 4 + j, none⟩ = false) ∧ gb ≠ g ∧ gb < W.heap.size ∧ g ≤ gb ∧ (∃ cs, W.heap[gb]? = some (.cells cs 82 (0, 0))) := by
  obtain ⟨inner, ho⟩ := Kd.R_own h.2
  rw [List.length_map] at ho
  obtain ⟨gb, cb, rfl, hgb, hgl⟩ := ho.form (by omega)
  obtain ⟨c, hc, hM, hcc, hff⟩ := Kd.R_elem h.2 (toR z77) (i : Int) (by omega) (by omega)
  rw [Int.toNat_natCast] at hM hcc hff
  have e1 : (bs.map toR).getD i (toR z77) = toR (bk bs i) := by simp [bk, hi]
  rw [e1] at hM
  obtain rfl := k82_openM hM
  obtain ⟨cells, hcl⟩ := own_typed ho gb rfl
  refine ⟨gb, cb, rfl, hcc, hff, ?_, hgl, hgb, cells, hcl⟩
  rintro rfl
  have h1 := h.1
  rw [hcl] at h1
  injection h1 with h1
  injection h1 with _ e
  exact absurd e (by decide)
theorem FRv (h : RV W g cap lim v bs) (j : Nat) (u : Value) : FR g W (W.setCell ⟨g, j, none⟩ u) := FR.set h.1 (.inl rfl) (Nat.le_refl g) j u
/-- A new limit. -/
theorem RV.setlim (h : RV W g cap lim v bs) (n : Int) : RV (W.setCell ⟨g, 1, none⟩ (.int .i64 n)) g cap n v bs :=
  ⟨blk_put h.1 1 _ rfl, Kd.R_mono (Kd.R_far (p := ⟨g, 1, none⟩) (Kd.R_types h.2 h.1 (fun q hq => by rw [k82E hq]; decide)) (fun _ hk => hk.2) _) (fun _ _ => trivial)⟩
/-- Rows of blocks, whatever they are. -/
def RV' (W : World) (g : Nat) (cap lim : Int) (v : Value) (rs : List S82) : Prop := W.heap[g]? = some (.cells #[.int .i64 cap, .int .i64 lim, v] 66 (0, 0)) ∧ k82.R 82 W g (fun _ => True) v rs
def cellsS (b : S82) : List Value := [.int .u32 b.f0, .bool b.f1, .int .i64 b.f2, .string b.f3]
theorem RV'.bput {rs : List S82} (h : RV' W g cap lim v rs) (i : Nat) {b b' : S82} (hb : rs[i]? = some b) {gb cb : Nat} (hbv : v = .slice (some ⟨gb, 0, none⟩) rs.length cb) (j : Nat) (hj : j < 4) (u : Value)
    (hM : (cellsS b).take j ++ [u] ++ (cellsS b).drop (j + 1) = cellsS b') :
    RV' (W.setCell ⟨gb, i * 4 + j, none⟩ u) g cap lim v (rs.set i b') ∧ FR g W (W.setCell ⟨gb, i * 4 + j, none⟩ u) := by
  obtain ⟨hi, hbe⟩ := List.getElem?_eq_some_iff.1 hb
  have hR := h.2
  rw [hbv] at hR
  obtain ⟨inner, ho⟩ := Kd.R_own hR
  obtain ⟨cells, hcl⟩ := own_typed ho gb rfl
  have hgb : g ≤ gb := own_base ho gb rfl
  have hne : gb ≠ g := by
    rintro rfl
    have h1 := h.1
    rw [hcl] at h1
    injection h1 with h1
    injection h1 with _ e
    exact absurd e (by decide)
  obtain ⟨c, hc, hM1, hcc, hff⟩ := Kd.R_elem hR b (i : Int) (by omega) (by omega)
  rw [Int.toNat_natCast] at hM1 hcc
  rw [show rs.getD i b = b by simp [hb]] at hM1
  obtain rfl := k82_openM hM1
  have hs := Kd.R_seg (okp := fun _ => False) hR (i : Int) (by omega) (by omega) (c := cellsS b) (seg := [u]) (j := j) (x' := b') rfl (by rw [Int.toNat_natCast]; exact hcc) (by show j + 1 ≤ 4; omega)
    (by rw [show j + [u].length = j + 1 from rfl, hM]; exact ⟨[.int .u32 b'.f0], [.bool b'.f1, .int .i64 b'.f2, .string b'.f3], rfl, rfl, [.bool b'.f1], [.int .i64 b'.f2, .string b'.f3], rfl, rfl, [.int .i64 b'.f2], [.string b'.f3], rfl, rfl, rfl⟩) (fun _ hk => hk.elim)
  rw [Int.toNat_natCast] at hs
  have hs1 : k82.R 82 (W.setCell ⟨gb, i * 4 + j, none⟩ u) g (fun _ => True) (.slice (some ⟨gb, 0, none⟩) rs.length cb) (rs.set i b') := hs.1
  refine ⟨⟨blk_far h.1 (fun e => hne e.symm) u, by rw [hbv]; exact hs1⟩, FR.set hcl (.inr rfl) hgb _ u⟩
end
end Go.Proofs.Ytdnpfnoobjbanaa.Hand
