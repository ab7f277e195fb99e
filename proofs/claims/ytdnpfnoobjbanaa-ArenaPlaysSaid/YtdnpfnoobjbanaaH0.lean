/- Arenas in memory: what an arena is (its block, its rows), and what its methods leave alone. -/
import Derived.Test.YtdnpfnoobjbanaaPArenaPlaysx0
import Derived.OpenShut
set_option linter.unusedVariables false
set_option linter.unusedSimpArgs false
namespace Go.Proofs.Ytdnpfnoobjbanaa.Hand
open Go.RowKit Go.Proofs.Ytdnpfnoobjbanaa.PArenaPlays Go.Proofs.YtdnpfnoobjbanaaW.PrintWords Go.Proofs.YtdnpfnoobjbanaaW.PrintLast Go.Proofs.YtdnpfnoobjbanaaW.PrintMore

/-- The types of what an arena's methods write. -/
def AT (q : Nat) : Prop := q = 73 ∨ q = 77 ∨ q = 3
/-- Blocks ahead of g, and those of other types, are as they were. -/
structure Fr (g : Nat) (W W' : World) : Prop where
  os : W'.os = W.os
  tape : W'.tape = W.tape
  output : W'.output = W.output
  size : W.heap.size ≤ W'.heap.size
  block : ∀ k, k < W.heap.size → (k < g ∨ ∀ cs q fr, W.heap[k]? = some (.cells cs q fr) → ¬ AT q) → W'.heap[k]? = W.heap[k]?
section
variable {g : Nat} {W W1 W2 : World}
theorem Fr.refl (g : Nat) (W : World) : Fr g W W := ⟨rfl, rfl, rfl, Nat.le_refl _, fun _ _ _ => rfl⟩
theorem Fr.of_below (hb : Below W.heap.size W W1) : Fr g W W1 := ⟨hb.os, hb.tape, hb.output, hb.size, fun k hk _ => hb.block k hk⟩
theorem Fr.trans (h : Fr g W W1) (h' : Fr g W1 W2) : Fr g W W2 :=
  ⟨h'.os.trans h.os, h'.tape.trans h.tape, h'.output.trans h.output, Nat.le_trans h.size h'.size, fun k hk hp =>
    (h'.block k (Nat.lt_of_lt_of_le hk h.size) (hp.imp id (fun hq cs q fr hc => hq cs q fr ((h.block k hk (.inr hq)).symm.trans hc)))).trans (h.block k hk hp)⟩
theorem Fr.set {b : Nat} {cs : Array Value} {q : Nat} (hb : W.heap[b]? = some (.cells cs q (0, 0))) (hq : AT q) (hg : g ≤ b) (j : Nat) (v : Value) : Fr g W (W.setCell ⟨b, j, none⟩ v) := by
  have h := (Below.refl b W).setCell (p := ⟨b, j, none⟩) (Nat.le_refl b) v
  refine ⟨h.os, h.tape, h.output, h.size, fun k hk hp => ?_⟩
  have hne : k ≠ b := by
    rintro rfl
    rcases hp with hp | hp
    · omega
    · exact hp cs q (0, 0) hb hq
  exact Below.heap_setCell W ⟨b, j, none⟩ v k hne
theorem Fr.grown {row : Option Nat} (hg : W.grownBy W1 row) (hr : ∀ b, row = some b → g ≤ b ∧ ∃ cs q, W.heap[b]? = some (.cells cs q (0, 0)) ∧ AT q) : Fr g W W1 := by
  refine ⟨hg.os, hg.tape, hg.output, hg.size, fun k hk hp => hg.block k hk ?_⟩
  intro e
  obtain ⟨h1, cs, q, h2, h3⟩ := hr k e.symm
  rcases hp with hp | hp
  · omega
  · exact hp cs q (0, 0) h2 h3
theorem Fr.below {B : Nat} {w : World} (h : Fr g W W1) (hb : Below B w W) (hB : B ≤ g) (hw : B ≤ W.heap.size) : Below B w W1 :=
  hb.trans ⟨h.os, h.tape, h.output, h.size, fun k hk => h.block k (Nat.lt_of_lt_of_le hk hw) (.inl (Nat.lt_of_lt_of_le hk hB))⟩
theorem Fr.blk {k : Nat} {cs : Array Value} {q : Nat} (h : Fr g W W1) (hb : W.heap[k]? = some (.cells cs q (0, 0))) (hq : ¬ AT q) : W1.heap[k]? = some (.cells cs q (0, 0)) :=
  (h.block k (blk_lt hb) (.inr (fun cs' q' fr hc => by rw [hb] at hc; injection hc with hc; injection hc with _ e; subst e; exact hq))).trans hb
theorem Fr.row {α : Type} {d : Kd α} {e base : Nat} {ok : Nat → Prop} {v : Value} {xs : List α} (h : Fr g W W1) (hr : d.R e W base ok v xs) (ht : ∀ q, q ∈ e :: d.E → ¬ AT q) : d.R e W1 base ok v xs := by
  refine Kd.R_mono (Kd.R_move (Kd.R_bound hr) (fun k hk => ?_)) (fun _ hk => hk.1)
  obtain ⟨_, _, hlt, q, hq, cells, hc⟩ := hk
  exact h.block k hlt (.inr (fun cs' q' fr hc' => by rw [hc] at hc'; injection hc' with hc'; injection hc' with _ e; subst e; exact ht q hq))
end
/-- An arena: its block g, the row of its blocks, the row of its free slots. -/
def Ar (W : World) (g : Nat) (cap lim chg : Int) (bv : Value) (bs : List S77) (fv : Value) (fs : List Int) : Prop :=
  W.heap[g]? = some (.cells #[.int .i64 cap, .int .i64 lim, .int .i64 chg, bv, fv] 73 (0, 0)) ∧ k77.R 77 W g (fun _ => True) bv bs ∧ (Kd.int .i64).Q 3 W g (fun _ => True) fv fs
section
variable {W W1 : World} {g : Nat} {cap lim chg : Int} {bv fv : Value} {bs : List S77} {fs : List Int}
theorem Ar.below (h : Ar W g cap lim chg bv bs fv fs) (hb : Below W.heap.size W W1) : Ar W1 g cap lim chg bv bs fv fs := ⟨blk_below h.1 hb, Kd.R_below h.2.1 hb, Kd.Q_below h.2.2 hb⟩
theorem Ar.bne (h : Ar W g cap lim chg bv bs fv fs) : k77.R 77 W g (fun k => True ∧ k ≠ g) bv bs := Kd.R_types h.2.1 h.1 (by decide)
theorem Ar.fne (h : Ar W g cap lim chg bv bs fv fs) : (Kd.int .i64).Q 3 W g (fun k => True ∧ k ≠ g) fv fs := Kd.Q_types h.2.2 h.1 (by decide)
/-- A cell of the arena's own block is stored. -/
theorem Ar.put (h : Ar W g cap lim chg bv bs fv fs) {cap' lim' chg' : Int} {bv' fv' : Value} {bs' : List S77} {fs' : List Int} (j : Nat) (v : Value)
    (e : (#[.int .i64 cap, .int .i64 lim, .int .i64 chg, bv, fv] : Array Value).setIfInBounds j v = #[.int .i64 cap', .int .i64 lim', .int .i64 chg', bv', fv'])
    (hb : k77.R 77 W g (fun _ => True) bv' bs') (hf : (Kd.int .i64).Q 3 W g (fun _ => True) fv' fs') : Ar (W.setCell ⟨g, j, none⟩ v) g cap' lim' chg' bv' bs' fv' fs' :=
  ⟨blk_put h.1 j v e, Kd.R_mono (Kd.R_far (p := ⟨g, j, none⟩) (Kd.R_types hb h.1 (by decide)) (fun _ hk => hk.2) v) (fun _ _ => trivial), Kd.Q_mono (Kd.Q_far (p := ⟨g, j, none⟩) (Kd.Q_types hf h.1 (by decide)) (fun _ hk => hk.2) v) (fun _ _ => trivial)⟩
theorem Ar.mk' {cs : Array Value} (h : W.heap[g]? = some (.cells cs 73 (0, 0))) (j : Nat) (v : Value)
    (e : cs.setIfInBounds j v = #[.int .i64 cap, .int .i64 lim, .int .i64 chg, bv, fv])
    (hb : k77.R 77 W g (fun _ => True) bv bs) (hf : (Kd.int .i64).Q 3 W g (fun _ => True) fv fs) : Ar (W.setCell ⟨g, j, none⟩ v) g cap lim chg bv bs fv fs :=
  ⟨blk_put h j v e, Kd.R_mono (Kd.R_far (p := ⟨g, j, none⟩) (Kd.R_types hb h (by decide)) (fun _ hk => hk.2) v) (fun _ _ => trivial), Kd.Q_mono (Kd.Q_far (p := ⟨g, j, none⟩) (Kd.Q_types hf h (by decide)) (fun _ hk => hk.2) v) (fun _ _ => trivial)⟩
theorem Ar.bty (h : Ar W g cap lim chg bv bs fv fs) : ∀ k, bv.ownBlock = some k → ∃ cells, W.heap[k]? = some (.cells cells 77 (0, 0)) := by
  obtain ⟨inner, ho⟩ := Kd.R_own h.2.1
  exact own_typed ho
theorem Ar.bown (h : Ar W g cap lim chg bv bs fv fs) : ∀ k, bv.ownBlock = some k → g ≤ k ∧ ∃ cs q, W.heap[k]? = some (.cells cs q (0, 0)) ∧ AT q := by
  intro k hk
  obtain ⟨inner, ho⟩ := Kd.R_own h.2.1
  obtain ⟨cells, hc⟩ := own_typed ho k hk
  exact ⟨own_base ho k hk, cells, _, hc, .inr (.inl rfl)⟩
theorem Ar.fown (h : Ar W g cap lim chg bv bs fv fs) : ∀ k, fv.ownBlock = some k → g ≤ k ∧ ∃ cs q, W.heap[k]? = some (.cells cs q (0, 0)) ∧ AT q := by
  intro k hk
  obtain ⟨cells, hc⟩ := Kd.Q_typed h.2.2 k hk
  exact ⟨Kd.Q_base h.2.2 k hk, cells, _, hc, .inr (.inr rfl)⟩
/-- A block of an arena, by its slot. -/
def bk (bs : List S77) (i : Nat) : S77 := bs.getD i z77
theorem Ar.elem (h : Ar W g cap lim chg bv bs fv fs) (i : Nat) (hi : i < bs.length) : ∃ gb cb, bv = .slice (some ⟨gb, 0, none⟩) bs.length cb ∧ (∀ j u, [Value.int .u32 (bk bs i).f0, .int .i64 (bk bs i).f1, .string (bk bs i).f2][j]? = some u → W.cell? ⟨gb, i * 3 + j, none⟩ = some u) ∧ (∀ j, W.frozen? ⟨gb, i * 3 + j, none⟩ = false) ∧ gb ≠ g ∧ gb < W.heap.size ∧ g ≤ gb ∧ (∃ cs, W.heap[gb]? = some (.cells cs 77 (0, 0))) := by
  obtain ⟨inner, ho⟩ := Kd.R_own h.2.1
  obtain ⟨gb, cb, rfl, hgb, hgl⟩ := ho.form (by omega)
  obtain ⟨c, hc, hM, hcc, hff⟩ := Kd.R_elem h.2.1 z77 (i : Int) (by omega) (by omega)
  rw [Int.toNat_natCast] at hM hcc hff
  obtain rfl := k77_openM hM
  have hb : gb < W.heap.size := hgl
  obtain ⟨cells, hcl⟩ := own_typed ho gb rfl
  refine ⟨gb, cb, rfl, hcc, hff, ?_, hb, hgb, cells, hcl⟩
  rintro rfl
  rw [h.1] at hcl
  injection hcl with hcl
  injection hcl with _ e
  exact absurd e (by decide)
theorem Ar.bput (h : Ar W g cap lim chg bv bs fv fs) (i : Nat) (hi : i < bs.length) {gb cb : Nat} (hbv : bv = .slice (some ⟨gb, 0, none⟩) bs.length cb) (j : Nat) (hj : j < 3) (v : Value) (b' : S77)
    (hM : ([Value.int .u32 (bk bs i).f0, .int .i64 (bk bs i).f1, .string (bk bs i).f2] : List Value).take j ++ [v] ++ ([Value.int .u32 (bk bs i).f0, .int .i64 (bk bs i).f1, .string (bk bs i).f2] : List Value).drop (j + 1) = [.int .u32 b'.f0, .int .i64 b'.f1, .string b'.f2]) :
    Ar (W.setCell ⟨gb, i * 3 + j, none⟩ v) g cap lim chg bv (bs.set i b') fv fs ∧ Fr g W (W.setCell ⟨gb, i * 3 + j, none⟩ v) := by
  obtain ⟨gb', cb', e, hcc, hff, hne, hlt, hge, cells, hcl⟩ := h.elem i hi
  rw [hbv] at e
  injection e with e1 e2 e3
  injection e1 with e1
  injection e1 with e1
  subst e1
  have hR := h.2.1
  rw [hbv] at hR
  have hs := Kd.R_seg (okp := fun _ => False) hR (i : Int) (by omega) (by omega) (c := [Value.int .u32 (bk bs i).f0, .int .i64 (bk bs i).f1, .string (bk bs i).f2]) (seg := [v]) (j := j) (x' := b') rfl (by rw [Int.toNat_natCast]; exact hcc) (by show j + 1 ≤ 3; omega)
    (by rw [show j + [v].length = j + 1 from rfl, hM]; exact ⟨[.int .u32 b'.f0], [.int .i64 b'.f1, .string b'.f2], rfl, rfl, [.int .i64 b'.f1], [.string b'.f2], rfl, rfl, rfl⟩) (fun _ hk => hk.elim)
  rw [Int.toNat_natCast] at hs
  have hs1 : k77.R 77 (W.setCell ⟨gb, i * 3 + j, none⟩ v) g (fun _ => True) (.slice (some ⟨gb, 0, none⟩) bs.length cb) (bs.set i b') := hs.1
  refine ⟨⟨blk_far h.1 (fun e => hne e.symm) v, by rw [hbv]; exact hs1, ?_⟩, Fr.set hcl (.inr (.inl rfl)) hge _ v⟩
  exact Kd.Q_mono (Kd.Q_far (p := ⟨gb, i * 3 + j, none⟩) (Kd.Q_types h.2.2 hcl (by decide)) (fun _ hk => hk.2) v) (fun _ _ => trivial)
theorem Fr.setNew (h : Fr g W W1) {b : Nat} (hb : W.heap.size ≤ b) (j : Nat) (v : Value) : Fr g W (W1.setCell ⟨b, j, none⟩ v) := by
  have h2 := (Below.refl b W1).setCell (p := ⟨b, j, none⟩) (Nat.le_refl b) v
  exact ⟨h2.os.trans h.os, h2.tape.trans h.tape, h2.output.trans h.output, Nat.le_trans h.size h2.size, fun k hk hp => (Below.heap_setCell W1 ⟨b, j, none⟩ v k (show k ≠ b by omega)).trans (h.block k hk hp)⟩
/-- A cell of a block of another type is stored. -/
theorem Ar.other (h : Ar W g cap lim chg bv bs fv fs) {b q : Nat} {cs : Array Value} (hb : W.heap[b]? = some (.cells cs q (0, 0))) (hq : ¬ AT q) (j : Nat) (v : Value) : Ar (W.setCell ⟨b, j, none⟩ v) g cap lim chg bv bs fv fs := by
  refine ⟨blk_far h.1 (p := ⟨b, j, none⟩) ?_ v, Kd.R_set h.2.1 hb ?_ j v, Kd.Q_set h.2.2 hb ?_ j v⟩
  · show g ≠ b
    rintro rfl
    have h1 := h.1
    rw [hb] at h1
    injection h1 with h1
    injection h1 with _ e
    exact hq (.inl e)
  · intro q' hq' e
    subst e
    exact hq (by
      have : q' = 77 := by simpa [k77, Kd.iso, Kd.pair, Kd.int, Kd.string, Kd.scalar] using hq'
      exact .inr (.inl this))
  · intro q' hq' e
    subst e
    exact hq (by
      have : q' = 3 := by simpa [Kd.int, Kd.scalar] using hq'
      exact .inr (.inr this))
theorem Ar.fr (h : Ar W g cap lim chg bv bs fv fs) (j : Nat) (v : Value) : Fr g W (W.setCell ⟨g, j, none⟩ v) := Fr.set h.1 (.inl rfl) (Nat.le_refl g) j v
theorem Ar.lt (h : Ar W g cap lim chg bv bs fv fs) : g < W.heap.size := blk_lt h.1
theorem Ar.bval (h : Ar W g cap lim chg bv bs fv fs) : ∃ A c, bv = .slice A bs.length c := Kd.R_slice h.2.1
theorem Ar.fval (h : Ar W g cap lim chg bv bs fv fs) : ∃ A c, fv = .slice A fs.length c ∧ fs.length ≤ c := Kd.Q_slice h.2.2
end
end Go.Proofs.Ytdnpfnoobjbanaa.Hand
