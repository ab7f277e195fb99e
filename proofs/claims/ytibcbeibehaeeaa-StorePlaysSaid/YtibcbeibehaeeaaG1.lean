/- Joined: H0, HS, H1, H2, H3, H4. -/
import Derived.Test.YtibcbeibehaeeaaPStorePlaysx0
import Derived.Test.YtibcbeibehaeeaaG0
import Derived.Test.YtibcbeibehaeeaaGZ
import Derived.OpenShut
import Derived.Deep.QuietTactic
import Derived.BigQuiet
import Derived.BigGuardPart
/- Arenas in memory: what an arena is (its block, its rows), and what its methods leave alone. -/
set_option linter.unusedVariables false
set_option linter.unusedSimpArgs false
namespace Go.Proofs.Ytibcbeibehaeeaa.Hand
open Go.RowKit Go.Proofs.Ytibcbeibehaeeaa.PStorePlays Go.Proofs.YtibcbeibehaeeaaW.PrintWords Go.Proofs.YtibcbeibehaeeaaW.PrintLast Go.Proofs.YtibcbeibehaeeaaW.PrintMore

/-- The types of what an arena's methods write. -/
def AT (q : Nat) : Prop := q = 63 ∨ q = 114 ∨ q = 3
/-- Blocks ahead of g, and those of other types, are as they were. -/
structure Fr (g : Nat) (W W' : World) : Prop where
  os : W'.os = W.os
  tape : W'.tape = W.tape
  output : W'.output = W.output
  size : W.heap.size ≤ W'.heap.size
  block : ∀ k, k < W.heap.size → (k < g ∨ ∀ cs q fr, W.heap[k]? = some (.cells cs q fr) → ¬ AT q) → W'.heap[k]? = W.heap[k]?
section
variable {g : Nat} {W W1 W2 : World}
theorem Fr.refl (g : Nat) (W : World) : Fr g W W := ⟨rfl, rfl, rfl, Nat.le_refl _, fun _ _ _ => rfl⟩
theorem Fr.of_below (hb : Below W.heap.size W W1) : Fr g W W1 := ⟨hb.os, hb.tape, hb.output, hb.size, fun k hk _ => hb.block k hk⟩
theorem Fr.trans (h : Fr g W W1) (h' : Fr g W1 W2) : Fr g W W2 :=
  ⟨h'.os.trans h.os, h'.tape.trans h.tape, h'.output.trans h.output, Nat.le_trans h.size h'.size, fun k hk hp =>
    (h'.block k (Nat.lt_of_lt_of_le hk h.size) (hp.imp id (fun hq cs q fr hc => hq cs q fr ((h.block k hk (.inr hq)).symm.trans hc)))).trans (h.block k hk hp)⟩
theorem Fr.set {b : Nat} {cs : Array Value} {q : Nat} (hb : W.heap[b]? = some (.cells cs q (0, 0))) (hq : AT q) (hg : g ≤ b) (j : Nat) (v : Value) : Fr g W (W.setCell ⟨b, j, none⟩ v) := by
  have h := (Below.refl b W).setCell (p := ⟨b, j, none⟩) (Nat.le_refl b) v
  refine ⟨h.os, h.tape, h.output, h.size, fun k hk hp => ?_⟩
  have hne : k ≠ b := by
    rintro rfl
    rcases hp with hp | hp
    · omega
    · exact hp cs q (0, 0) hb hq
  exact Below.heap_setCell W ⟨b, j, none⟩ v k hne
theorem Fr.grown {row : Option Nat} (hg : W.grownBy W1 row) (hr : ∀ b, row = some b → g ≤ b ∧ ∃ cs q, W.heap[b]? = some (.cells cs q (0, 0)) ∧ AT q) : Fr g W W1 := by
  refine ⟨hg.os, hg.tape, hg.output, hg.size, fun k hk hp => hg.block k hk ?_⟩
  intro e
  obtain ⟨h1, cs, q, h2, h3⟩ := hr k e.symm
  rcases hp with hp | hp
  · omega
  · exact hp cs q (0, 0) h2 h3
theorem Fr.below {B : Nat} {w : World} (h : Fr g W W1) (hb : Below B w W) (hB : B ≤ g) (hw : B ≤ W.heap.size) : Below B w W1 :=
  hb.trans ⟨h.os, h.tape, h.output, h.size, fun k hk => h.block k (Nat.lt_of_lt_of_le hk hw) (.inl (Nat.lt_of_lt_of_le hk hB))⟩
theorem Fr.blk {k : Nat} {cs : Array Value} {q : Nat} (h : Fr g W W1) (hb : W.heap[k]? = some (.cells cs q (0, 0))) (hq : ¬ AT q) : W1.heap[k]? = some (.cells cs q (0, 0)) :=
  (h.block k (blk_lt hb) (.inr (fun cs' q' fr hc => by rw [hb] at hc; injection hc with hc; injection hc with _ e; subst e; exact hq))).trans hb
theorem Fr.row {α : Type} {d : Kd α} {e base : Nat} {ok : Nat → Prop} {v : Value} {xs : List α} (h : Fr g W W1) (hr : d.R e W base ok v xs) (ht : ∀ q, q ∈ e :: d.E → ¬ AT q) : d.R e W1 base ok v xs := by
  refine Kd.R_mono (Kd.R_move (Kd.R_bound hr) (fun k hk => ?_)) (fun _ hk => hk.1)
  obtain ⟨_, _, hlt, q, hq, cells, hc⟩ := hk
  exact h.block k hlt (.inr (fun cs' q' fr hc' => by rw [hc] at hc'; injection hc' with hc'; injection hc' with _ e; subst e; exact ht q hq))
end
/-- An arena: its block g, the row of its blocks, the row of its free slots. -/
def Ar (W : World) (g : Nat) (cap lim chg : Int) (bv : Value) (bs : List S114) (fv : Value) (fs : List Int) : Prop :=
  W.heap[g]? = some (.cells #[.int .i64 cap, .int .i64 lim, .int .i64 chg, bv, fv] 63 (0, 0)) ∧ k114.R 114 W g (fun _ => True) bv bs ∧ (Kd.int .i64).Q 3 W g (fun _ => True) fv fs
section
variable {W W1 : World} {g : Nat} {cap lim chg : Int} {bv fv : Value} {bs : List S114} {fs : List Int}
theorem Ar.below (h : Ar W g cap lim chg bv bs fv fs) (hb : Below W.heap.size W W1) : Ar W1 g cap lim chg bv bs fv fs := ⟨blk_below h.1 hb, Kd.R_below h.2.1 hb, Kd.Q_below h.2.2 hb⟩
theorem Ar.bne (h : Ar W g cap lim chg bv bs fv fs) : k114.R 114 W g (fun k => True ∧ k ≠ g) bv bs := Kd.R_types h.2.1 h.1 (by decide)
theorem Ar.fne (h : Ar W g cap lim chg bv bs fv fs) : (Kd.int .i64).Q 3 W g (fun k => True ∧ k ≠ g) fv fs := Kd.Q_types h.2.2 h.1 (by decide)
/-- A cell of the arena's own block is stored. -/
theorem Ar.put (h : Ar W g cap lim chg bv bs fv fs) {cap' lim' chg' : Int} {bv' fv' : Value} {bs' : List S114} {fs' : List Int} (j : Nat) (v : Value)
    (e : (#[.int .i64 cap, .int .i64 lim, .int .i64 chg, bv, fv] : Array Value).setIfInBounds j v = #[.int .i64 cap', .int .i64 lim', .int .i64 chg', bv', fv'])
    (hb : k114.R 114 W g (fun _ => True) bv' bs') (hf : (Kd.int .i64).Q 3 W g (fun _ => True) fv' fs') : Ar (W.setCell ⟨g, j, none⟩ v) g cap' lim' chg' bv' bs' fv' fs' :=
  ⟨blk_put h.1 j v e, Kd.R_mono (Kd.R_far (p := ⟨g, j, none⟩) (Kd.R_types hb h.1 (by decide)) (fun _ hk => hk.2) v) (fun _ _ => trivial), Kd.Q_mono (Kd.Q_far (p := ⟨g, j, none⟩) (Kd.Q_types hf h.1 (by decide)) (fun _ hk => hk.2) v) (fun _ _ => trivial)⟩
theorem Ar.mk' {cs : Array Value} (h : W.heap[g]? = some (.cells cs 63 (0, 0))) (j : Nat) (v : Value)
    (e : cs.setIfInBounds j v = #[.int .i64 cap, .int .i64 lim, .int .i64 chg, bv, fv])
    (hb : k114.R 114 W g (fun _ => True) bv bs) (hf : (Kd.int .i64).Q 3 W g (fun _ => True) fv fs) : Ar (W.setCell ⟨g, j, none⟩ v) g cap lim chg bv bs fv fs :=
  ⟨blk_put h j v e, Kd.R_mono (Kd.R_far (p := ⟨g, j, none⟩) (Kd.R_types hb h (by decide)) (fun _ hk => hk.2) v) (fun _ _ => trivial), Kd.Q_mono (Kd.Q_far (p := ⟨g, j, none⟩) (Kd.Q_types hf h (by decide)) (fun _ hk => hk.2) v) (fun _ _ => trivial)⟩
theorem Ar.bty (h : Ar W g cap lim chg bv bs fv fs) : ∀ k, bv.ownBlock = some k → ∃ cells, W.heap[k]? = some (.cells cells 114 (0, 0)) := by
  obtain ⟨inner, ho⟩ := Kd.R_own h.2.1
  exact own_typed ho
theorem Ar.bown (h : Ar W g cap lim chg bv bs fv fs) : ∀ k, bv.ownBlock = some k → g ≤ k ∧ ∃ cs q, W.heap[k]? = some (.cells cs q (0, 0)) ∧ AT q := by
  intro k hk
  obtain ⟨inner, ho⟩ := Kd.R_own h.2.1
  obtain ⟨cells, hc⟩ := own_typed ho k hk
  exact ⟨own_base ho k hk, cells, _, hc, .inr (.inl rfl)⟩
theorem Ar.fown (h : Ar W g cap lim chg bv bs fv fs) : ∀ k, fv.ownBlock = some k → g ≤ k ∧ ∃ cs q, W.heap[k]? = some (.cells cs q (0, 0)) ∧ AT q := by
  intro k hk
  obtain ⟨cells, hc⟩ := Kd.Q_typed h.2.2 k hk
  exact ⟨Kd.Q_base h.2.2 k hk, cells, _, hc, .inr (.inr rfl)⟩
/-- A block of an arena, by its slot. -/
def bk (bs : List S114) (i : Nat) : S114 := bs.getD i z114
theorem Ar.elem (h : Ar W g cap lim chg bv bs fv fs) (i : Nat) (hi : i < bs.length) : ∃ gb cb, bv = .slice (some ⟨gb, 0, none⟩) bs.length cb ∧ (∀ j u, [Value.int .u32 (bk bs i).f0, .int .i64 (bk bs i).f1, .string (bk bs i).f2][j]? = some u → W.cell? ⟨gb, i * 3 + j, none⟩ = some u) ∧ (∀ j, W.frozen? ⟨gb, i * 3 + j, none⟩ = false) ∧ gb ≠ g ∧ gb < W.heap.size ∧ g ≤ gb ∧ (∃ cs, W.heap[gb]? = some (.cells cs 114 (0, 0))) := by
  obtain ⟨inner, ho⟩ := Kd.R_own h.2.1
  obtain ⟨gb, cb, rfl, hgb, hgl⟩ := ho.form (by omega)
  obtain ⟨c, hc, hM, hcc, hff⟩ := Kd.R_elem h.2.1 z114 (i : Int) (by omega) (by omega)
  rw [Int.toNat_natCast] at hM hcc hff
  obtain rfl := k114_openM hM
  have hb : gb < W.heap.size := hgl
  obtain ⟨cells, hcl⟩ := own_typed ho gb rfl
  refine ⟨gb, cb, rfl, hcc, hff, ?_, hb, hgb, cells, hcl⟩
  rintro rfl
  rw [h.1] at hcl
  injection hcl with hcl
  injection hcl with _ e
  exact absurd e (by decide)
theorem Ar.bput (h : Ar W g cap lim chg bv bs fv fs) (i : Nat) (hi : i < bs.length) {gb cb : Nat} (hbv : bv = .slice (some ⟨gb, 0, none⟩) bs.length cb) (j : Nat) (hj : j < 3) (v : Value) (b' : S114)
    (hM : ([Value.int .u32 (bk bs i).f0, .int .i64 (bk bs i).f1, .string (bk bs i).f2] : List Value).take j ++ [v] ++ ([Value.int .u32 (bk bs i).f0, .int .i64 (bk bs i).f1, .string (bk bs i).f2] : List Value).drop (j + 1) = [.int .u32 b'.f0, .int .i64 b'.f1, .string b'.f2]) :
    Ar (W.setCell ⟨gb, i * 3 + j, none⟩ v) g cap lim chg bv (bs.set i b') fv fs ∧ Fr g W (W.setCell ⟨gb, i * 3 + j, none⟩ v) := by
  obtain ⟨gb', cb', e, hcc, hff, hne, hlt, hge, cells, hcl⟩ := h.elem i hi
  rw [hbv] at e
  injection e with e1 e2 e3
  injection e1 with e1
  injection e1 with e1
  subst e1
  have hR := h.2.1
  rw [hbv] at hR
  have hs := Kd.R_seg (okp := fun _ => False) hR (i : Int) (by omega) (by omega) (c := [Value.int .u32 (bk bs i).f0, .int .i64 (bk bs i).f1, .string (bk bs i).f2]) (seg := [v]) (j := j) (x' := b') rfl (by rw [Int.toNat_natCast]; exact hcc) (by show j + 1 ≤ 3; omega)
    (by rw [show j + [v].length = j + 1 from rfl, hM]; exact ⟨[.int .u32 b'.f0], [.int .i64 b'.f1, .string b'.f2], rfl, rfl, [.int .i64 b'.f1], [.string b'.f2], rfl, rfl, rfl⟩) (fun _ hk => hk.elim)
  rw [Int.toNat_natCast] at hs
  have hs1 : k114.R 114 (W.setCell ⟨gb, i * 3 + j, none⟩ v) g (fun _ => True) (.slice (some ⟨gb, 0, none⟩) bs.length cb) (bs.set i b') := hs.1
  refine ⟨⟨blk_far h.1 (fun e => hne e.symm) v, by rw [hbv]; exact hs1, ?_⟩, Fr.set hcl (.inr (.inl rfl)) hge _ v⟩
  exact Kd.Q_mono (Kd.Q_far (p := ⟨gb, i * 3 + j, none⟩) (Kd.Q_types h.2.2 hcl (by decide)) (fun _ hk => hk.2) v) (fun _ _ => trivial)
theorem Fr.setNew (h : Fr g W W1) {b : Nat} (hb : W.heap.size ≤ b) (j : Nat) (v : Value) : Fr g W (W1.setCell ⟨b, j, none⟩ v) := by
  have h2 := (Below.refl b W1).setCell (p := ⟨b, j, none⟩) (Nat.le_refl b) v
  exact ⟨h2.os.trans h.os, h2.tape.trans h.tape, h2.output.trans h.output, Nat.le_trans h.size h2.size, fun k hk hp => (Below.heap_setCell W1 ⟨b, j, none⟩ v k (show k ≠ b by omega)).trans (h.block k hk hp)⟩
/-- A cell of a block of another type is stored. -/
theorem Ar.other (h : Ar W g cap lim chg bv bs fv fs) {b q : Nat} {cs : Array Value} (hb : W.heap[b]? = some (.cells cs q (0, 0))) (hq : ¬ AT q) (j : Nat) (v : Value) : Ar (W.setCell ⟨b, j, none⟩ v) g cap lim chg bv bs fv fs := by
  refine ⟨blk_far h.1 (p := ⟨b, j, none⟩) ?_ v, Kd.R_set h.2.1 hb ?_ j v, Kd.Q_set h.2.2 hb ?_ j v⟩
  · show g ≠ b
    rintro rfl
    have h1 := h.1
    rw [hb] at h1
    injection h1 with h1
    injection h1 with _ e
    exact hq (.inl e)
  · intro q' hq' e
    subst e
    exact hq (by
      have : q' = 114 := by simpa [k114, Kd.iso, Kd.pair, Kd.int, Kd.string, Kd.scalar] using hq'
      exact .inr (.inl this))
  · intro q' hq' e
    subst e
    exact hq (by
      have : q' = 3 := by simpa [Kd.int, Kd.scalar] using hq'
      exact .inr (.inr this))
theorem Ar.fr (h : Ar W g cap lim chg bv bs fv fs) (j : Nat) (v : Value) : Fr g W (W.setCell ⟨g, j, none⟩ v) := Fr.set h.1 (.inl rfl) (Nat.le_refl g) j v
theorem Ar.lt (h : Ar W g cap lim chg bv bs fv fs) : g < W.heap.size := blk_lt h.1
theorem Ar.bval (h : Ar W g cap lim chg bv bs fv fs) : ∃ A c, bv = .slice A bs.length c := Kd.R_slice h.2.1
theorem Ar.fval (h : Ar W g cap lim chg bv bs fv fs) : ∃ A c, fv = .slice A fs.length c ∧ fs.length ≤ c := Kd.Q_slice h.2.2
end
end Go.Proofs.Ytibcbeibehaeeaa.Hand

/- Plain facts on the sizes of blocks, and the calls of package size in a closed form. -/
set_option linter.unusedVariables false
namespace Go.Proofs.Ytibcbeibehaeeaa.Hand
open Go.RowKit Go.Proofs.Ytibcbeibehaeeaa.PStorePlays Go.Proofs.YtibcbeibehaeeaaW.PrintWords Go.Proofs.YtibcbeibehaeeaaW.PrintLast Go.Proofs.YtibcbeibehaeeaaW.PrintMore

def cls (n : Int) : Int := if n < 0 then -1 else if n ≤ 16 then 0 else if n ≤ 32 then 1 else if n ≤ 64 then 2 else if n ≤ 128 then 3 else if n ≤ 256 then 4 else if n ≤ 512 then 5 else if n ≤ 1024 then 6 else -1
def rnd (n : Int) : Int := if n < 0 then 0 else if n ≤ 16 then 16 else if n ≤ 32 then 32 else if n ≤ 64 then 64 else if n ≤ 128 then 128 else if n ≤ 256 then 256 else if n ≤ 512 then 512 else if n ≤ 1024 then 1024 else 0
def fit (n : Int) : Bool := decide (0 ≤ n) && decide (n ≤ 1024)

theorem shl0 : shl .i64 16 0 = 16 := by decide
theorem shl1 : shl .i64 16 1 = 32 := by decide
theorem shl2 : shl .i64 16 2 = 64 := by decide
theorem shl3 : shl .i64 16 3 = 128 := by decide
theorem shl4 : shl .i64 16 4 = 256 := by decide
theorem shl5 : shl .i64 16 5 = 512 := by decide
theorem shl6 : shl .i64 16 6 = 1024 := by decide
theorem w01 : wrap64 (0 + 1) = 1 := by unfold wrap64; omega
theorem w12 : wrap64 (1 + 1) = 2 := by unfold wrap64; omega
theorem w23 : wrap64 (2 + 1) = 3 := by unfold wrap64; omega
theorem w34 : wrap64 (3 + 1) = 4 := by unfold wrap64; omega
theorem w45 : wrap64 (4 + 1) = 5 := by unfold wrap64; omega
theorem w56 : wrap64 (5 + 1) = 6 := by unfold wrap64; omega
theorem w67 : wrap64 (6 + 1) = 7 := by unfold wrap64; omega

theorem class_f (n : Int) : size_Class.f 10 n = some (cls n) := by
  unfold size_Class.f cls
  by_cases h : n < 0
  · simp [h, size_Class.j0]
  · rw [if_neg h, if_neg h]
    by_cases h2 : n > 1024
    · rw [decide_eq_true h2]
      simp only [size_Class.j0, if_true]
      repeat rw [if_neg (by omega)]
    · rw [decide_eq_false h2]
      simp only [size_Class.j0, Bool.false_eq_true, if_false, size_Class.l0, shl0, shl1, shl2, shl3, shl4, shl5, shl6, w01, w12, w23, w34, w45, w56]
      simp only [show (0 : Int) ≤ 0 from by decide, show (0 : Int) ≤ 1 from by decide, show (0 : Int) ≤ 2 from by decide, show (0 : Int) ≤ 3 from by decide, show (0 : Int) ≤ 4 from by decide, show (0 : Int) ≤ 5 from by decide, show (0 : Int) ≤ 6 from by decide, if_true]
      repeat' split
      all_goals first | rfl | omega

theorem round_f (n : Int) : size_Round.f 10 n = some (rnd n, fit n) := by
  unfold size_Round.f
  rw [class_f]
  simp only [Option.bind_some]
  unfold cls rnd fit
  repeat' split
  all_goals first | omega | (simp [shl0, shl1, shl2, shl3, shl4, shl5, shl6]; try omega)

theorem class_c (n : Int) (w : World) : Calls Try.prog 43 #[.int .i64 n] w fun e w' => e = .returned (.int .i64 (cls n)) ∧ Drawn0 w w' := size_Class.calls 10 n _ w (class_f n)
theorem round_c (n : Int) (w : World) : Calls Try.prog 27 #[.int .i64 n] w fun e w' => e = .returned (.tuple #[.int .i64 (rnd n), .bool (fit n)]) ∧ Drawn0 w w' := size_Round.calls 10 n _ _ w (round_f n)

def sevens : List Int := [16, 32, 64, 128, 256, 512, 1024]
theorem seven (a : Int) (h0 : 0 ≤ a) (h1 : a ≤ 1024) : (cls a = 0 ∧ rnd a = 16 ∧ a ≤ 16) ∨ (cls a = 1 ∧ rnd a = 32 ∧ 17 ≤ a ∧ a ≤ 32) ∨ (cls a = 2 ∧ rnd a = 64 ∧ 33 ≤ a ∧ a ≤ 64) ∨ (cls a = 3 ∧ rnd a = 128 ∧ 65 ≤ a ∧ a ≤ 128)
    ∨ (cls a = 4 ∧ rnd a = 256 ∧ 129 ≤ a ∧ a ≤ 256) ∨ (cls a = 5 ∧ rnd a = 512 ∧ 257 ≤ a ∧ a ≤ 512) ∨ (cls a = 6 ∧ rnd a = 1024 ∧ 513 ≤ a ∧ a ≤ 1024) := by
  unfold cls rnd
  repeat' split
  all_goals omega
theorem rnd_facts (a : Int) (h0 : 0 ≤ a) (h1 : a ≤ 1024) : a ≤ rnd a ∧ (a < 17 → rnd a = 16) ∧ (17 ≤ a → rnd a < 2 * a) ∧ rnd (rnd a) = rnd a ∧ 16 ≤ rnd a ∧ rnd a ≤ 1024 ∧ 0 ≤ cls a ∧ cls a < 7 ∧ rd sevens (cls a) = rnd a ∧ (1 ≤ cls a → rd sevens (cls a - 1) < a) := by
  rcases seven a h0 h1 with ⟨hc, hr, h⟩ | ⟨hc, hr, h⟩ | ⟨hc, hr, h⟩ | ⟨hc, hr, h⟩ | ⟨hc, hr, h⟩ | ⟨hc, hr, h⟩ | ⟨hc, hr, h⟩ <;> rw [hc, hr] <;> refine ⟨by omega, by omega, by omega, by decide, by decide, by decide, by decide, by decide, by decide, fun h2 => ?_⟩ <;>
    first | omega | (simp [rd, sevens]; omega)
theorem rnd_mono (a b : Int) (h0 : 0 ≤ a) (h1 : b ≤ 1024) (h : a ≤ b) : rnd a ≤ rnd b := by
  unfold rnd
  repeat' split
  all_goals omega
theorem fit_yes (a : Int) (h0 : 0 ≤ a) (h1 : a ≤ 1024) : fit a = true := by simp [fit, h0, h1]

def sumGo : Int → List Int → Int × Bool
  | s, [] => (s, true)
  | s, a :: r => if fit a = true then (if s + rnd a > 2147483647 then (0, false) else sumGo (s + rnd a) r) else (0, false)
def sumV (l : List Int) : Int × Bool := sumGo 0 l
def tot : List Int → Int
  | [] => 0
  | a :: r => rnd a + tot r

theorem rnd_le (a : Int) : 0 ≤ rnd a ∧ rnd a ≤ 1024 := by
  unfold rnd
  repeat' split
  all_goals omega
theorem round_k (n : Int) (k : Nat) (h : 10 ≤ k) : size_Round.f k n = some (rnd n, fit n) := at_rounds (size_Round.mono n) h (round_f n)

theorem wrap_small {x : Int} (h0 : 0 ≤ x) (h1 : x ≤ 9223372036854775807) : wrap64 x = x := by unfold wrap64; omega

theorem sumGo_ok : ∀ (l : List Int) (s : Int), (∀ a ∈ l, fit a = true) → 0 ≤ s → s + 1024 * l.length ≤ 2147483647 → sumGo s l = (s + tot l, true)
  | [], s, _, _, _ => by simp [sumGo, tot]
  | a :: r, s, h, h0, h1 => by
    have hr := rnd_le a
    simp only [List.length_cons] at h1
    rw [sumGo, if_pos (h a (by simp)), if_neg (by omega), sumGo_ok r _ (fun x hx => h x (by simp [hx])) (by omega) (by omega), tot, Int.add_assoc]
theorem sumGo_bad : ∀ (l : List Int) (s : Int) (b : Int), (∀ a ∈ l, fit a = true) → fit b = false → sumGo s (l ++ [b]) = (0, false)
  | [], s, b, _, hb => by simp [sumGo, hb]
  | a :: r, s, b, h, hb => by
    rw [List.cons_append, sumGo, if_pos (h a (by simp))]
    split
    · rfl
    · exact sumGo_bad r _ b (fun x hx => h x (by simp [hx])) hb
theorem tot_append (l m : List Int) : tot (l ++ m) = tot l + tot m := by
  induction l with
  | nil => simp [tot]
  | cons a r ih => simp [tot, ih]; omega
end Go.Proofs.Ytibcbeibehaeeaa.Hand

/- Package arena's small methods. -/
set_option linter.unusedVariables false
set_option linter.unusedSimpArgs false
namespace Go.Proofs.Ytibcbeibehaeeaa.Hand
open Go.RowKit Go.Proofs.Ytibcbeibehaeeaa.PStorePlays Go.Proofs.YtibcbeibehaeeaaW.PrintWords Go.Proofs.YtibcbeibehaeeaaW.PrintLast Go.Proofs.YtibcbeibehaeeaaW.PrintMore
theorem infoBlk : (Try.prog.info? 114).map (fun i => (i.zero, i.size, i.bytes)) = some (some (.agg #[.int .u32 0, .int .i64 0, .string ⟨#[]⟩]), 3, 32) := by kernel_rfl
set_option maxHeartbeats 1000000 in
set_option maxRecDepth 100000 in
theorem charged_c {W : World} {g : Nat} {cap lim chg : Int} {bv fv : Value} {bs : List S114} {fs : List Int} (h : Ar W g cap lim chg bv bs fv fs) : Calls Try.prog 25 #[.pointer (some ⟨g, 0, none⟩)] W fun e w' => e = .returned (.int .i64 chg) ∧ Below W.heap.size W w' := by
  have HB := Aside0.mk (Below.refl W.heap.size W)
  have h5 := h.1
  obtain ⟨Ab, cb, rfl⟩ := h.bval
  obtain ⟨Af, cf, rfl, hfl⟩ := h.fval
  have q0 := blk_cell h5 0
  have q1 := blk_cell h5 1
  have q2 := blk_cell h5 2
  have q3 := blk_cell h5 3
  have q4 := blk_cell h5 4
  have f1 := blk_frozen h5 1
  have f2 := blk_frozen h5 2
  have f3 := blk_frozen h5 3
  have f4 := blk_frozen h5 4
  have hlt := h.lt
  simp only [List.getElem?_toArray, List.getElem?_cons_zero, List.getElem?_cons_succ] at q0 q1 q2 q3 q4
  have H := Aside0.mk h
  clear h h5
  go_enter Try.func25, Try.ntmps25
  go_wp2
  go_ret
  exact ⟨rfl, (by repeat (first | (with_reducible first | exact HB.out | apply below_alloc | apply pw_below_drewN | apply below_drew1) | exact HB.out))⟩
set_option maxHeartbeats 1000000 in
set_option maxRecDepth 100000 in
theorem limit_c {W : World} {g : Nat} {cap lim chg : Int} {bv fv : Value} {bs : List S114} {fs : List Int} (h : Ar W g cap lim chg bv bs fv fs) : Calls Try.prog 31 #[.pointer (some ⟨g, 0, none⟩)] W fun e w' => e = .returned (.int .i64 lim) ∧ Below W.heap.size W w' := by
  have HB := Aside0.mk (Below.refl W.heap.size W)
  have h5 := h.1
  obtain ⟨Ab, cb, rfl⟩ := h.bval
  obtain ⟨Af, cf, rfl, hfl⟩ := h.fval
  have q0 := blk_cell h5 0
  have q1 := blk_cell h5 1
  have q2 := blk_cell h5 2
  have q3 := blk_cell h5 3
  have q4 := blk_cell h5 4
  have f1 := blk_frozen h5 1
  have f2 := blk_frozen h5 2
  have f3 := blk_frozen h5 3
  have f4 := blk_frozen h5 4
  have hlt := h.lt
  simp only [List.getElem?_toArray, List.getElem?_cons_zero, List.getElem?_cons_succ] at q0 q1 q2 q3 q4
  have H := Aside0.mk h
  clear h h5
  go_enter Try.func31, Try.ntmps31
  go_wp2
  go_ret
  exact ⟨rfl, (by repeat (first | (with_reducible first | exact HB.out | apply below_alloc | apply pw_below_drewN | apply below_drew1) | exact HB.out))⟩
set_option maxHeartbeats 1000000 in
set_option maxRecDepth 100000 in
theorem live_c {W : World} {g : Nat} {cap lim chg : Int} {bv fv : Value} {bs : List S114} {fs : List Int} (h : Ar W g cap lim chg bv bs fv fs) (hb : bs.length ≤ 4096) (hf : fs.length ≤ 4096) : Calls Try.prog 30 #[.pointer (some ⟨g, 0, none⟩)] W fun e w' => e = .returned (.int .i64 ((bs.length : Int) - (fs.length : Int))) ∧ Below W.heap.size W w' := by
  have HB := Aside0.mk (Below.refl W.heap.size W)
  have h5 := h.1
  obtain ⟨Ab, cb, rfl⟩ := h.bval
  obtain ⟨Af, cf, rfl, hfl⟩ := h.fval
  have q0 := blk_cell h5 0
  have q1 := blk_cell h5 1
  have q2 := blk_cell h5 2
  have q3 := blk_cell h5 3
  have q4 := blk_cell h5 4
  have f1 := blk_frozen h5 1
  have f2 := blk_frozen h5 2
  have f3 := blk_frozen h5 3
  have f4 := blk_frozen h5 4
  have hlt := h.lt
  simp only [List.getElem?_toArray, List.getElem?_cons_zero, List.getElem?_cons_succ] at q0 q1 q2 q3 q4
  have H := Aside0.mk h
  clear h h5
  go_enter Try.func30, Try.ntmps30
  go_wp2
  go_quiet (fail)
  go_wp2
  go_ret
  exact ⟨rfl, (by repeat (first | (with_reducible first | exact HB.out | apply below_alloc | apply pw_below_drewN | apply below_drew1) | exact HB.out))⟩
set_option maxHeartbeats 1000000 in
set_option maxRecDepth 100000 in
theorem slot_free {W : World} {g : Nat} {cap lim chg : Int} {bv fv : Value} {bs : List S114} {x : Int} {r : List Int} (h : Ar W g cap lim chg bv bs fv (x :: r)) :
    Calls Try.prog 49 #[.pointer (some ⟨g, 0, none⟩)] W fun e w' => e = .returned (.tuple #[.int .i64 x, .bool true]) ∧ ∃ fv', Ar w' g cap lim chg bv bs fv' r ∧ Fr g W w' := by
  have HB := Aside0.mk (Below.refl W.heap.size W)
  have h5 := h.1
  obtain ⟨Ab, cb, rfl⟩ := h.bval
  obtain ⟨Af, cf, rfl, hfl⟩ := h.fval
  have q0 := blk_cell h5 0
  have q1 := blk_cell h5 1
  have q2 := blk_cell h5 2
  have q3 := blk_cell h5 3
  have q4 := blk_cell h5 4
  have f1 := blk_frozen h5 1
  have f2 := blk_frozen h5 2
  have f3 := blk_frozen h5 3
  have f4 := blk_frozen h5 4
  have hlt := h.lt
  simp only [List.getElem?_toArray, List.getElem?_cons_zero, List.getElem?_cons_succ] at q0 q1 q2 q3 q4
  have H := Aside0.mk h
  clear h h5
  have hd := H.out.2.2
  have hrd := Kd.Q_reads' hd
  obtain ⟨ad, rfl, hcell⟩ := Kd.at_int hrd.2.2 0 (by omega) (by simp)
  obtain ⟨i, hi, hsz⟩ := Option.map_eq_some_iff.1 info3
  have hc0 : W.cell? ad = some (.int .i64 x) := by simpa [Addr.add, rd] using hcell
  have hcut := cut_from (P := Try.prog) 61 3 .i64 Try.underlying61 hi 1 (by simp at hsz; exact hsz.2.1) (some ad) (r.length + 1) cf 1 (by omega) (by omega)
  have hD := Kd.Q_drop (k := 1) hd (by simp)
  obtain ⟨A', hA⟩ : ∃ A', (if cf = 1 then some ad else (some ad).map (·.add (1 * 1))) = A' := ⟨_, rfl⟩
  have hsz1 : (Kd.int .i64).sz = 1 := rfl
  have e1 : (1 : Int).toNat = 1 := rfl
  rw [e1, hA] at hcut
  simp only [Nat.add_sub_cancel] at hcut
  rw [hsz1, hA] at hD
  simp only [List.length_cons, Nat.add_sub_cancel, List.drop_succ_cons, List.drop_zero] at hD
  have HD := Aside0.mk hD
  clear hD hA hd hrd hcell hsz1 e1 hsz hi
  go_enter Try.func49, Try.ntmps49
  go_wp2
  go_ret2
  exact ⟨rfl, _, H.out.put 4 _ rfl H.out.2.1 HD.out, H.out.fr 4 _⟩
set_option maxHeartbeats 1000000 in
set_option maxRecDepth 100000 in
theorem slot_full {W : World} {g : Nat} {cap lim chg : Int} {bv fv : Value} {bs : List S114} (h : Ar W g cap lim chg bv bs fv []) (hb : bs.length = 4096) :
    Calls Try.prog 49 #[.pointer (some ⟨g, 0, none⟩)] W fun e w' => e = .returned (.tuple #[.int .i64 0, .bool false]) ∧ Below W.heap.size W w' := by
  have HB := Aside0.mk (Below.refl W.heap.size W)
  have h5 := h.1
  obtain ⟨Ab, cb, rfl⟩ := h.bval
  obtain ⟨Af, cf, rfl, hfl⟩ := h.fval
  have q0 := blk_cell h5 0
  have q1 := blk_cell h5 1
  have q2 := blk_cell h5 2
  have q3 := blk_cell h5 3
  have q4 := blk_cell h5 4
  have f1 := blk_frozen h5 1
  have f2 := blk_frozen h5 2
  have f3 := blk_frozen h5 3
  have f4 := blk_frozen h5 4
  have hlt := h.lt
  simp only [List.getElem?_toArray, List.getElem?_cons_zero, List.getElem?_cons_succ] at q0 q1 q2 q3 q4
  have H := Aside0.mk h
  clear h h5
  have hbi : (bs.length : Int) = 4096 := by omega
  go_enter Try.func49, Try.ntmps49
  go_wp2
  go_ret2
  exact ⟨rfl, (by repeat (first | (with_reducible first | exact HB.out | apply below_alloc | apply pw_below_drewN | apply below_drew1) | exact HB.out))⟩
set_option maxHeartbeats 1000000 in
set_option maxRecDepth 100000 in
theorem slot_new {W : World} {g : Nat} {cap lim chg : Int} {bv fv : Value} {bs : List S114} (h : Ar W g cap lim chg bv bs fv []) (hb : bs.length < 4096) :
    Calls Try.prog 49 #[.pointer (some ⟨g, 0, none⟩)] W fun e w' => e = .returned (.tuple #[.int .i64 (bs.length : Int), .bool true]) ∧ ∃ bv', Ar w' g cap lim chg bv' (bs ++ [⟨1, 0, ⟨#[]⟩⟩]) fv [] ∧ Fr g W w' := by
  have HB := Aside0.mk (Below.refl W.heap.size W)
  have h5 := h.1
  obtain ⟨Ab, cb, rfl⟩ := h.bval
  obtain ⟨Af, cf, rfl, hfl⟩ := h.fval
  have q0 := blk_cell h5 0
  have q1 := blk_cell h5 1
  have q2 := blk_cell h5 2
  have q3 := blk_cell h5 3
  have q4 := blk_cell h5 4
  have f1 := blk_frozen h5 1
  have f2 := blk_frozen h5 2
  have f3 := blk_frozen h5 3
  have f4 := blk_frozen h5 4
  have hlt := h.lt
  simp only [List.getElem?_toArray, List.getElem?_cons_zero, List.getElem?_cons_succ] at q0 q1 q2 q3 q4
  have H := Aside0.mk h
  clear h h5
  have hbi : (bs.length : Int) < 4096 := by omega
  have hbe : ((bs.length : Int) == 4096) = false := by simp; omega
  have HS : Aside0 ((bs.length + 1) * 32 ≤ 140737488355328) := ⟨by omega⟩
  clear hb
  go_enter Try.func49, Try.ntmps49
  go_wp2_with (first | ((with_reducible refine gate_builtin (b := .append) (xs := #[.tmp 36, .tmp 38]) rfl ?_); at_builtin; refine Kd.R_append k114 (w0 := W) g rfl (.tmp 36) (.tmp 38) 60 114 (.agg #[.int .u32 0, .int .i64 0, .string ⟨#[]⟩]) 32 rfl Try.underlying60 infoBlk rfl (by decide) (by decide) (.slice Ab bs.length cb) bs (⟨1, 0, ⟨#[]⟩⟩ : S114) [.int .u32 1, .int .i64 0, .string ⟨#[]⟩] (fun _ => True) (fun _ => False) rfl rfl ?aP (fun _ hk => hk.elim) (fun _ _ => trivial) H.out.2.1 (Below.refl _ _) (Nat.le_of_lt H.out.lt) HS.out ?_; (case aP => exact ⟨[.int .u32 1], [.int .i64 0, .string ⟨#[]⟩], rfl, rfl, [.int .i64 0], [.string ⟨#[]⟩], rfl, rfl, rfl⟩); intro v1 w5 r1 b1 g1 e1; obtain ⟨A1, c1, e2⟩ := Kd.R_slice r1; subst e2; have hn := Kd.R_ne H.out.2.1 H.out.1 (by decide); have h5 := blk_grown H.out.1 g1 hn; have N5 := Aside0.mk h5; have p3 := blk_cell h5 3; have pf := blk_frozen h5 3; clear h5; simp only [List.getElem?_toArray, List.getElem?_cons_zero, List.getElem?_cons_succ] at p3; have R1 := Aside0.mk r1; have G1 := Aside0.mk g1; have E1 := Aside0.mk e1; clear r1 g1 e1 b1 hn q0 q1 q2 q3 q4))
  go_ret2
  have e3 : (bs ++ [(⟨1, 0, ⟨#[]⟩⟩ : S114)]).length = bs.length + 1 := by simp
  have R2 := R1.out
  rw [e3] at R2
  exact ⟨rfl, _, Ar.mk' N5.out 3 _ rfl R2 (Kd.Q_over' H.out.2.2 H.out.bty (by decide) G1.out), (Fr.grown G1.out H.out.bown).trans (Fr.set N5.out (.inl rfl) (Nat.le_refl g) 3 _)⟩
end Go.Proofs.Ytibcbeibehaeeaa.Hand

/- Package arena: find, Get, Put. -/
set_option linter.unusedVariables false
set_option linter.unusedSimpArgs false
namespace Go.Proofs.Ytibcbeibehaeeaa.Hand
open Go.RowKit Go.Proofs.Ytibcbeibehaeeaa.PStorePlays Go.Proofs.YtibcbeibehaeeaaW.PrintWords Go.Proofs.YtibcbeibehaeeaaW.PrintLast Go.Proofs.YtibcbeibehaeeaaW.PrintMore
set_option maxHeartbeats 1000000 in
set_option maxRecDepth 100000 in
theorem find_far {W : World} {g : Nat} {cap lim chg : Int} {bv fv : Value} {bs : List S114} {fs : List Int} (h : Ar W g cap lim chg bv bs fv fs) (i : Nat) (gen : Int) (hi : bs.length ≤ i) (hi2 : i ≤ 4294967295) :
    Calls Try.prog 52 #[.pointer (some ⟨g, 0, none⟩), .agg #[.int .u32 (i : Int), .int .u32 gen]] W fun e w' => e = .returned (.pointer none) ∧ Below W.heap.size W w' := by
  have HB := Aside0.mk (Below.refl W.heap.size W)
  have h5 := h.1
  obtain ⟨Ab, cb, rfl⟩ := h.bval
  obtain ⟨Af, cf, rfl, hfl⟩ := h.fval
  have q0 := blk_cell h5 0
  have q1 := blk_cell h5 1
  have q2 := blk_cell h5 2
  have q3 := blk_cell h5 3
  have q4 := blk_cell h5 4
  have f1 := blk_frozen h5 1
  have f2 := blk_frozen h5 2
  have f3 := blk_frozen h5 3
  have f4 := blk_frozen h5 4
  have hlt := h.lt
  simp only [List.getElem?_toArray, List.getElem?_cons_zero, List.getElem?_cons_succ] at q0 q1 q2 q3 q4
  have H := Aside0.mk h
  clear h h5
  go_enter Try.func52, Try.ntmps52
  go_wp2
  go_quiet (fail)
  go_wp2
  go_ret
  exact ⟨rfl, (by repeat (first | (with_reducible first | exact HB.out | apply below_alloc | apply pw_below_drewN | apply below_drew1) | exact HB.out))⟩
set_option maxHeartbeats 1000000 in
set_option maxRecDepth 100000 in
theorem find_dead {W : World} {g : Nat} {cap lim chg : Int} {bv fv : Value} {bs : List S114} {fs : List Int} (h : Ar W g cap lim chg bv bs fv fs) (i : Nat) (gen : Int) (hi : i < bs.length) (hl : bs.length ≤ 4096) (hd : (bk bs i).f1 ≤ 0) :
    Calls Try.prog 52 #[.pointer (some ⟨g, 0, none⟩), .agg #[.int .u32 (i : Int), .int .u32 gen]] W fun e w' => e = .returned (.pointer none) ∧ Below W.heap.size W w' := by
  obtain ⟨gb, cb, hbv, hcc, hff, hne, hlt2, hge, _⟩ := h.elem i hi
  have e0 := hcc 0 _ rfl
  have e1 := hcc 1 _ rfl
  have e2 := hcc 2 _ rfl
  rw [Nat.add_zero] at e0
  generalize bk bs i = b at *
  have HB := Aside0.mk (Below.refl W.heap.size W)
  have h5 := h.1
  subst hbv
  obtain ⟨Af, cf, rfl, hfl⟩ := h.fval
  have q0 := blk_cell h5 0
  have q1 := blk_cell h5 1
  have q2 := blk_cell h5 2
  have q3 := blk_cell h5 3
  have q4 := blk_cell h5 4
  have f1 := blk_frozen h5 1
  have f2 := blk_frozen h5 2
  have f3 := blk_frozen h5 3
  have f4 := blk_frozen h5 4
  have hlt := h.lt
  simp only [List.getElem?_toArray, List.getElem?_cons_zero, List.getElem?_cons_succ] at q0 q1 q2 q3 q4
  have H := Aside0.mk h
  clear h h5
  have hdb : decide (0 < b.f1) = false := decide_eq_false (by omega)
  go_enter Try.func52, Try.ntmps52
  go_wp2
  go_quiet (fail)
  go_wp2
  go_quiet (fail)
  go_wp2
  go_quiet (fail)
  go_wp2
  go_ret
  exact ⟨rfl, (by repeat (first | (with_reducible first | exact HB.out | apply below_alloc | apply pw_below_drewN | apply below_drew1) | exact HB.out))⟩
set_option maxHeartbeats 1000000 in
set_option maxRecDepth 100000 in
theorem find_old {W : World} {g : Nat} {cap lim chg : Int} {bv fv : Value} {bs : List S114} {fs : List Int} (h : Ar W g cap lim chg bv bs fv fs) (i : Nat) (gen : Int) (hi : i < bs.length) (hl : bs.length ≤ 4096) (hd : 0 < (bk bs i).f1) (hg : (bk bs i).f0 ≠ gen) :
    Calls Try.prog 52 #[.pointer (some ⟨g, 0, none⟩), .agg #[.int .u32 (i : Int), .int .u32 gen]] W fun e w' => e = .returned (.pointer none) ∧ Below W.heap.size W w' := by
  obtain ⟨gb, cb, hbv, hcc, hff, hne, hlt2, hge, _⟩ := h.elem i hi
  have e0 := hcc 0 _ rfl
  have e1 := hcc 1 _ rfl
  have e2 := hcc 2 _ rfl
  rw [Nat.add_zero] at e0
  generalize bk bs i = b at *
  have HB := Aside0.mk (Below.refl W.heap.size W)
  have h5 := h.1
  subst hbv
  obtain ⟨Af, cf, rfl, hfl⟩ := h.fval
  have q0 := blk_cell h5 0
  have q1 := blk_cell h5 1
  have q2 := blk_cell h5 2
  have q3 := blk_cell h5 3
  have q4 := blk_cell h5 4
  have f1 := blk_frozen h5 1
  have f2 := blk_frozen h5 2
  have f3 := blk_frozen h5 3
  have f4 := blk_frozen h5 4
  have hlt := h.lt
  simp only [List.getElem?_toArray, List.getElem?_cons_zero, List.getElem?_cons_succ] at q0 q1 q2 q3 q4
  have H := Aside0.mk h
  clear h h5
  have hdb : decide (0 < b.f1) = true := decide_eq_true hd
  have hgb : (b.f0 == gen) = false := beq_eq_false_iff_ne.2 hg
  clear hg
  go_enter Try.func52, Try.ntmps52
  go_wp2
  go_quiet (fail)
  go_wp2
  go_quiet (fail)
  go_wp2
  go_quiet (fail)
  go_wp2
  go_ret
  exact ⟨rfl, (by repeat (first | (with_reducible first | exact HB.out | apply below_alloc | apply pw_below_drewN | apply below_drew1) | exact HB.out))⟩
set_option maxHeartbeats 1000000 in
set_option maxRecDepth 100000 in
theorem find_yes {W : World} {g : Nat} {cap lim chg : Int} {bv fv : Value} {bs : List S114} {fs : List Int} (h : Ar W g cap lim chg bv bs fv fs) (i : Nat) (gen : Int) (hi : i < bs.length) (hl : bs.length ≤ 4096) (hd : 0 < (bk bs i).f1) (hg : (bk bs i).f0 = gen) (gb cb : Nat) (hbv : bv = .slice (some ⟨gb, 0, none⟩) bs.length cb) :
    Calls Try.prog 52 #[.pointer (some ⟨g, 0, none⟩), .agg #[.int .u32 (i : Int), .int .u32 gen]] W fun e w' => e = .returned (.pointer (some ⟨gb, i * 3, none⟩)) ∧ Below W.heap.size W w' := by
  obtain ⟨gb', cb', hbv', hcc, hff, hne, hlt2, hge, _⟩ := h.elem i hi
  have e0 := hcc 0 _ rfl
  have e1 := hcc 1 _ rfl
  have e2 := hcc 2 _ rfl
  rw [Nat.add_zero] at e0
  generalize bk bs i = b at *
  rw [hbv] at hbv'
  injection hbv' with e4 e5 e6
  injection e4 with e4
  injection e4 with e4
  subst e4 e6
  clear e5
  have HB := Aside0.mk (Below.refl W.heap.size W)
  have h5 := h.1
  subst hbv
  obtain ⟨Af, cf, rfl, hfl⟩ := h.fval
  have q0 := blk_cell h5 0
  have q1 := blk_cell h5 1
  have q2 := blk_cell h5 2
  have q3 := blk_cell h5 3
  have q4 := blk_cell h5 4
  have f1 := blk_frozen h5 1
  have f2 := blk_frozen h5 2
  have f3 := blk_frozen h5 3
  have f4 := blk_frozen h5 4
  have hlt := h.lt
  simp only [List.getElem?_toArray, List.getElem?_cons_zero, List.getElem?_cons_succ] at q0 q1 q2 q3 q4
  have H := Aside0.mk h
  clear h h5
  have hdb : decide (0 < b.f1) = true := decide_eq_true hd
  have hgb : (b.f0 == gen) = true := beq_iff_eq.2 hg
  clear hg
  go_enter Try.func52, Try.ntmps52
  go_wp2
  go_quiet (fail)
  go_wp2
  go_quiet (fail)
  go_wp2
  go_quiet (fail)
  go_wp2
  go_ret
  exact ⟨rfl, (by repeat (first | (with_reducible first | exact HB.out | apply below_alloc | apply pw_below_drewN | apply below_drew1) | exact HB.out))⟩
end Go.Proofs.Ytibcbeibehaeeaa.Hand

/- Package arena: Get, Put, SetLimit, New, Alloc. -/
set_option linter.unusedVariables false
set_option linter.unusedSimpArgs false
namespace Go.Proofs.Ytibcbeibehaeeaa.Hand
open Go.RowKit Go.Proofs.Ytibcbeibehaeeaa.PStorePlays Go.Proofs.YtibcbeibehaeeaaW.PrintWords Go.Proofs.YtibcbeibehaeeaaW.PrintLast Go.Proofs.YtibcbeibehaeeaaW.PrintMore

/-- Does a block live under slot i and generation gen? -/
def Lives (bs : List S114) (i : Nat) (gen : Int) : Prop := i < bs.length ∧ 0 < (bk bs i).f1 ∧ (bk bs i).f0 = gen
theorem find_no {W : World} {g : Nat} {cap lim chg : Int} {bv fv : Value} {bs : List S114} {fs : List Int} (h : Ar W g cap lim chg bv bs fv fs) (i : Nat) (gen : Int) (hl : bs.length ≤ 4096) (hi : i ≤ 4294967295) (hn : ¬ Lives bs i gen) :
    Calls Try.prog 52 #[.pointer (some ⟨g, 0, none⟩), .agg #[.int .u32 (i : Int), .int .u32 gen]] W fun e w' => e = .returned (.pointer none) ∧ Below W.heap.size W w' := by
  rcases Nat.lt_or_ge i bs.length with h1 | h1
  · rcases Int.lt_or_le 0 (bk bs i).f1 with h2 | h2
    · exact find_old h i gen h1 hl h2 (fun e => hn ⟨h1, h2, e⟩)
    · exact find_dead h i gen h1 hl h2
  · exact find_far h i gen h1 hi
set_option maxHeartbeats 1000000 in
set_option maxRecDepth 100000 in
theorem aget_no {W : World} {g : Nat} {cap lim chg : Int} {bv fv : Value} {bs : List S114} {fs : List Int} (h : Ar W g cap lim chg bv bs fv fs) (i : Nat) (gen : Int) (hl : bs.length ≤ 4096) (hi : i ≤ 4294967295) (hn : ¬ Lives bs i gen) :
    Calls Try.prog 39 #[.pointer (some ⟨g, 0, none⟩), .agg #[.int .u32 (i : Int), .int .u32 gen]] W fun e w' => e = .returned (.tuple #[.string ⟨#[]⟩, .bool false]) ∧ Below W.heap.size W w' := by
  have HB := Aside0.mk (Below.refl W.heap.size W)
  have h5 := h.1
  obtain ⟨Ab, cb, rfl⟩ := h.bval
  obtain ⟨Af, cf, rfl, hfl⟩ := h.fval
  have q0 := blk_cell h5 0
  have q1 := blk_cell h5 1
  have q2 := blk_cell h5 2
  have q3 := blk_cell h5 3
  have q4 := blk_cell h5 4
  have f1 := blk_frozen h5 1
  have f2 := blk_frozen h5 2
  have f3 := blk_frozen h5 3
  have f4 := blk_frozen h5 4
  have hlt := h.lt
  simp only [List.getElem?_toArray, List.getElem?_cons_zero, List.getElem?_cons_succ] at q0 q1 q2 q3 q4
  have H := Aside0.mk h
  clear h h5
  have HN := Aside0.mk hn
  clear hn
  go_enter Try.func39, Try.ntmps39
  go_wp2_with (first | (go_at_call 52; (with_reducible refine (find_no (H.out.below (by repeat (first | (with_reducible first | exact HB.out | apply below_alloc | apply pw_below_drewN | apply below_drew1) | exact HB.out))) i gen hl hi HN.out).mono ?_); rintro e w1 ⟨rfl, hb⟩; have n0_ := Aside0.mk (below_step (by repeat (first | (with_reducible first | exact HB.out | apply below_alloc | apply pw_below_drewN | apply below_drew1) | exact HB.out)) hb); clear HB; have HB := n0_; clear n0_))
  go_ret2
  exact ⟨rfl, (by repeat (first | (with_reducible first | exact HB.out | apply below_alloc | apply pw_below_drewN | apply below_drew1) | exact HB.out))⟩
set_option maxHeartbeats 1000000 in
set_option maxRecDepth 100000 in
theorem aget_yes {W : World} {g : Nat} {cap lim chg : Int} {bv fv : Value} {bs : List S114} {fs : List Int} (h : Ar W g cap lim chg bv bs fv fs) (i : Nat) (gen : Int) (hl : bs.length ≤ 4096) (hn : Lives bs i gen) (sx : ByteArray) (hsx : (bk bs i).f2 = sx) (fx : Int) (hfx : (bk bs i).f1 = fx) :
    Calls Try.prog 39 #[.pointer (some ⟨g, 0, none⟩), .agg #[.int .u32 (i : Int), .int .u32 gen]] W fun e w' => e = .returned (.tuple #[.string sx, .bool true]) ∧ Below W.heap.size W w' := by
  obtain ⟨hi, hd, hg⟩ := hn
  obtain ⟨gb, cb, hbv, hcc, hff, hne, hlt2, hge, _⟩ := h.elem i hi
  have e2 := hcc 2 _ rfl
  have e1 := hcc 1 _ rfl
  have ff2 := hff 2
  have HN := Aside0.mk (And.intro hi (And.intro hd hg))
  clear hcc hff
  have hsx : (bk bs i).f2 = sx := hsx
  have hfx : (bk bs i).f1 = fx := hfx
  rw [hsx] at e2
  rw [hfx] at e1
  subst hbv
  have HB := Aside0.mk (Below.refl W.heap.size W)
  have h5 := h.1
  obtain ⟨Af, cf, rfl, hfl⟩ := h.fval
  have q0 := blk_cell h5 0
  have q1 := blk_cell h5 1
  have q2 := blk_cell h5 2
  have q3 := blk_cell h5 3
  have q4 := blk_cell h5 4
  have f1 := blk_frozen h5 1
  have f2 := blk_frozen h5 2
  have f3 := blk_frozen h5 3
  have f4 := blk_frozen h5 4
  have hlt := h.lt
  simp only [List.getElem?_toArray, List.getElem?_cons_zero, List.getElem?_cons_succ] at q0 q1 q2 q3 q4
  have H := Aside0.mk h
  clear h h5
  go_enter Try.func39, Try.ntmps39
  go_wp2_with (first | (go_at_call 52; (with_reducible refine (find_yes (H.out.below (by repeat (first | (with_reducible first | exact HB.out | apply below_alloc | apply pw_below_drewN | apply below_drew1) | exact HB.out))) i gen HN.out.1 hl HN.out.2.1 HN.out.2.2 gb cb rfl).mono ?_); rintro e w1 ⟨rfl, hb⟩; have n0_ := Aside0.mk (below_step (by repeat (first | (with_reducible first | exact HB.out | apply below_alloc | apply pw_below_drewN | apply below_drew1) | exact HB.out)) hb); clear HB; have HB := n0_; clear n0_; have z1 := pw_cell_below HB.out e1; have z2 := pw_cell_below HB.out e2; have zf := (HB.out.frozen (p := ⟨gb, i * 3 + 2, none⟩) hlt2).trans ff2; have zl := Nat.lt_of_lt_of_le hlt2 (below_size HB.out)))
  go_ret2
  exact ⟨rfl, (by repeat (first | (with_reducible first | exact HB.out | apply below_alloc | apply pw_below_drewN | apply below_drew1) | exact HB.out))⟩
set_option maxHeartbeats 1000000 in
set_option maxRecDepth 100000 in
theorem anew_no (n : Int) (w : World) (hn : n < 0 ∨ 16777216 < n) : Calls Try.prog 8 #[.int .i64 n] w fun e w' => e = .returned (.pointer none) ∧ Below w.heap.size w w' := by
  have HB := Aside0.mk (Below.refl w.heap.size w)
  rcases Int.lt_or_le n 0 with h | h
  · go_enter Try.func8, Try.ntmps8
    go_wp2
    go_ret
    exact ⟨rfl, (by repeat (first | (with_reducible first | exact HB.out | apply below_alloc | apply pw_below_drewN | apply below_drew1) | exact HB.out))⟩
  · have h2 : 16777216 < n := by omega
    clear hn
    go_enter Try.func8, Try.ntmps8
    go_wp2
    go_ret
    exact ⟨rfl, (by repeat (first | (with_reducible first | exact HB.out | apply below_alloc | apply pw_below_drewN | apply below_drew1) | exact HB.out))⟩
set_option maxHeartbeats 1000000 in
set_option maxRecDepth 100000 in
theorem anew_yes (n : Int) (w : World) (h0 : 0 ≤ n) (h1 : n ≤ 16777216) : Calls Try.prog 8 #[.int .i64 n] w fun e w' => e = .returned (.pointer (some ⟨w.heap.size, 0, none⟩)) ∧ Ar w' w.heap.size n n 0 (.slice none 0 0) [] (.slice none 0 0) [] ∧ Below w.heap.size w w' := by
  have HB := Aside0.mk (Below.refl w.heap.size w)
  have z1 : decide (16777216 < n) = false := decide_eq_false (by omega)
  have z0 : decide (n < 0) = false := decide_eq_false (by omega)
  go_enter Try.func8, Try.ntmps8
  go_wp2
  go_ret
  exact ⟨rfl, ⟨blk_new w _, Kd.R_nil _ _ _ _ _, Kd.Q_nil _ _ _ _ _⟩, (by repeat (first | (with_reducible first | exact HB.out | apply below_alloc | apply pw_below_drewN | apply below_drew1) | exact HB.out))⟩
end Go.Proofs.Ytibcbeibehaeeaa.Hand

/- Package arena: Alloc. -/
set_option linter.unusedVariables false
set_option linter.unusedSimpArgs false
namespace Go.Proofs.Ytibcbeibehaeeaa.Hand
open Go.RowKit Go.Proofs.Ytibcbeibehaeeaa.PStorePlays Go.Proofs.YtibcbeibehaeeaaW.PrintWords Go.Proofs.YtibcbeibehaeeaaW.PrintLast Go.Proofs.YtibcbeibehaeeaaW.PrintMore
theorem blk_new' {w : World} {o : Obj} {g : Nat} (h : g = w.heap.size) : (w.alloc o).heap[g]? = some o := by subst h; exact blk_new w o
set_option maxHeartbeats 1000000 in
set_option maxRecDepth 100000 in
theorem alloc_arg {W : World} {g : Nat} {cap lim chg : Int} {bv fv : Value} {bs : List S114} {fs : List Int} (h : Ar W g cap lim chg bv bs fv fs) (s : ByteArray) (n : Int) (ft : Bool) (hr : rnd (s.size : Int) = n) (hft : fit (s.size : Int) = ft) (hf : ft = false) :
    Calls Try.prog 33 #[.pointer (some ⟨g, 0, none⟩), .string s] W fun e w' => e = .returned (.tuple #[.agg #[.int .u32 0, .int .u32 0], .int .i64 1]) ∧ Below W.heap.size W w' := by
  have HR := Aside0.mk hr
  have HFT := Aside0.mk hft
  clear hr hft
  have HB := Aside0.mk (Below.refl W.heap.size W)
  have h5 := h.1
  obtain ⟨Ab, cb, rfl⟩ := h.bval
  obtain ⟨Af, cf, rfl, hfl⟩ := h.fval
  have q0 := blk_cell h5 0
  have q1 := blk_cell h5 1
  have q2 := blk_cell h5 2
  have q3 := blk_cell h5 3
  have q4 := blk_cell h5 4
  have f1 := blk_frozen h5 1
  have f2 := blk_frozen h5 2
  have f3 := blk_frozen h5 3
  have f4 := blk_frozen h5 4
  have hlt := h.lt
  simp only [List.getElem?_toArray, List.getElem?_cons_zero, List.getElem?_cons_succ] at q0 q1 q2 q3 q4
  have H := Aside0.mk h
  clear h h5
  subst hf
  go_enter Try.func33, Try.ntmps33
  go_wp2_with (first | (go_at_call 27; (with_reducible refine (round_c _ _).mono ?_); rintro e w9 ⟨rfl, ⟨nd, rfl⟩⟩; rw [HR.out, HFT.out]))
  exact bodyPost_ret (v := .tuple #[.agg #[.int .u32 0, .int .u32 0], .int .i64 1]) (by simp [results, Try.results33, go_sem]) rfl ⟨rfl, (show Below W.heap.size W _ by repeat (first | (with_reducible first | exact HB.out | apply below_alloc | apply pw_below_drewN | apply below_drew1) | (refine below_set ?_ (Nat.le_refl W.heap.size)) | exact HB.out))⟩
set_option maxHeartbeats 1000000 in
set_option maxRecDepth 100000 in
theorem alloc_budget {W : World} {g : Nat} {cap lim chg : Int} {bv fv : Value} {bs : List S114} {fs : List Int} (h : Ar W g cap lim chg bv bs fv fs) (s : ByteArray) (n : Int) (ft : Bool) (hr : rnd (s.size : Int) = n) (hft : fit (s.size : Int) = ft) (hf : ft = true) (hb : lim < chg + n) (hn0 : 0 ≤ n) (hn1 : n ≤ 1024) (hc0 : 0 ≤ chg) (hc1 : chg ≤ 16777216) :
    Calls Try.prog 33 #[.pointer (some ⟨g, 0, none⟩), .string s] W fun e w' => e = .returned (.tuple #[.agg #[.int .u32 0, .int .u32 0], .int .i64 9]) ∧ Below W.heap.size W w' := by
  have HR := Aside0.mk hr
  have HFT := Aside0.mk hft
  clear hr hft
  have HB := Aside0.mk (Below.refl W.heap.size W)
  have h5 := h.1
  obtain ⟨Ab, cb, rfl⟩ := h.bval
  obtain ⟨Af, cf, rfl, hfl⟩ := h.fval
  have q0 := blk_cell h5 0
  have q1 := blk_cell h5 1
  have q2 := blk_cell h5 2
  have q3 := blk_cell h5 3
  have q4 := blk_cell h5 4
  have f1 := blk_frozen h5 1
  have f2 := blk_frozen h5 2
  have f3 := blk_frozen h5 3
  have f4 := blk_frozen h5 4
  have hlt := h.lt
  simp only [List.getElem?_toArray, List.getElem?_cons_zero, List.getElem?_cons_succ] at q0 q1 q2 q3 q4
  have H := Aside0.mk h
  clear h h5
  subst hf
  have z1 : decide (lim < chg + n) = true := decide_eq_true hb
  have hw : IntKind.i64.wrap (chg + n) = chg + n := IntWalk.i64_in _ ⟨by omega, by omega⟩
  go_enter Try.func33, Try.ntmps33
  go_wp2_with (first | (go_at_call 27; (with_reducible refine (round_c _ _).mono ?_); rintro e w9 ⟨rfl, ⟨nd, rfl⟩⟩; rw [HR.out, HFT.out]))
  go_quiet (fail)
  go_wp2
  exact bodyPost_ret (v := .tuple #[.agg #[.int .u32 0, .int .u32 0], .int .i64 9]) (by simp [results, Try.results33, go_sem]) rfl ⟨rfl, (show Below W.heap.size W _ by repeat (first | (with_reducible first | exact HB.out | apply below_alloc | apply pw_below_drewN | apply below_drew1) | (refine below_set ?_ (Nat.le_refl W.heap.size)) | exact HB.out))⟩
set_option maxHeartbeats 1000000 in
set_option maxRecDepth 100000 in
theorem alloc_full {W : World} {g : Nat} {cap lim chg : Int} {bv fv : Value} {bs : List S114} (h : Ar W g cap lim chg bv bs fv []) (s : ByteArray) (n : Int) (ft : Bool) (hr : rnd (s.size : Int) = n) (hft : fit (s.size : Int) = ft) (hf : ft = true) (hb : chg + n ≤ lim) (hn0 : 0 ≤ n) (hn1 : n ≤ 1024) (hc0 : 0 ≤ chg) (hc1 : chg ≤ 16777216) (hl : bs.length = 4096) :
    Calls Try.prog 33 #[.pointer (some ⟨g, 0, none⟩), .string s] W fun e w' => e = .returned (.tuple #[.agg #[.int .u32 0, .int .u32 0], .int .i64 11]) ∧ Below W.heap.size W w' := by
  have HR := Aside0.mk hr
  have HFT := Aside0.mk hft
  clear hr hft
  have HB := Aside0.mk (Below.refl W.heap.size W)
  have h5 := h.1
  obtain ⟨Ab, cb, rfl⟩ := h.bval
  obtain ⟨Af, cf, rfl, hfl⟩ := h.fval
  have q0 := blk_cell h5 0
  have q1 := blk_cell h5 1
  have q2 := blk_cell h5 2
  have q3 := blk_cell h5 3
  have q4 := blk_cell h5 4
  have f1 := blk_frozen h5 1
  have f2 := blk_frozen h5 2
  have f3 := blk_frozen h5 3
  have f4 := blk_frozen h5 4
  have hlt := h.lt
  simp only [List.getElem?_toArray, List.getElem?_cons_zero, List.getElem?_cons_succ] at q0 q1 q2 q3 q4
  have H := Aside0.mk h
  clear h h5
  subst hf
  have z1 : decide (lim < chg + n) = false := decide_eq_false (by omega)
  have hw : IntKind.i64.wrap (chg + n) = chg + n := IntWalk.i64_in _ ⟨by omega, by omega⟩
  go_enter Try.func33, Try.ntmps33
  go_wp2_with (first | (go_at_call 27; (with_reducible refine (round_c _ _).mono ?_); rintro e w9 ⟨rfl, ⟨nd, rfl⟩⟩; rw [HR.out, HFT.out]))
  go_quiet (fail)
  clear hw
  go_wp2_with (first | (go_at_call 49; (with_reducible refine (slot_full (H.out.below (by repeat (first | (with_reducible first | exact HB.out | apply below_alloc | apply pw_below_drewN | apply below_drew1) | exact HB.out))) hl).mono ?_); rintro e w1 ⟨rfl, hb1⟩; have B4 := Aside0.mk (blk_below (o := .cells #[.int .u32 0, .int .u32 0] 79 (0, 0)) (g := W.heap.size) (by repeat (first | (with_reducible refine blk_drewN ?_ _) | (with_reducible refine blk_drew ?_) | exact blk_new' (by first | rfl | simp) | (with_reducible refine blk_alloc ?_ _))) hb1); have n0_ := Aside0.mk (below_step (by repeat (first | (with_reducible first | exact HB.out | apply below_alloc | apply pw_below_drewN | apply below_drew1) | exact HB.out)) hb1); clear HB; have HB := n0_; clear n0_; have y0 := blk_cell B4.out 0; have y1 := blk_cell B4.out 1; have y2 := blk_frozen B4.out 0; have y3 := blk_frozen B4.out 1; have y4 := blk_lt B4.out))
  have b6 := blk_set B4.out 0 (.int .u32 0)
  have b7 := blk_set b6 1 (.int .u32 0)
  have yr0 := blk_cell b6 0
  have yr1 := blk_cell b7 1
  simp at yr0 yr1
  exact bodyPost_ret (v := .tuple #[.agg #[.int .u32 0, .int .u32 0], .int .i64 11]) (by simp [results, Try.results33, go_sem, yr0, yr1]) rfl ⟨rfl, (show Below W.heap.size W _ by repeat (first | (with_reducible first | exact HB.out | apply below_alloc | apply pw_below_drewN | apply below_drew1) | (refine below_set ?_ (Nat.le_refl W.heap.size)) | exact HB.out))⟩
set_option maxHeartbeats 2000000 in
set_option maxRecDepth 100000 in
theorem alloc_ok {W : World} {g : Nat} {cap lim chg : Int} {bv fv : Value} {bs : List S114} {fs : List Int} (h : Ar W g cap lim chg bv bs fv fs) (s : ByteArray) (n : Int) (hr : rnd (s.size : Int) = n) (hft : fit (s.size : Int) = true) (hb : chg + n ≤ lim) (hn0 : 0 ≤ n) (hn1 : n ≤ 1024) (hc0 : 0 ≤ chg) (hc1 : chg ≤ 16777216)
    (at_ : Nat) (bs' : List S114) (fs' : List Int) (gen : Int) (hat : at_ < bs'.length) (hlen : bs'.length ≤ 4096) (hgen : (bk bs' at_).f0 = gen)
    (hsl : ∀ W1, Below W.heap.size W W1 → Calls Try.prog 49 #[.pointer (some ⟨g, 0, none⟩)] W1 fun e w' => e = .returned (.tuple #[.int .i64 (at_ : Int), .bool true]) ∧ ∃ bv' fv', Ar w' g cap lim chg bv' bs' fv' fs' ∧ Fr g W1 w') :
    Calls Try.prog 33 #[.pointer (some ⟨g, 0, none⟩), .string s] W fun e w' => e = .returned (.tuple #[.agg #[.int .u32 (at_ : Int), .int .u32 gen], .int .i64 0]) ∧ ∃ bv' fv', Ar w' g cap lim (chg + n) bv' (bs'.set at_ ⟨gen, n, s⟩) fv' fs' ∧ Fr g W w' := by
  have HSL := Aside0.mk hsl
  have HGN := Aside0.mk hgen
  have HR := Aside0.mk hr
  have HFT := Aside0.mk hft
  have z1 : decide (lim < chg + n) = false := decide_eq_false (by omega)
  have at1 : (at_ : Int) ≤ 4096 := by omega
  have hati : (at_ : Int) < (bs'.length : Int) := by omega
  clear hr hft hsl hgen
  have HB := Aside0.mk (Below.refl W.heap.size W)
  have h5 := h.1
  obtain ⟨Ab, cb, rfl⟩ := h.bval
  obtain ⟨Af, cf, rfl, hfl⟩ := h.fval
  have q0 := blk_cell h5 0
  have q1 := blk_cell h5 1
  have q2 := blk_cell h5 2
  have q3 := blk_cell h5 3
  have q4 := blk_cell h5 4
  have f1 := blk_frozen h5 1
  have f2 := blk_frozen h5 2
  have f3 := blk_frozen h5 3
  have f4 := blk_frozen h5 4
  have hlt := h.lt
  simp only [List.getElem?_toArray, List.getElem?_cons_zero, List.getElem?_cons_succ] at q0 q1 q2 q3 q4
  have H := Aside0.mk h
  clear h h5
  have hw : IntKind.i64.wrap (chg + n) = chg + n := IntWalk.i64_in _ ⟨by omega, by omega⟩
  go_enter Try.func33, Try.ntmps33
  go_wp2_with (first | (go_at_call 27; (with_reducible refine (round_c _ _).mono ?_); rintro e w9 ⟨rfl, ⟨nd, rfl⟩⟩; rw [HR.out, HFT.out]))
  go_quiet (fail)
  clear hw
  go_wp2_with (first | (go_at_call 49; (with_reducible refine (HSL.out _ (by repeat (first | (with_reducible first | exact HB.out | apply below_alloc | apply pw_below_drewN | apply below_drew1) | exact HB.out))).mono ?_); rintro e w1 ⟨rfl, bv1, fv1, hA, hF⟩; have HA := Aside0.mk hA; have HF := Aside0.mk (Fr.trans (Fr.of_below (by repeat (first | (with_reducible first | exact HB.out | apply below_alloc | apply pw_below_drewN | apply below_drew1) | exact HB.out))) hF); have B4 := Aside0.mk (hF.blk (cs := #[.int .u32 0, .int .u32 0]) (q := 79) (k := W.heap.size) (by repeat (first | (with_reducible refine blk_drewN ?_ _) | (with_reducible refine blk_drew ?_) | exact blk_new' (by first | rfl | simp) | (with_reducible refine blk_alloc ?_ _))) (by unfold AT; decide)); clear hA hF q0 q1 q2 q3 q4 f1 f2 f3 f4 hlt; have y0 := blk_cell B4.out 0; have y1 := blk_cell B4.out 1; have y2 := blk_frozen B4.out 0; have y3 := blk_frozen B4.out 1; have y4 := blk_lt B4.out; obtain ⟨gb, cb1, ebv, hcc, hff, hne, hlt2, hge, csb, hcb⟩ := HA.out.elem at_ hat; subst ebv; have hx2 : W.heap.size ≠ gb := (by intro e_; have b4_ := B4.out; rw [e_, hcb] at b4_; injection b4_ with b4_; injection b4_ with _ e2_; exact absurd e2_ (by decide)); have hx1 : W.heap.size ≠ g := (by have := H.out.lt; omega); have hx3 : gb ≠ W.heap.size := (fun e => hx2 e.symm); have hx4 : g ≠ W.heap.size := (fun e => hx1 e.symm); clear hcb; have e0 := hcc 0 _ rfl; rw [HGN.out, Nat.add_zero] at e0; have ff0 := hff 0; rw [Nat.add_zero] at ff0; have e1 := hcc 1 _ rfl; have ff1 := hff 1; have e2 := hcc 2 _ rfl; have ff2 := hff 2; have q2 := blk_cell HA.out.1 2; have q3 := blk_cell HA.out.1 3; have f2 := blk_frozen HA.out.1 2; have hlt := HA.out.lt; simp only [List.getElem?_toArray, List.getElem?_cons_zero, List.getElem?_cons_succ] at q2 q3 y0 y1; have hne2 : g ≠ gb := fun e => hne e.symm; clear hcc hff))
  have hgen := HGN.out
  have p1 := HA.out.bput at_ hat rfl 1 (by decide) (.int .i64 n) ⟨gen, n, (bk bs' at_).f2⟩ (by rw [hgen]; rfl)
  have hb2 : bk (bs'.set at_ ⟨gen, n, (bk bs' at_).f2⟩) at_ = ⟨gen, n, (bk bs' at_).f2⟩ := by simp [bk, hat]
  have p2 := p1.1.bput at_ (by simpa using hat) (gb := gb) (cb := cb1) (by rw [List.length_set]) 2 (by decide) (.string s) ⟨gen, n, s⟩ (by rw [hb2]; rfl)
  have p2' := p2.1
  rw [List.set_set] at p2'
  have p3 := p2'.put 2 (.int .i64 (chg + n)) rfl p2'.2.1 p2'.2.2
  have b5 := blk_far (p := ⟨g, 2, none⟩) (blk_far (p := ⟨gb, at_ * 3 + 2, none⟩) (blk_far (p := ⟨gb, at_ * 3 + 1, none⟩) B4.out hx2 (.int .i64 n)) hx2 (.string s)) hx1 (.int .i64 (chg + n))
  have p4 := p3.other b5 (by unfold AT; decide) 0 (.int .u32 (at_ : Int))
  have b6 := blk_set b5 0 (.int .u32 (at_ : Int))
  have p5 := p4.other b6 (by unfold AT; decide) 1 (.int .u32 gen)
  have b7 := blk_set b6 1 (.int .u32 gen)
  have yr0 := blk_cell b6 0
  have yr1 := blk_cell b7 1
  have yr2 := blk_cell b7 0
  simp at yr0 yr1 yr2
  exact bodyPost_ret (v := .tuple #[.agg #[.int .u32 at_, .int .u32 gen], .int .i64 0]) (by simp [results, Try.results33, go_sem, yr0, yr1, yr2]) rfl ⟨rfl, _, _, p5, ((((HF.out.trans p1.2).trans p2.2).trans (p2'.fr 2 _)).setNew (Nat.le_refl _) 0 _).setNew (Nat.le_refl _) 1 _⟩
theorem alloc_new {W : World} {g : Nat} {cap lim chg : Int} {bv fv : Value} {bs : List S114} (h : Ar W g cap lim chg bv bs fv []) (s : ByteArray) (n : Int) (hr : rnd (s.size : Int) = n) (hft : fit (s.size : Int) = true) (hb : chg + n ≤ lim) (hn0 : 0 ≤ n) (hn1 : n ≤ 1024) (hc0 : 0 ≤ chg) (hc1 : chg ≤ 16777216) (hl : bs.length < 4096) :
    Calls Try.prog 33 #[.pointer (some ⟨g, 0, none⟩), .string s] W fun e w' => e = .returned (.tuple #[.agg #[.int .u32 (bs.length : Int), .int .u32 1], .int .i64 0]) ∧ ∃ bv' fv', Ar w' g cap lim (chg + n) bv' (bs ++ [⟨1, n, s⟩]) fv' [] ∧ Fr g W w' := by
  have k := alloc_ok h s n hr hft hb hn0 hn1 hc0 hc1 bs.length (bs ++ [⟨1, 0, ⟨#[]⟩⟩]) [] 1 (by simp) (by simp; omega) (by simp [bk]) (fun W1 hb1 => (slot_new (h.below hb1) hl).mono (by rintro e w1 ⟨rfl, bv', hA, hF⟩; exact ⟨rfl, bv', fv, hA, hF⟩))
  simpa using k
theorem alloc_free {W : World} {g : Nat} {cap lim chg : Int} {bv fv : Value} {bs : List S114} {i : Nat} {r : List Int} (h : Ar W g cap lim chg bv bs fv ((i : Int) :: r)) (s : ByteArray) (n : Int) (hr : rnd (s.size : Int) = n) (hft : fit (s.size : Int) = true) (hb : chg + n ≤ lim) (hn0 : 0 ≤ n) (hn1 : n ≤ 1024) (hc0 : 0 ≤ chg) (hc1 : chg ≤ 16777216) (hl : bs.length ≤ 4096) (hi : i < bs.length) (gen : Int) (hg : (bk bs i).f0 = gen) :
    Calls Try.prog 33 #[.pointer (some ⟨g, 0, none⟩), .string s] W fun e w' => e = .returned (.tuple #[.agg #[.int .u32 (i : Int), .int .u32 gen], .int .i64 0]) ∧ ∃ bv' fv', Ar w' g cap lim (chg + n) bv' (bs.set i ⟨gen, n, s⟩) fv' r ∧ Fr g W w' :=
  alloc_ok h s n hr hft hb hn0 hn1 hc0 hc1 i bs r gen hi hl hg (fun W1 hb1 => (slot_free (h.below hb1)).mono (by rintro e w1 ⟨rfl, fv', hA, hF⟩; exact ⟨rfl, bv, fv', hA, hF⟩))
end Go.Proofs.Ytibcbeibehaeeaa.Hand
