/- Joined: HY, HZ, I1, I2, I3, I4. -/
import Derived.Test.YtibcbeibehaeeaaG2
import Derived.Test.YtibcbeibehaeeaaG1
import Derived.Deep.DeepCutAuto
/- The reference's arenas in memory, and its methods. -/
set_option linter.unusedVariables false
set_option linter.unusedSimpArgs false
namespace Go.Proofs.Ytibcbeibehaeeaa.Hand
open Go.RowKit Go.Proofs.Ytibcbeibehaeeaa.PStorePlays Go.Proofs.YtibcbeibehaeeaaW.PrintWords Go.Proofs.YtibcbeibehaeeaaW.PrintLast Go.Proofs.YtibcbeibehaeeaaW.PrintMore
/-- The types of what an arena's methods write. -/
def RT (q : Nat) : Prop := q = 66 ∨ q = 99
/-- Blocks ahead of g, and those of other types, are as they were. -/
structure FR (g : Nat) (W W' : World) : Prop where
  os : W'.os = W.os
  tape : W'.tape = W.tape
  output : W'.output = W.output
  size : W.heap.size ≤ W'.heap.size
  block : ∀ k, k < W.heap.size → (k < g ∨ ∀ cs q fr, W.heap[k]? = some (.cells cs q fr) → ¬ RT q) → W'.heap[k]? = W.heap[k]?
section
variable {g : Nat} {W W1 W2 : World}
theorem FR.refl (g : Nat) (W : World) : FR g W W := ⟨rfl, rfl, rfl, Nat.le_refl _, fun _ _ _ => rfl⟩
theorem FR.of_below (hb : Below W.heap.size W W1) : FR g W W1 := ⟨hb.os, hb.tape, hb.output, hb.size, fun k hk _ => hb.block k hk⟩
theorem FR.trans (h : FR g W W1) (h' : FR g W1 W2) : FR g W W2 :=
  ⟨h'.os.trans h.os, h'.tape.trans h.tape, h'.output.trans h.output, Nat.le_trans h.size h'.size, fun k hk hp =>
    (h'.block k (Nat.lt_of_lt_of_le hk h.size) (hp.imp id (fun hq cs q fr hc => hq cs q fr ((h.block k hk (.inr hq)).symm.trans hc)))).trans (h.block k hk hp)⟩
theorem FR.set {b : Nat} {cs : Array Value} {q : Nat} (hb : W.heap[b]? = some (.cells cs q (0, 0))) (hq : RT q) (hg : g ≤ b) (j : Nat) (v : Value) : FR g W (W.setCell ⟨b, j, none⟩ v) := by
  have h := (Below.refl b W).setCell (p := ⟨b, j, none⟩) (Nat.le_refl b) v
  refine ⟨h.os, h.tape, h.output, h.size, fun k hk hp => ?_⟩
  have hne : k ≠ b := by
    rintro rfl
    rcases hp with hp | hp
    · omega
    · exact hp cs q (0, 0) hb hq
  exact Below.heap_setCell W ⟨b, j, none⟩ v k hne
theorem FR.grown {row : Option Nat} (hg : W.grownBy W1 row) (hr : ∀ b, row = some b → g ≤ b ∧ ∃ cs q, W.heap[b]? = some (.cells cs q (0, 0)) ∧ RT q) : FR g W W1 := by
  refine ⟨hg.os, hg.tape, hg.output, hg.size, fun k hk hp => hg.block k hk ?_⟩
  intro e
  obtain ⟨h1, cs, q, h2, h3⟩ := hr k e.symm
  rcases hp with hp | hp
  · omega
  · exact hp cs q (0, 0) h2 h3
theorem FR.below {B : Nat} {w : World} (h : FR g W W1) (hb : Below B w W) (hB : B ≤ g) (hw : B ≤ W.heap.size) : Below B w W1 :=
  hb.trans ⟨h.os, h.tape, h.output, h.size, fun k hk => h.block k (Nat.lt_of_lt_of_le hk hw) (.inl (Nat.lt_of_lt_of_le hk hB))⟩
theorem FR.blk {k : Nat} {cs : Array Value} {q : Nat} (h : FR g W W1) (hb : W.heap[k]? = some (.cells cs q (0, 0))) (hq : ¬ RT q) : W1.heap[k]? = some (.cells cs q (0, 0)) :=
  (h.block k (blk_lt hb) (.inr (fun cs' q' fr hc => by rw [hb] at hc; injection hc with hc; injection hc with _ e; subst e; exact hq))).trans hb
theorem FR.row {α : Type} {d : Kd α} {e base : Nat} {ok : Nat → Prop} {v : Value} {xs : List α} (h : FR g W W1) (hr : d.R e W base ok v xs) (ht : ∀ q, q ∈ e :: d.E → ¬ RT q) : d.R e W1 base ok v xs := by
  refine Kd.R_mono (Kd.R_move (Kd.R_bound hr) (fun k hk => ?_)) (fun _ hk => hk.1)
  obtain ⟨_, _, hlt, q, hq, cells, hc⟩ := hk
  exact h.block k hlt (.inr (fun cs' q' fr hc' => by rw [hc] at hc'; injection hc' with hc'; injection hc' with _ e; subst e; exact ht q hq))
end
theorem FR.setNew {g : Nat} {W W1 : World} (h : FR g W W1) {b : Nat} (hb : W.heap.size ≤ b) (j : Nat) (v : Value) : FR g W (W1.setCell ⟨b, j, none⟩ v) := by
  have h2 := (Below.refl b W1).setCell (p := ⟨b, j, none⟩) (Nat.le_refl b) v
  exact ⟨h2.os.trans h.os, h2.tape.trans h.tape, h2.output.trans h.output, Nat.le_trans h.size h2.size, fun k hk hp => (Below.heap_setCell W1 ⟨b, j, none⟩ v k (show k ≠ b by omega)).trans (h.block k hk hp)⟩
theorem FR.qrow {g : Nat} {W W1 : World} {α : Type} {d : Kd α} {e base : Nat} {ok : Nat → Prop} {v : Value} {xs : List α} (h : FR g W W1) (hr : d.Q e W base ok v xs) (ht : ∀ q, q ∈ e :: d.E → ¬ RT q) : d.Q e W1 base ok v xs := by
  refine Kd.Q_mono (Kd.Q_move (Kd.Q_bound hr) (fun k hk => ?_)) (fun _ hk => hk.1)
  obtain ⟨_, _, hlt, q, hq, cells, hc⟩ := hk
  exact h.block k hlt (.inr (fun cs' q' fr hc' => by rw [hc] at hc'; injection hc' with hc'; injection hc' with _ e; subst e; exact ht q hq))
/-- The program's arena is as it was. -/
theorem AX.fR {W W1 : World} {g g' : Nat} {cap lim : Int} {bs : List S114} (h : AX W g cap lim bs) (hF : FR g' W W1) : AX W1 g cap lim bs := by
  obtain ⟨bv, fv, h1, h2, h3⟩ := h
  refine ⟨bv, fv, hF.blk h1 (by unfold RT; decide), hF.row h2 ?_, hF.qrow h3 ?_⟩
  · intro q hq
    have : q = 114 := by simpa [k114, Kd.iso, Kd.pair, Kd.int, Kd.string, Kd.scalar] using hq
    subst this
    unfold RT; decide
  · intro q hq
    have : q = 3 := by simpa [Kd.int, Kd.scalar] using hq
    subst this
    unfold RT; decide
theorem HRow.fR {W W1 : World} {g base : Nat} {v : Value} {xs : List (Int × Int)} (h : HRow W base v xs) (hF : FR g W W1) : HRow W1 base v xs := hF.row h (by
  intro q hq
  have : q = 79 := by simpa [kH, Kd.pair, Kd.int, Kd.scalar] using hq
  subst this
  unfold RT; decide)
/-- A block as the reference has it. -/
def toR (b : S114) : S99 := ⟨b.f0, decide (0 < b.f1), b.f1, b.f2⟩
def RV (W : World) (g : Nat) (cap lim : Int) (v : Value) (bs : List S114) : Prop := W.heap[g]? = some (.cells #[.int .i64 cap, .int .i64 lim, v] 66 (0, 0)) ∧ k99.R 99 W g (fun _ => True) v (bs.map toR)
/-- The reference's arena with such blocks. -/
def RX (W : World) (g : Nat) (cap lim : Int) (bs : List S114) : Prop := ∃ v, RV W g cap lim v bs
def cellsR (b : S114) : List Value := [.int .u32 b.f0, .bool (decide (0 < b.f1)), .int .i64 b.f1, .string b.f2]
section
variable {W W1 : World} {g : Nat} {cap lim : Int} {v : Value} {bs : List S114}
theorem RV.below (h : RV W g cap lim v bs) (hb : Below W.heap.size W W1) : RV W1 g cap lim v bs := ⟨blk_below h.1 hb, Kd.R_below h.2 hb⟩
theorem RX.below (h : RX W g cap lim bs) (hb : Below W.heap.size W W1) : RX W1 g cap lim bs := by
  obtain ⟨v, h⟩ := h
  exact ⟨v, h.below hb⟩
theorem kBE82 {q : Nat} (hq : q ∈ 99 :: k99.E) : q = 99 := by simpa [k99, Kd.iso, Kd.pair, Kd.int, Kd.string, Kd.bool, Kd.scalar] using hq
theorem RX.fr {g' : Nat} (h : RX W g cap lim bs) (hF : Fr g' W W1) : RX W1 g cap lim bs := by
  obtain ⟨v, h1, h2⟩ := h
  exact ⟨v, hF.blk h1 (by unfold AT; decide), hF.row h2 (fun q hq => by rw [kBE82 hq]; unfold AT; decide)⟩
theorem RX.over {u : Value} {e' : Nat} (h : RX W g cap lim bs) (hty : ∀ k, u.ownBlock = some k → ∃ cells, W.heap[k]? = some (.cells cells e' (0, 0))) (hq : ¬ RT e') (hg : W.grownBy W1 u.ownBlock) : RX W1 g cap lim bs := by
  obtain ⟨v, h1, h2⟩ := h
  refine ⟨v, blk_grown h1 hg ?_, Kd.R_over' h2 hty (fun q hq' e => hq ?_) hg⟩
  · intro e
    obtain ⟨cells, hc⟩ := hty g e.symm
    rw [hc] at h1
    injection h1 with h1
    injection h1 with _ e
    exact hq (.inl e)
  · rw [← e, kBE82 hq']
    exact .inr rfl
theorem RX.other {b q : Nat} {cs : Array Value} (h : RX W g cap lim bs) (hb : W.heap[b]? = some (.cells cs q (0, 0))) (hq : ¬ RT q) (j : Nat) (u : Value) : RX (W.setCell ⟨b, j, none⟩ u) g cap lim bs := by
  obtain ⟨v, h1, h2⟩ := h
  refine ⟨v, blk_far h1 (p := ⟨b, j, none⟩) ?_ u, Kd.R_set h2 hb ?_ j u⟩
  · show g ≠ b
    rintro rfl
    rw [hb] at h1
    injection h1 with h1
    injection h1 with _ e
    exact hq (.inl e)
  · intro q' hq' e
    subst e
    exact hq (.inr (kBE82 hq'))
theorem RV.rx (h : RV W g cap lim v bs) : RX W g cap lim bs := ⟨v, h⟩
theorem RV.val (h : RV W g cap lim v bs) : ∃ A c, v = .slice A bs.length c := by
  obtain ⟨A, c, e⟩ := Kd.R_slice h.2
  rw [List.length_map] at e
  exact ⟨A, c, e⟩
theorem RV.lt (h : RV W g cap lim v bs) : g < W.heap.size := blk_lt h.1
theorem RV.elem (h : RV W g cap lim v bs) (i : Nat) (hi : i < bs.length) : ∃ gb cb, v = .slice (some ⟨gb, 0, none⟩) bs.length cb ∧ (∀ j u, (cellsR (bk bs i))[j]? = some u → W.cell? ⟨gb, i * 4 + j, none⟩ = some u) ∧ (∀ j, W.frozen? ⟨gb, i * 4 + j, none⟩ = false) ∧ gb ≠ g ∧ gb < W.heap.size ∧ g ≤ gb ∧ (∃ cs, W.heap[gb]? = some (.cells cs 99 (0, 0))) := by
  obtain ⟨inner, ho⟩ := Kd.R_own h.2
  rw [List.length_map] at ho
  obtain ⟨gb, cb, rfl, hgb, hgl⟩ := ho.form (by omega)
  obtain ⟨c, hc, hM, hcc, hff⟩ := Kd.R_elem h.2 (toR z114) (i : Int) (by omega) (by omega)
  rw [Int.toNat_natCast] at hM hcc hff
  have e1 : (bs.map toR).getD i (toR z114) = toR (bk bs i) := by simp [bk, hi]
  rw [e1] at hM
  obtain rfl := k99_openM hM
  obtain ⟨cells, hcl⟩ := own_typed ho gb rfl
  refine ⟨gb, cb, rfl, hcc, hff, ?_, hgl, hgb, cells, hcl⟩
  rintro rfl
  have h1 := h.1
  rw [hcl] at h1
  injection h1 with h1
  injection h1 with _ e
  exact absurd e (by decide)
theorem FRv (h : RV W g cap lim v bs) (j : Nat) (u : Value) : FR g W (W.setCell ⟨g, j, none⟩ u) := FR.set h.1 (.inl rfl) (Nat.le_refl g) j u
/-- A new limit. -/
theorem RV.setlim (h : RV W g cap lim v bs) (n : Int) : RV (W.setCell ⟨g, 1, none⟩ (.int .i64 n)) g cap n v bs :=
  ⟨blk_put h.1 1 _ rfl, Kd.R_mono (Kd.R_far (p := ⟨g, 1, none⟩) (Kd.R_types h.2 h.1 (fun q hq => by rw [kBE82 hq]; decide)) (fun _ hk => hk.2) _) (fun _ _ => trivial)⟩
/-- Rows of blocks, whatever they are. -/
def RV' (W : World) (g : Nat) (cap lim : Int) (v : Value) (rs : List S99) : Prop := W.heap[g]? = some (.cells #[.int .i64 cap, .int .i64 lim, v] 66 (0, 0)) ∧ k99.R 99 W g (fun _ => True) v rs
def cellsS (b : S99) : List Value := [.int .u32 b.f0, .bool b.f1, .int .i64 b.f2, .string b.f3]
theorem RV'.bput {rs : List S99} (h : RV' W g cap lim v rs) (i : Nat) {b b' : S99} (hb : rs[i]? = some b) {gb cb : Nat} (hbv : v = .slice (some ⟨gb, 0, none⟩) rs.length cb) (j : Nat) (hj : j < 4) (u : Value)
    (hM : (cellsS b).take j ++ [u] ++ (cellsS b).drop (j + 1) = cellsS b') :
    RV' (W.setCell ⟨gb, i * 4 + j, none⟩ u) g cap lim v (rs.set i b') ∧ FR g W (W.setCell ⟨gb, i * 4 + j, none⟩ u) := by
  obtain ⟨hi, hbe⟩ := List.getElem?_eq_some_iff.1 hb
  have hR := h.2
  rw [hbv] at hR
  obtain ⟨inner, ho⟩ := Kd.R_own hR
  obtain ⟨cells, hcl⟩ := own_typed ho gb rfl
  have hgb : g ≤ gb := own_base ho gb rfl
  have hne : gb ≠ g := by
    rintro rfl
    have h1 := h.1
    rw [hcl] at h1
    injection h1 with h1
    injection h1 with _ e
    exact absurd e (by decide)
  obtain ⟨c, hc, hM1, hcc, hff⟩ := Kd.R_elem hR b (i : Int) (by omega) (by omega)
  rw [Int.toNat_natCast] at hM1 hcc
  rw [show rs.getD i b = b by simp [hb]] at hM1
  obtain rfl := k99_openM hM1
  have hs := Kd.R_seg (okp := fun _ => False) hR (i : Int) (by omega) (by omega) (c := cellsS b) (seg := [u]) (j := j) (x' := b') rfl (by rw [Int.toNat_natCast]; exact hcc) (by show j + 1 ≤ 4; omega)
    (by rw [show j + [u].length = j + 1 from rfl, hM]; exact ⟨[.int .u32 b'.f0], [.bool b'.f1, .int .i64 b'.f2, .string b'.f3], rfl, rfl, [.bool b'.f1], [.int .i64 b'.f2, .string b'.f3], rfl, rfl, [.int .i64 b'.f2], [.string b'.f3], rfl, rfl, rfl⟩) (fun _ hk => hk.elim)
  rw [Int.toNat_natCast] at hs
  have hs1 : k99.R 99 (W.setCell ⟨gb, i * 4 + j, none⟩ u) g (fun _ => True) (.slice (some ⟨gb, 0, none⟩) rs.length cb) (rs.set i b') := hs.1
  refine ⟨⟨blk_far h.1 (fun e => hne e.symm) u, by rw [hbv]; exact hs1⟩, FR.set hcl (.inr rfl) hgb _ u⟩
end
end Go.Proofs.Ytibcbeibehaeeaa.Hand

/- The reference's Class, Round and Sum answer as package size does. -/
set_option linter.unusedVariables false
namespace Go.Proofs.Ytibcbeibehaeeaa.Hand
open Go.RowKit Go.Proofs.Ytibcbeibehaeeaa.PStorePlays Go.Proofs.YtibcbeibehaeeaaW.PrintWords Go.Proofs.YtibcbeibehaeeaaW.PrintLast Go.Proofs.YtibcbeibehaeeaaW.PrintMore

theorem rd0 : rd [16, 32, 64, 128, 256, 512, 1024] 0 = 16 := by decide
theorem rd1 : rd [16, 32, 64, 128, 256, 512, 1024] 1 = 32 := by decide
theorem rd2 : rd [16, 32, 64, 128, 256, 512, 1024] 2 = 64 := by decide
theorem rd3 : rd [16, 32, 64, 128, 256, 512, 1024] 3 = 128 := by decide
theorem rd4 : rd [16, 32, 64, 128, 256, 512, 1024] 4 = 256 := by decide
theorem rd5 : rd [16, 32, 64, 128, 256, 512, 1024] 5 = 512 := by decide
theorem rd6 : rd [16, 32, 64, 128, 256, 512, 1024] 6 = 1024 := by decide
theorem len7 : (([16, 32, 64, 128, 256, 512, 1024] : List Int).length : Int) = 7 := by decide

theorem rclass_f (n : Int) : jettisonref01_Class.f 20 n = some (cls n) := by
  unfold jettisonref01_Class.f jettisonref01_Classes.f
  simp only [Option.bind_some]
  by_cases h : n < 0
  · simp only [jettisonref01_Class.l0, jettisonref01_Class.j1, len7]
    rw [if_pos (by decide), decide_eq_false (by omega), if_neg (by decide)]
    simp [cls, h]
  · simp only [jettisonref01_Class.l0, jettisonref01_Class.j1, len7, rd0, rd1, rd2, rd3, rd4, rd5, rd6, w01, w12, w23, w34, w45, w56, w67, decide_eq_true (show n ≥ 0 by omega), if_true]
    simp only [show (0 : Int) ≤ 0 from by decide, show (0 : Int) ≤ 1 from by decide, show (0 : Int) ≤ 2 from by decide, show (0 : Int) ≤ 3 from by decide, show (0 : Int) ≤ 4 from by decide, show (0 : Int) ≤ 5 from by decide, show (0 : Int) ≤ 6 from by decide, show (0 : Int) < 7 from by decide, show (1 : Int) < 7 from by decide, show (2 : Int) < 7 from by decide, show (3 : Int) < 7 from by decide, show (4 : Int) < 7 from by decide, show (5 : Int) < 7 from by decide, show (6 : Int) < 7 from by decide, show ¬ (7 : Int) < 7 from by decide, if_true, if_false, Bool.false_eq_true]
    unfold cls
    repeat' split
    all_goals first | rfl | omega

theorem rround_f (n : Int) : jettisonref01_Round.f 20 n = some (rnd n, fit n) := by
  unfold jettisonref01_Round.f
  rw [rclass_f]
  simp only [Option.bind_some, jettisonref01_Classes.f]
  unfold cls rnd fit
  repeat' split
  all_goals first | omega | (simp [rd] at *; try omega)
theorem rround_k (n : Int) (k : Nat) (h : 20 ≤ k) : jettisonref01_Round.f k n = some (rnd n, fit n) := at_rounds (jettisonref01_Round.mono n) h (rround_f n)

theorem rclass_c (n : Int) (w : World) : Calls Try.prog 64 #[.int .i64 n] w fun e w' => e = .returned (.int .i64 (cls n)) ∧ Below w.heap.size w w' := jettisonref01_Class.calls 20 n _ w (rclass_f n)
theorem rround_c (n : Int) (w : World) : Calls Try.prog 51 #[.int .i64 n] w fun e w' => e = .returned (.tuple #[.int .i64 (rnd n), .bool (fit n)]) ∧ Below w.heap.size w w' := jettisonref01_Round.calls 20 n _ _ w (rround_f n)
theorem rclasses_c (w : World) : Calls Try.prog 65 #[] w fun e w' => ∃ v, e = .returned v ∧ Kd.R (Kd.int .i64) 3 w' w.heap.size (fun _ => True) v sevens ∧ Below w.heap.size w w' :=
  jettisonref01_Classes.calls sevens w rfl
end Go.Proofs.Ytibcbeibehaeeaa.Hand

/- The reference's arena: its methods. -/
set_option linter.unusedVariables false
set_option linter.unusedSimpArgs false
namespace Go.Proofs.Ytibcbeibehaeeaa.Hand
open Go.RowKit Go.Proofs.Ytibcbeibehaeeaa.PStorePlays Go.Proofs.YtibcbeibehaeeaaW.PrintWords Go.Proofs.YtibcbeibehaeeaaW.PrintLast Go.Proofs.YtibcbeibehaeeaaW.PrintMore
theorem sumOf_take (bs : List S114) (i : Nat) (hi : i < bs.length) : sumOf (bs.take (i + 1)) = sumOf (bs.take i) + (bk bs i).f1 := by
  rw [List.take_succ_eq_append_getElem hi, sumOf_app]
  simp [sumOf, bk, hi]
theorem liveOf_take (bs : List S114) (i : Nat) (hi : i < bs.length) : liveOf (bs.take (i + 1)) = liveOf (bs.take i) + (if (bk bs i).f1 ≤ 0 then 0 else 1) := by
  rw [List.take_succ_eq_append_getElem hi, liveOf_app]
  simp [liveOf, bk, hi]
theorem liveOf_le : ∀ bs : List S114, liveOf bs ≤ bs.length
  | [] => by simp [liveOf]
  | b :: r => by
    have := liveOf_le r
    simp only [liveOf, List.length_cons]
    split <;> omega
set_option maxHeartbeats 1000000 in
set_option maxRecDepth 100000 in
theorem rc_charged {W : World} {g : Nat} {cap lim : Int} {bs : List S114} (h : RX W g cap lim bs) (hg : Good bs) : Calls Try.prog 26 #[.pointer (some ⟨g, 0, none⟩)] W fun e w' => e = .returned (.int .i64 (sumOf bs : Int)) ∧ w' = W := by
  have HB := Aside0.mk (Below.refl W.heap.size W)
  obtain ⟨v, h⟩ := h
  have h5 := h.1
  have q0 := blk_cell h5 0
  have q1 := blk_cell h5 1
  have q2 := blk_cell h5 2
  have f1 := blk_frozen h5 1
  have f2 := blk_frozen h5 2
  have hlt := h.lt
  simp only [List.getElem?_toArray, List.getElem?_cons_zero, List.getElem?_cons_succ] at q0 q1 q2
  have hlen := hg.len
  obtain ⟨A, c, hv⟩ := h.val
  rw [hv] at q2
  have H := Aside0.mk h
  have HV := Aside0.mk hv
  have HG := Aside0.mk hg
  clear h h5 hv hg
  go_enter Try.func26, Try.ntmps26
  go_wp2
  go_loop [3, 4] (fun s i => ∃ k : Nat, k ≤ bs.length ∧ i = .int .i64 k ∧ s = .int .i64 (sumOf (bs.take k) : Int)) (fun _ i => bs.length - (intOf i).toNat)
  case atStart => exact ⟨0, Nat.zero_le _, rfl, by simp [sumOf]⟩
  case round =>
    obtain ⟨k, hk, rfl, rfl⟩ := hrel
    by_cases hlt3 : k < bs.length
    · obtain ⟨gb, cb, hbv, hcc, hff, hne, hlt2, hge, _⟩ := H.out.elem k hlt3
      rw [HV.out] at hbv
      injection hbv with z1 z2 z3
      subst z1 z3
      clear z2
      have e1 := hcc 1 _ rfl
      have e2 := hcc 2 _ rfl
      clear hcc hff
      have hO := HG.out.ok _ (bk_mem hlt3)
      have hS := HG.out.sum
      have hst := Aside0.mk (sumOf_take bs k hlt3)
      have hs0 := sumOf_bd (bs.take k) (fun b hb => HG.out.ok b (List.mem_of_mem_take hb))
      have hs1 : (bs.take k).length ≤ 4096 := by rw [List.length_take]; omega
      by_cases hb : 0 < (bk bs k).f1
      · have hdb : decide (0 < (bk bs k).f1) = true := by simp; omega
        go_wp2
        all_goals go_round
        all_goals (try (case rel => exact ⟨k + 1, by omega, by go_num, by rw [hst.out]⟩))
        all_goals (try (case measure => (simp [intOf] <;> omega)))
      · have hdb : decide (0 < (bk bs k).f1) = false := by simp; omega
        go_wp2
        all_goals go_round
        all_goals (try (case rel => exact ⟨k + 1, by omega, by go_num, by rw [hst.out, show (bk bs k).f1 = 0 by omega, Int.add_zero]⟩))
        all_goals (try (case measure => (simp [intOf] <;> omega)))
    · obtain rfl : k = bs.length := by omega
      rw [List.take_length]
      go_wp2
      go_ret
      exact ⟨rfl, rfl⟩
set_option maxHeartbeats 1000000 in
set_option maxRecDepth 100000 in
theorem rl_far {W : World} {g : Nat} {cap lim : Int} {bs : List S114} (h : RX W g cap lim bs) (hg : Good bs) (i : Nat) (gen : Int) (hi : bs.length ≤ i) (hi2 : i ≤ 4294967295) : Calls Try.prog 55 #[.pointer (some ⟨g, 0, none⟩), .agg #[.int .u32 (i : Int), .int .u32 gen]] W fun e w' => e = .returned (.bool false) ∧ Below W.heap.size W w' := by
  have HB := Aside0.mk (Below.refl W.heap.size W)
  obtain ⟨v, h⟩ := h
  have h5 := h.1
  obtain ⟨A, c, rfl⟩ := h.val
  have q0 := blk_cell h5 0
  have q1 := blk_cell h5 1
  have q2 := blk_cell h5 2
  have f1 := blk_frozen h5 1
  have f2 := blk_frozen h5 2
  have hlt := h.lt
  simp only [List.getElem?_toArray, List.getElem?_cons_zero, List.getElem?_cons_succ] at q0 q1 q2
  have hlen := hg.len
  clear h h5 hg
  have hz : decide (i < bs.length) = false := by simp; omega
  go_enter Try.func55, Try.ntmps55
  go_wp2
  go_quiet (fail)
  go_wp2
  go_ret
  exact ⟨rfl, (by repeat (first | (with_reducible first | exact HB.out | apply below_alloc | apply pw_below_drewN | apply below_drew1) | exact HB.out))⟩
set_option maxHeartbeats 1000000 in
set_option maxRecDepth 100000 in
theorem rl_dead {W : World} {g : Nat} {cap lim : Int} {bs : List S114} (h : RX W g cap lim bs) (hg : Good bs) (i : Nat) (gen : Int) (hi : i < bs.length) (hd : (bk bs i).f1 ≤ 0) : Calls Try.prog 55 #[.pointer (some ⟨g, 0, none⟩), .agg #[.int .u32 (i : Int), .int .u32 gen]] W fun e w' => e = .returned (.bool false) ∧ Below W.heap.size W w' := by
  have HB := Aside0.mk (Below.refl W.heap.size W)
  obtain ⟨v, h⟩ := h
  have h5 := h.1
  have q0 := blk_cell h5 0
  have q1 := blk_cell h5 1
  have q2 := blk_cell h5 2
  have f1 := blk_frozen h5 1
  have f2 := blk_frozen h5 2
  have hlt := h.lt
  simp only [List.getElem?_toArray, List.getElem?_cons_zero, List.getElem?_cons_succ] at q0 q1 q2
  have hlen := hg.len
  obtain ⟨gb, cb, hbv, hcc, hff, hne, hlt2, hge, csb, hcb⟩ := h.elem i hi
  have e0 := hcc 0 _ rfl
  have e1 := hcc 1 _ rfl
  have e2 := hcc 2 _ rfl
  have e3 := hcc 3 _ rfl
  rw [Nat.add_zero] at e0
  subst hbv
  have hdi : decide ((i : Int) < (bs.length : Int)) = true := by simp; omega
  generalize bk bs i = b at *
  clear h h5 hg hcc hff
  have hdb : decide (0 < b.f1) = false := by simp; omega
  go_enter Try.func55, Try.ntmps55
  go_wp2
  go_quiet (fail)
  go_wp2
  go_ret
  exact ⟨rfl, (by repeat (first | (with_reducible first | exact HB.out | apply below_alloc | apply pw_below_drewN | apply below_drew1) | exact HB.out))⟩
set_option maxHeartbeats 1000000 in
set_option maxRecDepth 100000 in
theorem rl_old {W : World} {g : Nat} {cap lim : Int} {bs : List S114} (h : RX W g cap lim bs) (hg : Good bs) (i : Nat) (gen : Int) (hi : i < bs.length) (hd : 0 < (bk bs i).f1) (hgn : (bk bs i).f0 ≠ gen) : Calls Try.prog 55 #[.pointer (some ⟨g, 0, none⟩), .agg #[.int .u32 (i : Int), .int .u32 gen]] W fun e w' => e = .returned (.bool false) ∧ Below W.heap.size W w' := by
  have HB := Aside0.mk (Below.refl W.heap.size W)
  obtain ⟨v, h⟩ := h
  have h5 := h.1
  have q0 := blk_cell h5 0
  have q1 := blk_cell h5 1
  have q2 := blk_cell h5 2
  have f1 := blk_frozen h5 1
  have f2 := blk_frozen h5 2
  have hlt := h.lt
  simp only [List.getElem?_toArray, List.getElem?_cons_zero, List.getElem?_cons_succ] at q0 q1 q2
  have hlen := hg.len
  obtain ⟨gb, cb, hbv, hcc, hff, hne, hlt2, hge, csb, hcb⟩ := h.elem i hi
  have e0 := hcc 0 _ rfl
  have e1 := hcc 1 _ rfl
  have e2 := hcc 2 _ rfl
  have e3 := hcc 3 _ rfl
  rw [Nat.add_zero] at e0
  subst hbv
  have hdi : decide ((i : Int) < (bs.length : Int)) = true := by simp; omega
  generalize bk bs i = b at *
  clear h h5 hg hcc hff
  have hdb : decide (0 < b.f1) = true := by simp; omega
  have hgb : (b.f0 == gen) = false := beq_eq_false_iff_ne.2 hgn
  clear hgn
  go_enter Try.func55, Try.ntmps55
  go_wp2
  go_quiet (fail)
  go_wp2
  go_ret
  exact ⟨rfl, (by repeat (first | (with_reducible first | exact HB.out | apply below_alloc | apply pw_below_drewN | apply below_drew1) | exact HB.out))⟩
set_option maxHeartbeats 1000000 in
set_option maxRecDepth 100000 in
theorem rl_yes {W : World} {g : Nat} {cap lim : Int} {bs : List S114} (h : RX W g cap lim bs) (hg : Good bs) (i : Nat) (gen : Int) (hi : i < bs.length) (hd : 0 < (bk bs i).f1) (hgn : (bk bs i).f0 = gen) : Calls Try.prog 55 #[.pointer (some ⟨g, 0, none⟩), .agg #[.int .u32 (i : Int), .int .u32 gen]] W fun e w' => e = .returned (.bool true) ∧ Below W.heap.size W w' := by
  have HB := Aside0.mk (Below.refl W.heap.size W)
  obtain ⟨v, h⟩ := h
  have h5 := h.1
  have q0 := blk_cell h5 0
  have q1 := blk_cell h5 1
  have q2 := blk_cell h5 2
  have f1 := blk_frozen h5 1
  have f2 := blk_frozen h5 2
  have hlt := h.lt
  simp only [List.getElem?_toArray, List.getElem?_cons_zero, List.getElem?_cons_succ] at q0 q1 q2
  have hlen := hg.len
  obtain ⟨gb, cb, hbv, hcc, hff, hne, hlt2, hge, csb, hcb⟩ := h.elem i hi
  have e0 := hcc 0 _ rfl
  have e1 := hcc 1 _ rfl
  have e2 := hcc 2 _ rfl
  have e3 := hcc 3 _ rfl
  rw [Nat.add_zero] at e0
  subst hbv
  have hdi : decide ((i : Int) < (bs.length : Int)) = true := by simp; omega
  generalize bk bs i = b at *
  clear h h5 hg hcc hff
  have hdb : decide (0 < b.f1) = true := by simp; omega
  have hgb : (b.f0 == gen) = true := beq_iff_eq.2 hgn
  clear hgn
  go_enter Try.func55, Try.ntmps55
  go_wp2
  go_quiet (fail)
  go_wp2
  go_ret
  exact ⟨rfl, (by repeat (first | (with_reducible first | exact HB.out | apply below_alloc | apply pw_below_drewN | apply below_drew1) | exact HB.out))⟩
theorem rc_lives {W : World} {g : Nat} {cap lim : Int} {bs : List S114} (h : RX W g cap lim bs) (hg : Good bs) (i : Nat) (gen : Int) (hi : i ≤ 4294967295) : Calls Try.prog 55 #[.pointer (some ⟨g, 0, none⟩), .agg #[.int .u32 (i : Int), .int .u32 gen]] W fun e w' => e = .returned (.bool (livesB bs i gen)) ∧ Below W.heap.size W w' := by
  unfold livesB
  by_cases h1 : i < bs.length
  · by_cases h2 : 0 < (bk bs i).f1
    · by_cases h3 : (bk bs i).f0 = gen
      · simp only [h1, h2, h3, decide_true, Bool.and_self, beq_self_eq_true]
        exact rl_yes h hg i gen h1 h2 h3
      · have h4 : ((bk bs i).f0 == gen) = false := beq_eq_false_iff_ne.2 h3
        simp only [h4, Bool.and_false]
        exact rl_old h hg i gen h1 h2 h3
    · simp only [h2, decide_false, Bool.false_and, Bool.and_false]
      exact rl_dead h hg i gen h1 (by omega)
  · simp only [h1, decide_false, Bool.false_and]
    exact rl_far h hg i gen (by omega) hi
end Go.Proofs.Ytibcbeibehaeeaa.Hand

/- The reference's arena: New, Get, Put, Free, SetLimit, Fits. -/
set_option linter.unusedVariables false
set_option linter.unusedSimpArgs false
namespace Go.Proofs.Ytibcbeibehaeeaa.Hand
open Go.RowKit Go.Proofs.Ytibcbeibehaeeaa.PStorePlays Go.Proofs.YtibcbeibehaeeaaW.PrintWords Go.Proofs.YtibcbeibehaeeaaW.PrintLast Go.Proofs.YtibcbeibehaeeaaW.PrintMore
set_option maxHeartbeats 1000000 in
set_option maxRecDepth 100000 in
theorem rg_no {W : World} {g : Nat} {cap lim : Int} {bs : List S114} (h : RX W g cap lim bs) (hg : Good bs) (i : Nat) (gen : Int) (hi2 : i ≤ 4294967295) (hlb : livesB bs i gen = false) : Calls Try.prog 41 #[.pointer (some ⟨g, 0, none⟩), .agg #[.int .u32 (i : Int), .int .u32 gen]] W fun e w' => e = .returned (.tuple #[.string ⟨#[]⟩, .bool false]) ∧ Below W.heap.size W w' := by
  have HB := Aside0.mk (Below.refl W.heap.size W)
  obtain ⟨v, h⟩ := h
  have h5 := h.1
  obtain ⟨A, c, rfl⟩ := h.val
  have q0 := blk_cell h5 0
  have q1 := blk_cell h5 1
  have q2 := blk_cell h5 2
  have f1 := blk_frozen h5 1
  have f2 := blk_frozen h5 2
  have hlt := h.lt
  simp only [List.getElem?_toArray, List.getElem?_cons_zero, List.getElem?_cons_succ] at q0 q1 q2
  have hlen := hg.len
  have H := Aside0.mk h
  have HG := Aside0.mk hg
  have HLB := Aside0.mk hlb
  clear h h5 hg hlb
  go_enter Try.func41, Try.ntmps41
  go_wp2_with (first | (go_at_call 55; (with_reducible refine (rc_lives (RV.rx (H.out.below (by repeat (first | (with_reducible first | exact HB.out | apply below_alloc | apply pw_below_drewN | apply below_drew1) | exact HB.out)))) HG.out i gen hi2).mono ?_); rintro e w1 ⟨rfl, hb⟩; rw [HLB.out]; have B4 := Aside0.mk (blk_below (o := .cells #[.int .u32 (i : Int), .int .u32 gen] 85 (0, 0)) (g := W.heap.size) (by repeat (first | (with_reducible refine blk_drewN ?_ _) | (with_reducible refine blk_drew ?_) | exact blk_new' (by first | rfl | simp) | (with_reducible refine blk_alloc ?_ _))) hb); have n0_ := Aside0.mk (below_step (by repeat (first | (with_reducible first | exact HB.out | apply below_alloc | apply pw_below_drewN | apply below_drew1) | exact HB.out)) hb); clear HB; have HB := n0_; clear n0_; clear q0 q1 q2 f1 f2 hlt; have HA := Aside0.mk (H.out.below HB.out); have q0 := blk_cell HA.out.1 0; have q1 := blk_cell HA.out.1 1; have q2 := blk_cell HA.out.1 2; have f2 := blk_frozen HA.out.1 2; have hlt := HA.out.lt; have y0 := blk_cell B4.out 0; have y1 := blk_cell B4.out 1; have y4 := blk_lt B4.out; simp only [List.getElem?_toArray, List.getElem?_cons_zero, List.getElem?_cons_succ] at q0 q1 q2 y0 y1; clear hb))
  go_ret2
  exact ⟨rfl, (by repeat (first | (with_reducible first | exact HB.out | apply below_alloc | apply pw_below_drewN | apply below_drew1) | exact HB.out))⟩
set_option maxHeartbeats 1000000 in
set_option maxRecDepth 100000 in
theorem rg_yes {W : World} {g : Nat} {cap lim : Int} {bs : List S114} (h : RX W g cap lim bs) (hg : Good bs) (i : Nat) (gen : Int) (hi2 : i ≤ 4294967295) (hlb : livesB bs i gen = true) (s : ByteArray) (hs : (bk bs i).f2 = s) : Calls Try.prog 41 #[.pointer (some ⟨g, 0, none⟩), .agg #[.int .u32 (i : Int), .int .u32 gen]] W fun e w' => e = .returned (.tuple #[.string s, .bool true]) ∧ Below W.heap.size W w' := by
  obtain ⟨hi, hL⟩ : i < bs.length ∧ 0 < (bk bs i).f1 := by have := (lives_iff _ _ _).1 hlb; exact ⟨this.1, this.2.1⟩
  have hgn : (bk bs i).f0 = gen := ((lives_iff _ _ _).1 hlb).2.2
  have HB := Aside0.mk (Below.refl W.heap.size W)
  obtain ⟨v, h⟩ := h
  have h5 := h.1
  have q0 := blk_cell h5 0
  have q1 := blk_cell h5 1
  have q2 := blk_cell h5 2
  have f1 := blk_frozen h5 1
  have f2 := blk_frozen h5 2
  have hlt := h.lt
  simp only [List.getElem?_toArray, List.getElem?_cons_zero, List.getElem?_cons_succ] at q0 q1 q2
  have hlen := hg.len
  obtain ⟨gb, cb, hbv, hcc, hff, hne, hlt2, hge, csb, hcb⟩ := h.elem i hi
  have e0 := hcc 0 _ rfl
  have e1 := hcc 1 _ rfl
  have e2 := hcc 2 _ rfl
  have e3 := hcc 3 _ rfl
  rw [Nat.add_zero] at e0
  rw [hgn] at e0
  have hdb : decide (0 < (bk bs i).f1) = true := by simp; omega
  rw [hdb] at e1
  subst hbv
  have H := Aside0.mk h
  have HG := Aside0.mk hg
  have HLB := Aside0.mk hlb
  have HCB := Aside0.mk hcb
  have il : (i : Int) ≤ 4096 := by omega
  rw [hs] at e3
  clear hs
  clear h h5 hg hlb hcc hff hcb hdb hgn hL
  go_enter Try.func41, Try.ntmps41
  go_wp2_with (first | (go_at_call 55; (with_reducible refine (rc_lives (RV.rx (H.out.below (by repeat (first | (with_reducible first | exact HB.out | apply below_alloc | apply pw_below_drewN | apply below_drew1) | exact HB.out)))) HG.out i gen hi2).mono ?_); rintro e w1 ⟨rfl, hb⟩; rw [HLB.out]; have B4 := Aside0.mk (blk_below (o := .cells #[.int .u32 (i : Int), .int .u32 gen] 85 (0, 0)) (g := W.heap.size) (by repeat (first | (with_reducible refine blk_drewN ?_ _) | (with_reducible refine blk_drew ?_) | exact blk_new' (by first | rfl | simp) | (with_reducible refine blk_alloc ?_ _))) hb); have n0_ := Aside0.mk (below_step (by repeat (first | (with_reducible first | exact HB.out | apply below_alloc | apply pw_below_drewN | apply below_drew1) | exact HB.out)) hb); clear HB; have HB := n0_; clear n0_; clear q0 q1 q2 f1 f2 hlt; have HA := Aside0.mk (H.out.below HB.out); have q0 := blk_cell HA.out.1 0; have q1 := blk_cell HA.out.1 1; have q2 := blk_cell HA.out.1 2; have f2 := blk_frozen HA.out.1 2; have hlt := HA.out.lt; have y0 := blk_cell B4.out 0; have y1 := blk_cell B4.out 1; have y4 := blk_lt B4.out; simp only [List.getElem?_toArray, List.getElem?_cons_zero, List.getElem?_cons_succ] at q0 q1 q2 y0 y1; have z0 := pw_cell_below HB.out e0; have z1 := pw_cell_below HB.out e1; have z2 := pw_cell_below HB.out e2; have z3 := pw_cell_below HB.out e3; have BB := Aside0.mk (blk_below HCB.out HB.out); have zf0 := blk_frozen BB.out (i * 4); have zf1 := blk_frozen BB.out (i * 4 + 1); have zf2 := blk_frozen BB.out (i * 4 + 2); have zf3 := blk_frozen BB.out (i * 4 + 3); have lb := blk_lt BB.out; have x1 : W.heap.size ≠ g := blk_ne B4.out HA.out.1 (by decide); have x2 : W.heap.size ≠ gb := blk_ne B4.out BB.out (by decide); have x3 : gb ≠ g := blk_ne BB.out HA.out.1 (by decide); have x4 : g ≠ gb := (fun e => x3 e.symm); have x5 : g ≠ W.heap.size := (fun e => x1 e.symm); have x6 : gb ≠ W.heap.size := (fun e => x2 e.symm); clear e0 e1 e2 e3; clear hb))
  go_quiet (fail)
  go_wp2
  go_ret2
  exact ⟨rfl, (by repeat (first | (with_reducible first | exact HB.out | apply below_alloc | apply pw_below_drewN | apply below_drew1) | exact HB.out))⟩
theorem r_get {W : World} {g : Nat} {cap lim : Int} {bs : List S114} (h : RX W g cap lim bs) (hg : Good bs) (i : Nat) (gen : Int) (hi2 : i ≤ 4294967295) : Calls Try.prog 41 #[.pointer (some ⟨g, 0, none⟩), .agg #[.int .u32 (i : Int), .int .u32 gen]] W fun e w' => e = .returned (.tuple #[.string (getE bs i gen), .bool (livesB bs i gen)]) ∧ Below W.heap.size W w' := by
  unfold getE
  cases hlb : livesB bs i gen
  · rw [if_neg (by simp)]
    exact rg_no h hg i gen hi2 hlb
  · rw [if_pos rfl]
    exact rg_yes h hg i gen hi2 hlb _ rfl
set_option maxHeartbeats 1000000 in
set_option maxRecDepth 100000 in
theorem rnew_no (n : Int) (w : World) (hn : n < 0 ∨ 16777216 < n) : Calls Try.prog 9 #[.int .i64 n] w fun e w' => e = .returned (.pointer none) ∧ Below w.heap.size w w' := by
  have HB := Aside0.mk (Below.refl w.heap.size w)
  rcases Int.lt_or_le n 0 with h | h
  · go_enter Try.func9, Try.ntmps9
    go_wp2
    go_ret
    exact ⟨rfl, (by repeat (first | (with_reducible first | exact HB.out | apply below_alloc | apply pw_below_drewN | apply below_drew1) | exact HB.out))⟩
  · have h2 : 16777216 < n := by omega
    clear hn
    go_enter Try.func9, Try.ntmps9
    go_wp2
    go_ret
    exact ⟨rfl, (by repeat (first | (with_reducible first | exact HB.out | apply below_alloc | apply pw_below_drewN | apply below_drew1) | exact HB.out))⟩
set_option maxHeartbeats 1000000 in
set_option maxRecDepth 100000 in
theorem rnew_yes (n : Int) (w : World) (h0 : 0 ≤ n) (h1 : n ≤ 16777216) : Calls Try.prog 9 #[.int .i64 n] w fun e w' => e = .returned (.pointer (some ⟨w.heap.size, 0, none⟩)) ∧ RX w' w.heap.size n n [] ∧ Below w.heap.size w w' := by
  have HB := Aside0.mk (Below.refl w.heap.size w)
  have z1 : decide (16777216 < n) = false := decide_eq_false (by omega)
  have z0 : decide (n < 0) = false := decide_eq_false (by omega)
  go_enter Try.func9, Try.ntmps9
  go_wp2
  go_ret
  exact ⟨rfl, ⟨_, blk_new w _, Kd.R_nil _ _ _ _ _⟩, (by repeat (first | (with_reducible first | exact HB.out | apply below_alloc | apply pw_below_drewN | apply below_drew1) | exact HB.out))⟩
end Go.Proofs.Ytibcbeibehaeeaa.Hand

/- The reference's arena: Put, Free, Alloc. -/
set_option linter.unusedVariables false
set_option linter.unusedSimpArgs false
namespace Go.Proofs.Ytibcbeibehaeeaa.Hand
open Go.RowKit Go.Proofs.Ytibcbeibehaeeaa.PStorePlays Go.Proofs.YtibcbeibehaeeaaW.PrintWords Go.Proofs.YtibcbeibehaeeaaW.PrintLast Go.Proofs.YtibcbeibehaeeaaW.PrintMore
theorem RX.of' {W : World} {g : Nat} {cap lim : Int} {v : Value} {rs : List S99} {bs : List S114} (h : RV' W g cap lim v rs) (e : rs = bs.map toR) : RX W g cap lim bs := by
  subst e
  exact ⟨v, h⟩
theorem bel_drew (W : World) : Below W.heap.size W W.drew := by first | exact below_drew1 (Below.refl _ _) | exact below_drew (Below.refl _ _)
theorem FR.drew {g : Nat} {W W1 : World} (h : FR g W W1) : FR g W W1.drew := h.trans (FR.of_below (bel_drew W1))
theorem RX.drew {W : World} {g : Nat} {cap lim : Int} {bs : List S114} (h : RX W g cap lim bs) : RX W.drew g cap lim bs := h.below (bel_drew W)
theorem mapR_set (bs : List S114) (i : Nat) (b : S114) : (bs.map toR).set i (toR b) = (bs.set i b).map toR := by rw [List.map_set]
theorem mapR_get (bs : List S114) (i : Nat) (hi : i < bs.length) : (bs.map toR)[i]? = some (toR (bk bs i)) := by simp [bk, hi]
theorem keep3 {W W1 : World} {a b c : Addr} {x y z : Value} (hb : Below W.heap.size W W1) (h : W.cell? a = some x ∧ W.cell? b = some y ∧ W.cell? c = some z) : W1.cell? a = some x ∧ W1.cell? b = some y ∧ W1.cell? c = some z := ⟨pw_cell_below hb h.1, pw_cell_below hb h.2.1, pw_cell_below hb h.2.2⟩
theorem keep4 {W W1 : World} {a b c d : Addr} {x y z u : Value} (hb : Below W.heap.size W W1) (h : W.cell? a = some x ∧ W.cell? b = some y ∧ W.cell? c = some z ∧ W.cell? d = some u) : W1.cell? a = some x ∧ W1.cell? b = some y ∧ W1.cell? c = some z ∧ W1.cell? d = some u := ⟨pw_cell_below hb h.1, pw_cell_below hb h.2.1, pw_cell_below hb h.2.2.1, pw_cell_below hb h.2.2.2⟩
set_option maxHeartbeats 1000000 in
set_option maxRecDepth 100000 in
theorem rr_no {W : World} {g : Nat} {cap lim : Int} {bs : List S114} (h : RX W g cap lim bs) (hg : Good bs) (i : Nat) (gen : Int) (hi2 : i ≤ 4294967295) (hlb : livesB bs i gen = false) : Calls Try.prog 38 #[.pointer (some ⟨g, 0, none⟩), .agg #[.int .u32 (i : Int), .int .u32 gen]] W fun e w' => e = .returned (.bool false) ∧ Below W.heap.size W w' := by
  have HB := Aside0.mk (Below.refl W.heap.size W)
  obtain ⟨v, h⟩ := h
  have h5 := h.1
  obtain ⟨A, c, rfl⟩ := h.val
  have q0 := blk_cell h5 0
  have q1 := blk_cell h5 1
  have q2 := blk_cell h5 2
  have f1 := blk_frozen h5 1
  have f2 := blk_frozen h5 2
  have hlt := h.lt
  simp only [List.getElem?_toArray, List.getElem?_cons_zero, List.getElem?_cons_succ] at q0 q1 q2
  have hlen := hg.len
  have H := Aside0.mk h
  have HG := Aside0.mk hg
  have HLB := Aside0.mk hlb
  clear h h5 hg hlb
  go_enter Try.func38, Try.ntmps38
  go_wp2_with (first | (go_at_call 55; (with_reducible refine (rc_lives (RV.rx (H.out.below (by repeat (first | (with_reducible first | exact HB.out | apply below_alloc | apply pw_below_drewN | apply below_drew1) | exact HB.out)))) HG.out i gen hi2).mono ?_); rintro e w1 ⟨rfl, hb⟩; rw [HLB.out]; have B4 := Aside0.mk (blk_below (o := .cells #[.int .u32 (i : Int), .int .u32 gen] 85 (0, 0)) (g := W.heap.size) (by repeat (first | (with_reducible refine blk_drewN ?_ _) | (with_reducible refine blk_drew ?_) | exact blk_new' (by first | rfl | simp) | (with_reducible refine blk_alloc ?_ _))) hb); have n0_ := Aside0.mk (below_step (by repeat (first | (with_reducible first | exact HB.out | apply below_alloc | apply pw_below_drewN | apply below_drew1) | exact HB.out)) hb); clear HB; have HB := n0_; clear n0_; clear q0 q1 q2 f1 f2 hlt; have HA := Aside0.mk (H.out.below HB.out); have q0 := blk_cell HA.out.1 0; have q1 := blk_cell HA.out.1 1; have q2 := blk_cell HA.out.1 2; have f2 := blk_frozen HA.out.1 2; have hlt := HA.out.lt; have y0 := blk_cell B4.out 0; have y1 := blk_cell B4.out 1; have y4 := blk_lt B4.out; simp only [List.getElem?_toArray, List.getElem?_cons_zero, List.getElem?_cons_succ] at q0 q1 q2 y0 y1; clear hb))
  go_ret
  exact ⟨rfl, (by repeat (first | (with_reducible first | exact HB.out | apply below_alloc | apply pw_below_drewN | apply below_drew1) | exact HB.out))⟩
set_option maxHeartbeats 1000000 in
set_option maxRecDepth 100000 in
theorem rr_yes {W : World} {g : Nat} {cap lim : Int} {bs : List S114} (h : RX W g cap lim bs) (hg : Good bs) (i : Nat) (gen : Int) (hi2 : i ≤ 4294967295) (hlb : livesB bs i gen = true) (gen' : Int) (hgen' : IntKind.u32.wrap (gen + 1) = gen') : Calls Try.prog 38 #[.pointer (some ⟨g, 0, none⟩), .agg #[.int .u32 (i : Int), .int .u32 gen]] W fun e w' => e = .returned (.bool true) ∧ RX w' g cap lim (bs.set i ⟨gen', 0, ⟨#[]⟩⟩) ∧ FR g W w' := by
  obtain ⟨hi, hL⟩ : i < bs.length ∧ 0 < (bk bs i).f1 := by have := (lives_iff _ _ _).1 hlb; exact ⟨this.1, this.2.1⟩
  have hgn : (bk bs i).f0 = gen := ((lives_iff _ _ _).1 hlb).2.2
  have HB := Aside0.mk (Below.refl W.heap.size W)
  obtain ⟨v, h⟩ := h
  have h5 := h.1
  have q0 := blk_cell h5 0
  have q1 := blk_cell h5 1
  have q2 := blk_cell h5 2
  have f1 := blk_frozen h5 1
  have f2 := blk_frozen h5 2
  have hlt := h.lt
  simp only [List.getElem?_toArray, List.getElem?_cons_zero, List.getElem?_cons_succ] at q0 q1 q2
  have hlen := hg.len
  obtain ⟨gb, cb, hbv, hcc, hff, hne, hlt2, hge, csb, hcb⟩ := h.elem i hi
  have e0 := hcc 0 _ rfl
  have e1 := hcc 1 _ rfl
  have e2 := hcc 2 _ rfl
  have e3 := hcc 3 _ rfl
  rw [Nat.add_zero] at e0
  rw [hgn] at e0
  have hdb : decide (0 < (bk bs i).f1) = true := by simp; omega
  rw [hdb] at e1
  subst hbv
  have H := Aside0.mk h
  have HG := Aside0.mk hg
  have HLB := Aside0.mk hlb
  have HCB := Aside0.mk hcb
  have il : (i : Int) ≤ 4096 := by omega
  clear h h5 hg hlb hcc hff hcb hdb hgn hL
  go_enter Try.func38, Try.ntmps38
  go_wp2_with (first | (go_at_call 55; (with_reducible refine (rc_lives (RV.rx (H.out.below (by repeat (first | (with_reducible first | exact HB.out | apply below_alloc | apply pw_below_drewN | apply below_drew1) | exact HB.out)))) HG.out i gen hi2).mono ?_); rintro e w1 ⟨rfl, hb⟩; rw [HLB.out]; have B4 := Aside0.mk (blk_below (o := .cells #[.int .u32 (i : Int), .int .u32 gen] 85 (0, 0)) (g := W.heap.size) (by repeat (first | (with_reducible refine blk_drewN ?_ _) | (with_reducible refine blk_drew ?_) | exact blk_new' (by first | rfl | simp) | (with_reducible refine blk_alloc ?_ _))) hb); have n0_ := Aside0.mk (below_step (by repeat (first | (with_reducible first | exact HB.out | apply below_alloc | apply pw_below_drewN | apply below_drew1) | exact HB.out)) hb); clear HB; have HB := n0_; clear n0_; clear q0 q1 q2 f1 f2 hlt; have HA := Aside0.mk (H.out.below HB.out); have q0 := blk_cell HA.out.1 0; have q1 := blk_cell HA.out.1 1; have q2 := blk_cell HA.out.1 2; have f2 := blk_frozen HA.out.1 2; have hlt := HA.out.lt; have y0 := blk_cell B4.out 0; have y1 := blk_cell B4.out 1; have y4 := blk_lt B4.out; simp only [List.getElem?_toArray, List.getElem?_cons_zero, List.getElem?_cons_succ] at q0 q1 q2 y0 y1; have z0 := pw_cell_below HB.out e0; have z1 := pw_cell_below HB.out e1; have z2 := pw_cell_below HB.out e2; have z3 := pw_cell_below HB.out e3; have BB := Aside0.mk (blk_below HCB.out HB.out); have zf0 := blk_frozen BB.out (i * 4); have zf1 := blk_frozen BB.out (i * 4 + 1); have zf2 := blk_frozen BB.out (i * 4 + 2); have zf3 := blk_frozen BB.out (i * 4 + 3); have lb := blk_lt BB.out; have x1 : W.heap.size ≠ g := blk_ne B4.out HA.out.1 (by decide); have x2 : W.heap.size ≠ gb := blk_ne B4.out BB.out (by decide); have x3 : gb ≠ g := blk_ne BB.out HA.out.1 (by decide); have x4 : g ≠ gb := (fun e => x3 e.symm); have x5 : g ≠ W.heap.size := (fun e => x1 e.symm); have x6 : gb ≠ W.heap.size := (fun e => x2 e.symm); clear e0 e1 e2 e3; clear hb))
  go_region_law (fail)
  all_goals go_wp2
  all_goals go_ret
  all_goals have A2 := RV'.bput (rs := bs.map toR) HA.out i (mapR_get bs i hi) (gb := gb) (cb := cb) (by rw [List.length_map]) 0 (by decide) (.int .u32 gen') (b' := ⟨gen', decide (0 < (bk bs i).f1), (bk bs i).f1, (bk bs i).f2⟩) rfl
  all_goals have A3 := RV'.bput A2.1 i (b := ⟨gen', decide (0 < (bk bs i).f1), (bk bs i).f1, (bk bs i).f2⟩) (by simp [hi]) (gb := gb) (cb := cb) (by rw [List.length_set, List.length_map]) 1 (by decide) (.bool false) (b' := ⟨gen', false, (bk bs i).f1, (bk bs i).f2⟩) rfl
  all_goals have A4 := RV'.bput A3.1 i (b := ⟨gen', false, (bk bs i).f1, (bk bs i).f2⟩) (by simp [hi]) (gb := gb) (cb := cb) (by rw [List.length_set, List.length_set, List.length_map]) 2 (by decide) (.int .i64 0) (b' := ⟨gen', false, 0, (bk bs i).f2⟩) rfl
  all_goals have A5 := RV'.bput A4.1 i (b := ⟨gen', false, 0, (bk bs i).f2⟩) (by simp [hi]) (gb := gb) (cb := cb) (by rw [List.length_set, List.length_set, List.length_set, List.length_map]) 3 (by decide) (.string ⟨#[]⟩) (b' := ⟨gen', false, 0, ⟨#[]⟩⟩) rfl
  all_goals simp only [Nat.add_zero] at A2 A3 A4 A5
  all_goals have A6 := RX.of' A5.1 (by rw [List.set_set, List.set_set, List.set_set]; exact mapR_set bs i ⟨gen', 0, ⟨#[]⟩⟩)
  all_goals have F6 := ((((FR.of_below HB.out).trans A2.2).trans A3.2).trans A4.2).trans A5.2
  all_goals exact ⟨rfl, (by first | exact A6 | exact A6.drew), (by first | exact F6 | exact F6.drew)⟩
theorem r_free {W : World} {g : Nat} {cap lim : Int} {bs : List S114} (h : RX W g cap lim bs) (hg : Good bs) (i : Nat) (gen : Int) (hi2 : i ≤ 4294967295) : Calls Try.prog 38 #[.pointer (some ⟨g, 0, none⟩), .agg #[.int .u32 (i : Int), .int .u32 gen]] W fun e w' => e = .returned (.bool (livesB bs i gen)) ∧ RX w' g cap lim (freeB bs i gen) ∧ FR g W w' := by
  unfold freeB
  cases hlb : livesB bs i gen
  · refine (rr_no h hg i gen hi2 hlb).mono ?_
    rintro e w' ⟨rfl, hb⟩
    exact ⟨rfl, h.below hb, FR.of_below hb⟩
  · rw [if_pos rfl]
    exact rr_yes h hg i gen hi2 hlb _ rfl
end Go.Proofs.Ytibcbeibehaeeaa.Hand

/- The reference's arena: Alloc. -/
set_option linter.unusedVariables false
set_option linter.unusedSimpArgs false
namespace Go.Proofs.Ytibcbeibehaeeaa.Hand
open Go.RowKit Go.Proofs.Ytibcbeibehaeeaa.PStorePlays Go.Proofs.YtibcbeibehaeeaaW.PrintWords Go.Proofs.YtibcbeibehaeeaaW.PrintLast Go.Proofs.YtibcbeibehaeeaaW.PrintMore
theorem infoBlkR : (Try.prog.info? 99).map (fun i => (i.zero, i.size, i.bytes)) = some (some (.agg #[.int .u32 0, .bool false, .int .i64 0, .string ⟨#[]⟩]), 4, 32) := by kernel_rfl
theorem toR_new (f : Int) (n : Int) (s : ByteArray) (h : 0 < n) : (⟨f, true, n, s⟩ : S99) = toR ⟨f, n, s⟩ := by simp [toR, h]
theorem lo_succ {P : Nat → Prop} {k : Nat} (h : ∀ j, j < k → P j) (hk : P k) : ∀ j, j < k + 1 → P j := by
  intro j hj
  rcases Nat.lt_or_ge j k with h1 | h1
  · exact h j h1
  · obtain rfl : j = k := by omega
    exact hk
/-- What Alloc comes to, by the first slot that is free. -/
theorem alloc_eval {lim : Int} {bs : List S114} (n k : Nat) (hf : fit (n : Int) = true) (hb : ¬ lim < sumOf bs + rnd (n : Int)) (hlen : bs.length ≤ 4096) (hk : k ≤ bs.length) (hlo : ∀ j, j < k → 0 < (bk bs j).f1) (hat : k = bs.length ∨ (bk bs k).f1 ≤ 0) :
    allocE lim bs n = (if k = 4096 then (0, 0, 11) else if k = bs.length then ((k : Int), 1, 0) else ((k : Int), (bk bs k).f0, 0)) ∧
    ∀ s : ByteArray, s.size = n → allocB lim bs s = (if k = 4096 then bs else if k = bs.length then bs ++ [⟨1, rnd (n : Int), s⟩] else bs.set k ⟨(bk bs k).f0, rnd (n : Int), s⟩) := by
  have hn1 : ¬ (true = false) := by simp
  have key : (freeOf bs = [] ∧ k = bs.length) ∨ (∃ r, freeOf bs = (k : Int) :: r) ∧ k < bs.length := by
    cases hq : freeOf bs with
    | nil =>
      left
      refine ⟨rfl, ?_⟩
      rcases hat with h | h
      · exact h
      · rcases Nat.lt_or_ge k bs.length with h2 | h2
        · have := free_nil hq k h2; omega
        · omega
    | cons i r =>
      right
      obtain ⟨m, rfl, hm, hz, hl, _⟩ := free_head hq
      have hkm : k = m := by
        rcases Nat.lt_trichotomy k m with h2 | h2 | h2
        · have := hl k h2
          rcases hat with h | h <;> omega
        · exact h2
        · have := hlo m h2; omega
      subst hkm
      exact ⟨⟨r, rfl⟩, hm⟩
  constructor
  · unfold allocE
    rw [hf, if_neg hn1, if_neg hb]
    rcases key with ⟨h1, h2⟩ | ⟨⟨r, h1⟩, h2⟩
    · rw [h1]
      simp only [← h2]
      split <;> rfl
    · rw [h1]
      simp only [Int.toNat_natCast]
      rw [if_neg (by omega), if_neg (by omega)]
  · intro s hs
    unfold allocB
    rw [hs, hf, if_neg hn1, if_neg hb]
    rcases key with ⟨h1, h2⟩ | ⟨⟨r, h1⟩, h2⟩
    · rw [h1]
      simp only [← h2]
      split <;> rfl
    · rw [h1]
      simp only [Int.toNat_natCast]
      rw [if_neg (by omega), if_neg (by omega)]
theorem RV'.elem {W : World} {g : Nat} {cap lim : Int} {gb n cb : Nat} {rs : List S99} (h : RV' W g cap lim (.slice (some ⟨gb, 0, none⟩) n cb) rs) (i : Nat) (hi : i < n) (b : S99) (hb : rs[i]? = some b) : (∀ j u, (cellsS b)[j]? = some u → W.cell? ⟨gb, i * 4 + j, none⟩ = some u) ∧ ∃ cs, W.heap[gb]? = some (.cells cs 99 (0, 0)) := by
  obtain ⟨c, hc, hM, hcc, hff⟩ := Kd.R_elem h.2 b (i : Int) (by omega) (by omega)
  rw [Int.toNat_natCast, show rs.getD i b = b by simp [hb]] at hM
  rw [Int.toNat_natCast] at hcc
  obtain rfl := k99_openM hM
  obtain ⟨inner, ho⟩ := Kd.R_own h.2
  obtain ⟨cells, hcl⟩ := own_typed ho gb rfl
  exact ⟨hcc, cells, hcl⟩
theorem bel_drewN (W : World) (n : Nat) : Below W.heap.size W (W.drewN n) := pw_below_drewN (Below.refl _ _) n
theorem RX.drewN {W : World} {g : Nat} {cap lim : Int} {bs : List S114} (h : RX W g cap lim bs) (n : Nat) : RX (W.drewN n) g cap lim bs := h.below (bel_drewN W n)
theorem FR.drewN {g : Nat} {W W1 : World} (h : FR g W W1) (n : Nat) : FR g W (W1.drewN n) := h.trans (FR.of_below (bel_drewN W1 n))
theorem RX.otherR {W : World} {g : Nat} {cap lim : Int} {bs : List S114} {b : Nat} {cs : Array Value} (h : RX W g cap lim bs) (hb : W.heap[b]? = some (.cells cs 85 (0, 0))) (j : Nat) (u : Value) : RX (W.setCell ⟨b, j, none⟩ u) g cap lim bs := h.other hb (by unfold RT; decide) j u
set_option maxHeartbeats 2000000 in
set_option maxRecDepth 100000 in
theorem ra_arg {W : World} {g : Nat} {cap lim : Int} {bs : List S114} (h : RX W g cap lim bs) (hg : Good bs) (s : ByteArray) (n : Int) (ft : Bool) (hr : rnd (s.size : Int) = n) (hft : fit (s.size : Int) = ft) (hf : ft = false) : Calls Try.prog 36 #[.pointer (some ⟨g, 0, none⟩), .string s] W fun e w' => e = .returned (.tuple #[.agg #[.int .u32 0, .int .u32 0], .int .i64 1]) ∧ Below W.heap.size W w' := by
  have hS := hg.sum
  have HR := Aside0.mk hr
  have HFT := Aside0.mk hft
  clear hr hft
  have HB := Aside0.mk (Below.refl W.heap.size W)
  obtain ⟨v, h⟩ := h
  have h5 := h.1
  obtain ⟨A, c, rfl⟩ := h.val
  have q0 := blk_cell h5 0
  have q1 := blk_cell h5 1
  have q2 := blk_cell h5 2
  have f1 := blk_frozen h5 1
  have f2 := blk_frozen h5 2
  have hlt := h.lt
  simp only [List.getElem?_toArray, List.getElem?_cons_zero, List.getElem?_cons_succ] at q0 q1 q2
  have hlen := hg.len
  have H := Aside0.mk h
  have HG := Aside0.mk hg
  clear h h5 hg
  subst hf
  go_enter Try.func36, Try.ntmps36
  go_wp2_with (first | (go_at_call 51; (with_reducible refine (rround_c _ _).mono ?_); rintro e w1 ⟨rfl, hb⟩; rw [HR.out, HFT.out]; have B4 := Aside0.mk (blk_below (o := .cells #[.int .u32 0, .int .u32 0] 85 (0, 0)) (g := W.heap.size) (by repeat (first | (with_reducible refine blk_drewN ?_ _) | (with_reducible refine blk_drew ?_) | exact blk_new' (by first | rfl | simp) | (with_reducible refine blk_alloc ?_ _))) hb); have n0_ := Aside0.mk (below_step (by repeat (first | (with_reducible first | exact HB.out | apply below_alloc | apply pw_below_drewN | apply below_drew1) | exact HB.out)) hb); clear HB; have HB := n0_; clear n0_; clear q0 q1 q2 f1 f2 hlt; have HA := Aside0.mk (H.out.below HB.out); have q0 := blk_cell HA.out.1 0; have q1 := blk_cell HA.out.1 1; have q2 := blk_cell HA.out.1 2; have f2 := blk_frozen HA.out.1 2; have hlt := HA.out.lt; have y0 := blk_cell B4.out 0; have y1 := blk_cell B4.out 1; have yf0 := blk_frozen B4.out 0; have yf1 := blk_frozen B4.out 1; have y4 := blk_lt B4.out; simp only [List.getElem?_toArray, List.getElem?_cons_zero, List.getElem?_cons_succ] at q0 q1 q2 y0 y1; clear hb))
  have b6 := blk_set B4.out 0 (.int .u32 0)
  have b7 := blk_set b6 1 (.int .u32 0)
  have yr0 := blk_cell b6 0
  have yr1 := blk_cell b7 1
  have yr2 := blk_cell b7 0
  simp at yr0 yr1 yr2
  exact bodyPost_ret (v := .tuple #[.agg #[.int .u32 0, .int .u32 0], .int .i64 1]) (by simp [results, Try.results36, go_sem, yr0, yr1, yr2]) rfl ⟨rfl, (show Below W.heap.size W _ by repeat (first | (with_reducible first | exact HB.out | apply below_alloc | apply pw_below_drewN | apply below_drew1 | apply below_drew) | (refine below_set ?_ (Nat.le_refl W.heap.size)) | exact HB.out))⟩
set_option maxHeartbeats 2000000 in
set_option maxRecDepth 100000 in
theorem ra_budget {W : World} {g : Nat} {cap lim : Int} {bs : List S114} (h : RX W g cap lim bs) (hg : Good bs) (s : ByteArray) (n : Int) (ft : Bool) (hr : rnd (s.size : Int) = n) (hft : fit (s.size : Int) = ft) (hf : ft = true) (hn0 : 0 ≤ n) (hn1 : n ≤ 1024) (hb : lim < sumOf bs + n) : Calls Try.prog 36 #[.pointer (some ⟨g, 0, none⟩), .string s] W fun e w' => e = .returned (.tuple #[.agg #[.int .u32 0, .int .u32 0], .int .i64 9]) ∧ Below W.heap.size W w' := by
  have hS := hg.sum
  have HR := Aside0.mk hr
  have HFT := Aside0.mk hft
  clear hr hft
  have HB := Aside0.mk (Below.refl W.heap.size W)
  obtain ⟨v, h⟩ := h
  have h5 := h.1
  obtain ⟨A, c, rfl⟩ := h.val
  have q0 := blk_cell h5 0
  have q1 := blk_cell h5 1
  have q2 := blk_cell h5 2
  have f1 := blk_frozen h5 1
  have f2 := blk_frozen h5 2
  have hlt := h.lt
  simp only [List.getElem?_toArray, List.getElem?_cons_zero, List.getElem?_cons_succ] at q0 q1 q2
  have hlen := hg.len
  have H := Aside0.mk h
  have HG := Aside0.mk hg
  clear h h5 hg
  subst hf
  have z1 : decide (lim < sumOf bs + n) = true := by simp; omega
  have hwr : IntKind.i64.wrap (sumOf bs + n) = sumOf bs + n := IntWalk.i64_in _ (by omega)
  go_enter Try.func36, Try.ntmps36
  go_wp2_with (first | (go_at_call 51; (with_reducible refine (rround_c _ _).mono ?_); rintro e w1 ⟨rfl, hb⟩; rw [HR.out, HFT.out]; have B4 := Aside0.mk (blk_below (o := .cells #[.int .u32 0, .int .u32 0] 85 (0, 0)) (g := W.heap.size) (by repeat (first | (with_reducible refine blk_drewN ?_ _) | (with_reducible refine blk_drew ?_) | exact blk_new' (by first | rfl | simp) | (with_reducible refine blk_alloc ?_ _))) hb); have n0_ := Aside0.mk (below_step (by repeat (first | (with_reducible first | exact HB.out | apply below_alloc | apply pw_below_drewN | apply below_drew1) | exact HB.out)) hb); clear HB; have HB := n0_; clear n0_; clear q0 q1 q2 f1 f2 hlt; have HA := Aside0.mk (H.out.below HB.out); have q0 := blk_cell HA.out.1 0; have q1 := blk_cell HA.out.1 1; have q2 := blk_cell HA.out.1 2; have f2 := blk_frozen HA.out.1 2; have hlt := HA.out.lt; have y0 := blk_cell B4.out 0; have y1 := blk_cell B4.out 1; have yf0 := blk_frozen B4.out 0; have yf1 := blk_frozen B4.out 1; have y4 := blk_lt B4.out; simp only [List.getElem?_toArray, List.getElem?_cons_zero, List.getElem?_cons_succ] at q0 q1 q2 y0 y1; clear hb))
  go_quiet ((go_at_call 26; exact (Calls.mono (rc_charged (RV.rx (HA.out.below (by repeat (first | (with_reducible first | exact Below.refl _ _ | apply pw_below_drewN | apply below_drew1 | apply below_drew) | exact Below.refl _ _)))) HG.out) (by rintro e w8 ⟨rfl, rfl⟩; first | exact ⟨rfl, 0, rfl⟩ | exact ⟨rfl, _, rfl⟩))))
  go_wp2
  have b6 := blk_set (blk_drewN B4.out nq) 0 (.int .u32 0)
  have b7 := blk_set b6 1 (.int .u32 0)
  have yr0 := blk_cell b6 0
  have yr1 := blk_cell b7 1
  have yr2 := blk_cell b7 0
  simp at yr0 yr1 yr2
  exact bodyPost_ret (v := .tuple #[.agg #[.int .u32 0, .int .u32 0], .int .i64 9]) (by simp [results, Try.results36, go_sem, yr0, yr1, yr2]) rfl ⟨rfl, (show Below W.heap.size W _ by repeat (first | (with_reducible first | exact HB.out | apply below_alloc | apply pw_below_drewN | apply below_drew1 | apply below_drew) | (refine below_set ?_ (Nat.le_refl W.heap.size)) | exact HB.out))⟩
/-- What a fitting Alloc comes to. -/
def AOk (W : World) (g : Nat) (cap lim : Int) (bs : List S114) (s : ByteArray) (n : Int) (e : Ending) (w' : World) : Prop := ∃ k : Nat, k ≤ bs.length ∧ (∀ j, j < k → 0 < (bk bs j).f1) ∧ ((k = 4096 ∧ bs.length = 4096 ∧ e = .returned (.tuple #[.agg #[.int .u32 0, .int .u32 0], .int .i64 11]) ∧ RX w' g cap lim bs ∧ FR g W w') ∨ (k < 4096 ∧ k = bs.length ∧ e = .returned (.tuple #[.agg #[.int .u32 (k : Int), .int .u32 1], .int .i64 0]) ∧ RX w' g cap lim (bs ++ [⟨1, n, s⟩]) ∧ FR g W w') ∨ (k < bs.length ∧ (bk bs k).f1 ≤ 0 ∧ e = .returned (.tuple #[.agg #[.int .u32 (k : Int), .int .u32 (bk bs k).f0], .int .i64 0]) ∧ RX w' g cap lim (bs.set k ⟨(bk bs k).f0, n, s⟩) ∧ FR g W w'))
set_option maxHeartbeats 2000000 in
set_option maxRecDepth 100000 in
theorem ra_ok {W : World} {g : Nat} {cap lim : Int} {bs : List S114} (h : RX W g cap lim bs) (hg : Good bs) (s : ByteArray) (n : Int) (ft : Bool) (hr : rnd (s.size : Int) = n) (hft : fit (s.size : Int) = ft) (hf : ft = true) (hn00 : 0 < n) (hn0 : 0 ≤ n) (hn1 : n ≤ 1024) (hb : sumOf bs + n ≤ lim) : Calls Try.prog 36 #[.pointer (some ⟨g, 0, none⟩), .string s] W fun e w' => AOk W g cap lim bs s n e w' := by
  have hS := hg.sum
  have HR := Aside0.mk hr
  have HFT := Aside0.mk hft
  clear hr hft
  have HB := Aside0.mk (Below.refl W.heap.size W)
  obtain ⟨v, h⟩ := h
  have h5 := h.1
  obtain ⟨A, c, rfl⟩ := h.val
  have q0 := blk_cell h5 0
  have q1 := blk_cell h5 1
  have q2 := blk_cell h5 2
  have f1 := blk_frozen h5 1
  have f2 := blk_frozen h5 2
  have hlt := h.lt
  simp only [List.getElem?_toArray, List.getElem?_cons_zero, List.getElem?_cons_succ] at q0 q1 q2
  have hlen := hg.len
  have H := Aside0.mk h
  have HG := Aside0.mk hg
  clear h h5 hg
  subst hf
  have z1 : decide (lim < sumOf bs + n) = false := by simp; omega
  have hwr : IntKind.i64.wrap (sumOf bs + n) = sumOf bs + n := IntWalk.i64_in _ (by omega)
  go_enter Try.func36, Try.ntmps36
  go_wp2_with (first | (go_at_call 51; (with_reducible refine (rround_c _ _).mono ?_); rintro e w1 ⟨rfl, hb⟩; rw [HR.out, HFT.out]; have B4 := Aside0.mk (blk_below (o := .cells #[.int .u32 0, .int .u32 0] 85 (0, 0)) (g := W.heap.size) (by repeat (first | (with_reducible refine blk_drewN ?_ _) | (with_reducible refine blk_drew ?_) | exact blk_new' (by first | rfl | simp) | (with_reducible refine blk_alloc ?_ _))) hb); have n0_ := Aside0.mk (below_step (by repeat (first | (with_reducible first | exact HB.out | apply below_alloc | apply pw_below_drewN | apply below_drew1) | exact HB.out)) hb); clear HB; have HB := n0_; clear n0_; clear q0 q1 q2 f1 f2 hlt; have HA := Aside0.mk (H.out.below HB.out); have q0 := blk_cell HA.out.1 0; have q1 := blk_cell HA.out.1 1; have q2 := blk_cell HA.out.1 2; have f2 := blk_frozen HA.out.1 2; have hlt := HA.out.lt; have y0 := blk_cell B4.out 0; have y1 := blk_cell B4.out 1; have yf0 := blk_frozen B4.out 0; have yf1 := blk_frozen B4.out 1; have y4 := blk_lt B4.out; simp only [List.getElem?_toArray, List.getElem?_cons_zero, List.getElem?_cons_succ] at q0 q1 q2 y0 y1; clear hb))
  go_quiet ((go_at_call 26; exact (Calls.mono (rc_charged (RV.rx (HA.out.below (by repeat (first | (with_reducible first | exact Below.refl _ _ | apply pw_below_drewN | apply below_drew1 | apply below_drew) | exact Below.refl _ _)))) HG.out) (by rintro e w8 ⟨rfl, rfl⟩; first | exact ⟨rfl, 0, rfl⟩ | exact ⟨rfl, _, rfl⟩))))
  clear hwr
  go_wp2
  have HBq := Aside0.mk (show Below W.heap.size W _ from HB.out)
  have HAq := HA
  clear HBq
  go_loop [8] (fun v => ∃ k : Nat, v = .int .i64 k ∧ k ≤ bs.length ∧ Aside0 (∀ j, j < k → 0 < (bk bs j).f1)) (fun v => bs.length - (intOf v).toNat)
  case atStart => exact ⟨0, rfl, Nat.zero_le _, ⟨fun j hj => by omega⟩⟩
  case round =>
    obtain ⟨k, rfl, hk, HLO⟩ := hrel
    by_cases hkl : k < bs.length
    · obtain ⟨gb, cb, hbv, hcc, hff, hne, hlt2, hge, csb, hcb⟩ := HAq.out.elem k hkl
      injection hbv with z1_ z2_ z3_
      subst z1_ z3_
      clear z2_
      have HE := Aside0.mk hcc
      have HCB := Aside0.mk hcb
      have e1 := hcc 1 _ rfl
      clear hcc hff hcb
      by_cases hb : 0 < (bk bs k).f1
      · have hdb : decide (0 < (bk bs k).f1) = true := by simp; omega
        go_wp2
        all_goals go_round
        all_goals (try (case rel => exact ⟨k + 1, by go_num, by omega, ⟨lo_succ HLO.out hb⟩⟩))
        all_goals (try (case measure => (simp [intOf] <;> omega)))
      · have hdb : decide (0 < (bk bs k).f1) = false := by simp; omega
        have hk4 : ((k : Int) == 4096) = false := by simp; omega
        have hkn : (k == bs.length) = false := by simp; omega
        have hki : ((k : Int) == (bs.length : Int)) = false := by simp; omega
        go_upto_region 13 with fail
        generalize hWX : w1.drewN nq = WX
        have HX := Aside0.mk (show RV' WX g cap lim (.slice (some ⟨gb, 0, none⟩) bs.length c) (bs.map toR) from hWX ▸ HAq.out.below (bel_drewN w1 nq))
        have BX4 := Aside0.mk (show WX.heap[W.heap.size]? = some (.cells #[.int .u32 0, .int .u32 0] 85 (0, 0)) from hWX ▸ blk_drewN B4.out nq)
        have FX := Aside0.mk (show FR g W WX from hWX ▸ FR.drewN (FR.of_below HB.out) nq)
        have HRK := Aside0.mk (show (bs.map toR)[k]? = some (⟨(bk bs k).f0, decide (0 < (bk bs k).f1), (bk bs k).f1, (bk bs k).f2⟩ : S99) from mapR_get bs k hkl)
        have HLN := Aside0.mk (show (bs.map toR).length = bs.length from List.length_map _)
        have HKL := Aside0.mk hkl
        have HBS := Aside0.mk (show (bs.map toR).set k ⟨(bk bs k).f0, true, n, s⟩ = (bs.set k ⟨(bk bs k).f0, n, s⟩).map toR by rw [← mapR_set, toR_new _ _ _ hn00])
        clear hWX HB HA HAq B4 q0 q1 q2 f2 hlt y0 y1 yf0 yf1 y4 e1 HE HCB
        have ⟨HE_, HCB_⟩ := HX.out.elem k HKL.out _ HRK.out
        obtain ⟨csb, hcb⟩ := HCB_
        have HCB := Aside0.mk hcb
        have e0 := HE_ 0 _ rfl
        have e1 := HE_ 1 _ rfl
        have e2 := HE_ 2 _ rfl
        have e3 := HE_ 3 _ rfl
        clear HE_ hcb
        rw [Nat.add_zero] at e0
        have q2 := blk_cell HX.out.1 2
        have hlt := blk_lt HX.out.1
        have zf0 := blk_frozen HCB.out (k * 4)
        have zf1 := blk_frozen HCB.out (k * 4 + 1)
        have zf2 := blk_frozen HCB.out (k * 4 + 2)
        have zf3 := blk_frozen HCB.out (k * 4 + 3)
        have lb := blk_lt HCB.out
        have x1 : W.heap.size ≠ g := blk_ne BX4.out HX.out.1 (by decide)
        have x2 : W.heap.size ≠ gb := blk_ne BX4.out HCB.out (by decide)
        have x3 : gb ≠ g := blk_ne HCB.out HX.out.1 (by decide)
        have x4 : g ≠ gb := fun e => x3 e.symm
        have x5 : g ≠ W.heap.size := fun e => x1 e.symm
        have x6 : gb ≠ W.heap.size := fun e => x2 e.symm
        have y0 := blk_cell BX4.out 0
        have y1 := blk_cell BX4.out 1
        have yf0 := blk_frozen BX4.out 0
        have yf1 := blk_frozen BX4.out 1
        have y4 := blk_lt BX4.out
        simp only [List.getElem?_toArray, List.getElem?_cons_zero, List.getElem?_cons_succ] at q2 y0 y1
        have hkl0 := HKL.out
        rw [← HLN.out] at hkl0
        have A2 := RV'.bput HX.out k HRK.out (gb := gb) (cb := c) (by rw [HLN.out]) 0 (by decide) (.int .u32 (bk bs k).f0) (b' := ⟨(bk bs k).f0, (⟨(bk bs k).f0, decide (0 < (bk bs k).f1), (bk bs k).f1, (bk bs k).f2⟩ : S99).f1, (⟨(bk bs k).f0, decide (0 < (bk bs k).f1), (bk bs k).f1, (bk bs k).f2⟩ : S99).f2, (⟨(bk bs k).f0, decide (0 < (bk bs k).f1), (bk bs k).f1, (bk bs k).f2⟩ : S99).f3⟩) rfl
        have A3 := RV'.bput A2.1 k (b := ⟨(bk bs k).f0, (⟨(bk bs k).f0, decide (0 < (bk bs k).f1), (bk bs k).f1, (bk bs k).f2⟩ : S99).f1, (⟨(bk bs k).f0, decide (0 < (bk bs k).f1), (bk bs k).f1, (bk bs k).f2⟩ : S99).f2, (⟨(bk bs k).f0, decide (0 < (bk bs k).f1), (bk bs k).f1, (bk bs k).f2⟩ : S99).f3⟩) (by rw [List.getElem?_set_self hkl0]) (gb := gb) (cb := c) (by rw [List.length_set, HLN.out]) 1 (by decide) (.bool true) (b' := ⟨(bk bs k).f0, true, (⟨(bk bs k).f0, decide (0 < (bk bs k).f1), (bk bs k).f1, (bk bs k).f2⟩ : S99).f2, (⟨(bk bs k).f0, decide (0 < (bk bs k).f1), (bk bs k).f1, (bk bs k).f2⟩ : S99).f3⟩) rfl
        have A4 := RV'.bput A3.1 k (b := ⟨(bk bs k).f0, true, (⟨(bk bs k).f0, decide (0 < (bk bs k).f1), (bk bs k).f1, (bk bs k).f2⟩ : S99).f2, (⟨(bk bs k).f0, decide (0 < (bk bs k).f1), (bk bs k).f1, (bk bs k).f2⟩ : S99).f3⟩) (by rw [List.getElem?_set_self (by rw [List.length_set]; exact hkl0)]) (gb := gb) (cb := c) (by rw [List.length_set, List.length_set, HLN.out]) 2 (by decide) (.int .i64 n) (b' := ⟨(bk bs k).f0, true, n, (⟨(bk bs k).f0, decide (0 < (bk bs k).f1), (bk bs k).f1, (bk bs k).f2⟩ : S99).f3⟩) rfl
        have A5 := RV'.bput A4.1 k (b := ⟨(bk bs k).f0, true, n, (⟨(bk bs k).f0, decide (0 < (bk bs k).f1), (bk bs k).f1, (bk bs k).f2⟩ : S99).f3⟩) (by rw [List.getElem?_set_self (by rw [List.length_set, List.length_set]; exact hkl0)]) (gb := gb) (cb := c) (by rw [List.length_set, List.length_set, List.length_set, HLN.out]) 3 (by decide) (.string s) (b' := ⟨(bk bs k).f0, true, n, s⟩) rfl
        simp only [Nat.add_zero] at A2 A3 A4 A5
        have F5 := (((FX.out.trans A2.2).trans A3.2).trans A4.2).trans A5.2
        have R5 := RX.of' A5.1 (bs := bs.set k ⟨(bk bs k).f0, n, s⟩) (by rw [List.set_set, List.set_set, List.set_set]; exact HBS.out)
        have b5 := blk_far (p := ⟨gb, k * 4 + 3, none⟩) (blk_far (p := ⟨gb, k * 4 + 2, none⟩) (blk_far (p := ⟨gb, k * 4 + 1, none⟩) (blk_far (p := ⟨gb, k * 4, none⟩) BX4.out x2 (.int .u32 (bk bs k).f0)) x2 (.bool true)) x2 (.int .i64 n)) x2 (.string s)
        have b6 := blk_set b5 0 (.int .u32 (k : Int))
        have b7 := blk_set b6 1 (.int .u32 (bk bs k).f0)
        have yr0 := blk_cell b6 0
        have yr1 := blk_cell b7 1
        have yr2 := blk_cell b7 0
        simp at yr0 yr1 yr2
        have R7 := (R5.otherR b5 0 (.int .u32 (k : Int))).otherR b6 1 (.int .u32 (bk bs k).f0)
        have F7 := (F5.setNew (Nat.le_refl _) 0 (.int .u32 (k : Int))).setNew (Nat.le_refl _) 1 (.int .u32 (bk bs k).f0)
        have HR7 := Aside0.mk R7
        have HF7 := Aside0.mk F7
        have Hy0 := Aside0.mk yr0
        have Hy1 := Aside0.mk yr1
        have Hy2 := Aside0.mk yr2
        clear A2 A3 A4 A5 F5 R5 b5 b6 b7 yr0 yr1 yr2 R7 F7 hkl0
        go_region_law (fail)
        all_goals go_wp2
        all_goals have yr0 := Hy0.out
        all_goals have yr1 := Hy1.out
        all_goals have yr2 := Hy2.out
        all_goals exact bodyPost_ret (v := .tuple #[.agg #[.int .u32 (k : Int), .int .u32 (bk bs k).f0], .int .i64 0]) (by simp [results, Try.results36, go_sem, yr0, yr1, yr2]) rfl (⟨k, hk, HLO.out, Or.inr (Or.inr ⟨hkl, by omega, rfl, (by first | with_reducible exact HR7.out | with_reducible exact RX.drew HR7.out | with_reducible exact RX.drewN HR7.out _), (by first | with_reducible exact HF7.out | with_reducible exact FR.drew HF7.out | with_reducible exact FR.drewN HF7.out _)⟩)⟩)
    · have hke : k = bs.length := by omega
      have hHd := HAq.out.below (bel_drewN w1 nq)
      have HAd := Aside0.mk hHd
      clear hHd
      by_cases hfull : bs.length = 4096
      · subst hke
        have hk4 : ((bs.length : Int) == 4096) = true := by simp; omega
        go_wp2
        have b6 := blk_set (blk_drewN B4.out nq) 0 (.int .u32 0)
        have b7 := blk_set b6 1 (.int .u32 0)
        have yr0 := blk_cell b6 0
        have yr1 := blk_cell b7 1
        have yr2 := blk_cell b7 0
        simp at yr0 yr1 yr2
        have R7 := Aside0.mk (((RV.rx HAd.out).otherR (blk_drewN B4.out nq) 0 (.int .u32 0)).otherR b6 1 (.int .u32 0))
        have F7 := Aside0.mk (((FR.drewN (FR.of_below (g := g) HB.out) nq).setNew (Nat.le_refl _) 0 (.int .u32 0)).setNew (Nat.le_refl _) 1 (.int .u32 0))
        exact bodyPost_ret (v := .tuple #[.agg #[.int .u32 0, .int .u32 0], .int .i64 11]) (by simp [results, Try.results36, go_sem, yr0, yr1, yr2]) rfl ⟨bs.length, hk, HLO.out, Or.inl ⟨hfull, hfull, rfl, (by first | with_reducible exact R7.out | with_reducible exact RX.drew R7.out | with_reducible exact RX.drewN R7.out _), (by first | with_reducible exact F7.out | with_reducible exact FR.drew F7.out | with_reducible exact FR.drewN F7.out _)⟩⟩
      · have hk4 : ((bs.length : Int) == 4096) = false := by simp; omega
        have HSz : Aside0 (((bs.map toR).length + 1) * 32 ≤ 140737488355328) := ⟨by rw [List.length_map]; omega⟩
        have hl1 : (bs.map toR ++ [(⟨1, false, 0, ⟨#[]⟩⟩ : S99)]).length = bs.length + 1 := by simp
        have HL1 := Aside0.mk hl1
        have HKE := Aside0.mk hke
        clear hl1
        subst hke
        go_upto_region 13 with (first | ((with_reducible refine gate_builtin (b := .append) (xs := #[.tmp 61, .tmp 63]) rfl ?_); at_builtin; refine Kd.R_append k99 (w0 := w1.drewN nq) g rfl (.tmp 61) (.tmp 63) 64 99 (.agg #[.int .u32 0, .bool false, .int .i64 0, .string ⟨#[]⟩]) 32 rfl Try.underlying64 infoBlkR rfl (by decide) (by decide) (.slice A bs.length c) (bs.map toR) (⟨1, false, 0, ⟨#[]⟩⟩ : S99) [.int .u32 1, .bool false, .int .i64 0, .string ⟨#[]⟩] (fun _ => True) (fun _ => False) rfl rfl ?aP (fun _ hk => hk.elim) (fun _ _ => trivial) HAd.out.2 (Below.refl _ _) (Nat.le_of_lt HAd.out.lt) HSz.out ?_; (case aP => exact ⟨[.int .u32 1], [.bool false, .int .i64 0, .string ⟨#[]⟩], rfl, rfl, [.bool false], [.int .i64 0, .string ⟨#[]⟩], rfl, rfl, [.int .i64 0], [.string ⟨#[]⟩], rfl, rfl, rfl⟩); intro v1 w5 r1 b1 g1 e1; obtain ⟨inn_, ho_⟩ := Kd.R_own r1; rw [HL1.out] at ho_; obtain ⟨gb, cb, e2, _, _⟩ := ho_.form (Nat.succ_pos _); subst e2; have N5 := Aside0.mk (blk_grown HAd.out.1 g1 (Kd.R_ne HAd.out.2 HAd.out.1 (by decide))); have M5 := Aside0.mk (blk_grown (blk_drewN B4.out nq) g1 (Kd.R_ne HAd.out.2 (blk_drewN B4.out nq) (by decide))); have R1 := Aside0.mk r1; have FX5 := Aside0.mk ((FR.drewN (FR.of_below HB.out) nq).trans (FR.grown g1 (fun b hb_ => ⟨own_base (Kd.R_own HAd.out.2).choose_spec b hb_, by obtain ⟨cells, hc⟩ := Kd.R_typed HAd.out.2 b hb_; exact ⟨cells, _, hc, .inr rfl⟩⟩))); have p2 := blk_cell N5.out 2; have pf := blk_frozen N5.out 2; have pl := blk_lt N5.out; simp only [List.getElem?_toArray, List.getElem?_cons_zero, List.getElem?_cons_succ] at p2; clear r1 g1 e1 b1 ho_ q0 q1 q2 f2 hlt y0 y1 yf0 yf1 y4))
        generalize hWX : w5.setCell ⟨g, 2, none⟩ (.slice (some ⟨gb, 0, none⟩) (bs.length + 1) cb) = WX
        obtain ⟨k, hkk⟩ : ∃ k, bs.length = k := ⟨_, rfl⟩
        have HX := Aside0.mk (show RV' WX g cap lim (.slice (some ⟨gb, 0, none⟩) (k + 1) cb) (bs.map toR ++ [(⟨1, false, 0, ⟨#[]⟩⟩ : S99)]) from hkk ▸ hWX ▸ ⟨blk_put N5.out 2 _ rfl, Kd.R_mono (Kd.R_far (p := ⟨g, 2, none⟩) (Kd.R_types R1.out N5.out (fun q hq => by rw [kBE82 hq]; decide)) (fun _ hk => hk.2) _) (fun _ _ => trivial)⟩)
        have BX4 := Aside0.mk (show WX.heap[W.heap.size]? = some (.cells #[.int .u32 0, .int .u32 0] 85 (0, 0)) from hWX ▸ blk_far (p := ⟨g, 2, none⟩) M5.out (blk_ne M5.out N5.out (by decide)) _)
        have FX := Aside0.mk (show FR g W WX from hWX ▸ FX5.out.trans (FR.set N5.out (.inl rfl) (Nat.le_refl g) 2 _))
        have HRK := Aside0.mk (show (bs.map toR ++ [(⟨1, false, 0, ⟨#[]⟩⟩ : S99)])[k]? = some (⟨1, false, 0, ⟨#[]⟩⟩ : S99) by rw [← hkk]; simp)
        have HLN := Aside0.mk (show (bs.map toR ++ [(⟨1, false, 0, ⟨#[]⟩⟩ : S99)]).length = k + 1 by rw [← hkk]; simp)
        have HKL := Aside0.mk (show k < k + 1 by omega)
        have HBS := Aside0.mk (show (bs.map toR ++ [(⟨1, false, 0, ⟨#[]⟩⟩ : S99)]).set k ⟨1, true, n, s⟩ = (bs ++ [(⟨1, n, s⟩ : S114)]).map toR by rw [← hkk, toR_new _ _ _ hn00]; simp)
        have HKK := Aside0.mk hkk
        have hkl4 : k ≤ 4096 := by omega
        have hklt : (k : Int) < (k : Int) + 1 := by omega
        rw [hkk] at hk hlen hk4 ⊢
        clear hWX HB HA HAq HAd B4 N5 M5 R1 FX5
        have ⟨HE_, HCB_⟩ := HX.out.elem k HKL.out _ HRK.out
        obtain ⟨csb, hcb⟩ := HCB_
        have HCB := Aside0.mk hcb
        have e0 := HE_ 0 _ rfl
        have e1 := HE_ 1 _ rfl
        have e2 := HE_ 2 _ rfl
        have e3 := HE_ 3 _ rfl
        clear HE_ hcb
        rw [Nat.add_zero] at e0
        have q2 := blk_cell HX.out.1 2
        have hlt := blk_lt HX.out.1
        have zf0 := blk_frozen HCB.out (k * 4)
        have zf1 := blk_frozen HCB.out (k * 4 + 1)
        have zf2 := blk_frozen HCB.out (k * 4 + 2)
        have zf3 := blk_frozen HCB.out (k * 4 + 3)
        have lb := blk_lt HCB.out
        have x1 : W.heap.size ≠ g := blk_ne BX4.out HX.out.1 (by decide)
        have x2 : W.heap.size ≠ gb := blk_ne BX4.out HCB.out (by decide)
        have x3 : gb ≠ g := blk_ne HCB.out HX.out.1 (by decide)
        have x4 : g ≠ gb := fun e => x3 e.symm
        have x5 : g ≠ W.heap.size := fun e => x1 e.symm
        have x6 : gb ≠ W.heap.size := fun e => x2 e.symm
        have y0 := blk_cell BX4.out 0
        have y1 := blk_cell BX4.out 1
        have yf0 := blk_frozen BX4.out 0
        have yf1 := blk_frozen BX4.out 1
        have y4 := blk_lt BX4.out
        simp only [List.getElem?_toArray, List.getElem?_cons_zero, List.getElem?_cons_succ] at q2 y0 y1
        have hkl0 := HKL.out
        rw [← HLN.out] at hkl0
        have A2 := RV'.bput HX.out k HRK.out (gb := gb) (cb := cb) (by rw [HLN.out]) 0 (by decide) (.int .u32 1) (b' := ⟨1, (⟨1, false, 0, ⟨#[]⟩⟩ : S99).f1, (⟨1, false, 0, ⟨#[]⟩⟩ : S99).f2, (⟨1, false, 0, ⟨#[]⟩⟩ : S99).f3⟩) rfl
        have A3 := RV'.bput A2.1 k (b := ⟨1, (⟨1, false, 0, ⟨#[]⟩⟩ : S99).f1, (⟨1, false, 0, ⟨#[]⟩⟩ : S99).f2, (⟨1, false, 0, ⟨#[]⟩⟩ : S99).f3⟩) (by rw [List.getElem?_set_self hkl0]) (gb := gb) (cb := cb) (by rw [List.length_set, HLN.out]) 1 (by decide) (.bool true) (b' := ⟨1, true, (⟨1, false, 0, ⟨#[]⟩⟩ : S99).f2, (⟨1, false, 0, ⟨#[]⟩⟩ : S99).f3⟩) rfl
        have A4 := RV'.bput A3.1 k (b := ⟨1, true, (⟨1, false, 0, ⟨#[]⟩⟩ : S99).f2, (⟨1, false, 0, ⟨#[]⟩⟩ : S99).f3⟩) (by rw [List.getElem?_set_self (by rw [List.length_set]; exact hkl0)]) (gb := gb) (cb := cb) (by rw [List.length_set, List.length_set, HLN.out]) 2 (by decide) (.int .i64 n) (b' := ⟨1, true, n, (⟨1, false, 0, ⟨#[]⟩⟩ : S99).f3⟩) rfl
        have A5 := RV'.bput A4.1 k (b := ⟨1, true, n, (⟨1, false, 0, ⟨#[]⟩⟩ : S99).f3⟩) (by rw [List.getElem?_set_self (by rw [List.length_set, List.length_set]; exact hkl0)]) (gb := gb) (cb := cb) (by rw [List.length_set, List.length_set, List.length_set, HLN.out]) 3 (by decide) (.string s) (b' := ⟨1, true, n, s⟩) rfl
        simp only [Nat.add_zero] at A2 A3 A4 A5
        have F5 := (((FX.out.trans A2.2).trans A3.2).trans A4.2).trans A5.2
        have R5 := RX.of' A5.1 (bs := bs ++ [⟨1, n, s⟩]) (by rw [List.set_set, List.set_set, List.set_set]; exact HBS.out)
        have b5 := blk_far (p := ⟨gb, k * 4 + 3, none⟩) (blk_far (p := ⟨gb, k * 4 + 2, none⟩) (blk_far (p := ⟨gb, k * 4 + 1, none⟩) (blk_far (p := ⟨gb, k * 4, none⟩) BX4.out x2 (.int .u32 1)) x2 (.bool true)) x2 (.int .i64 n)) x2 (.string s)
        have b6 := blk_set b5 0 (.int .u32 (k : Int))
        have b7 := blk_set b6 1 (.int .u32 1)
        have yr0 := blk_cell b6 0
        have yr1 := blk_cell b7 1
        have yr2 := blk_cell b7 0
        simp at yr0 yr1 yr2
        have R7 := (R5.otherR b5 0 (.int .u32 (k : Int))).otherR b6 1 (.int .u32 1)
        have F7 := (F5.setNew (Nat.le_refl _) 0 (.int .u32 (k : Int))).setNew (Nat.le_refl _) 1 (.int .u32 1)
        have HR7 := Aside0.mk R7
        have HF7 := Aside0.mk F7
        have Hy0 := Aside0.mk yr0
        have Hy1 := Aside0.mk yr1
        have Hy2 := Aside0.mk yr2
        clear A2 A3 A4 A5 F5 R5 b5 b6 b7 yr0 yr1 yr2 R7 F7 hkl0
        go_region_law (fail)
        all_goals go_wp2
        all_goals have yr0 := Hy0.out
        all_goals have yr1 := Hy1.out
        all_goals have yr2 := Hy2.out
        all_goals exact bodyPost_ret (v := .tuple #[.agg #[.int .u32 (k : Int), .int .u32 1], .int .i64 0]) (by simp [results, Try.results36, go_sem, yr0, yr1, yr2]) rfl (⟨k, (by rw [HKK.out]; exact Nat.le_refl _), (by rw [← HKK.out]; exact HLO.out), Or.inr (Or.inl ⟨by omega, HKK.out.symm, rfl, (by first | with_reducible exact HR7.out | with_reducible exact RX.drew HR7.out | with_reducible exact RX.drewN HR7.out _), (by first | with_reducible exact HF7.out | with_reducible exact FR.drew HF7.out | with_reducible exact FR.drewN HF7.out _)⟩)⟩)
theorem r_alloc {W : World} {g : Nat} {cap lim : Int} {bs : List S114} (h : RX W g cap lim bs) (hg : Good bs) (s : ByteArray) : Calls Try.prog 36 #[.pointer (some ⟨g, 0, none⟩), .string s] W fun e w' => e = .returned (.tuple #[.agg #[.int .u32 (allocE lim bs s.size).1, .int .u32 (allocE lim bs s.size).2.1], .int .i64 (allocE lim bs s.size).2.2]) ∧ RX w' g cap lim (allocB lim bs s) ∧ FR g W w' := by
  have hr := rnd_le (s.size : Int)
  have hn1 : ¬ (true = false) := by simp
  cases hf : fit (s.size : Int)
  · refine (ra_arg h hg s _ _ rfl hf rfl).mono ?_
    rintro e w' ⟨rfl, hb⟩
    unfold allocE allocB
    rw [hf, if_pos rfl, if_pos rfl]
    exact ⟨rfl, h.below hb, FR.of_below hb⟩
  · have hr16 : 0 < rnd (s.size : Int) := by
      unfold fit at hf
      simp at hf
      have := rnd_facts (s.size : Int) (by omega) (by omega)
      omega
    by_cases hl : lim < sumOf bs + rnd (s.size : Int)
    · refine (ra_budget h hg s _ _ rfl hf rfl hr.1 hr.2 hl).mono ?_
      rintro e w' ⟨rfl, hb⟩
      unfold allocE allocB
      rw [hf, if_neg hn1, if_neg hn1, if_pos hl, if_pos hl]
      exact ⟨rfl, h.below hb, FR.of_below hb⟩
    · refine (ra_ok h hg s _ _ rfl hf rfl hr16 hr.1 hr.2 (by omega)).mono ?_
      rintro e w' ⟨k, hk, hlo, hx⟩
      have hlen := hg.len
      rcases hx with ⟨h1, h2, rfl, hR, hF⟩ | ⟨h1, h2, rfl, hR, hF⟩ | ⟨h1, h2, rfl, hR, hF⟩
      · obtain ⟨e1, e2⟩ := alloc_eval s.size k hf hl hlen hk hlo (.inl (by omega))
        rw [e1, e2 s rfl, if_pos h1, if_pos h1]
        exact ⟨rfl, hR, hF⟩
      · obtain ⟨e1, e2⟩ := alloc_eval s.size k hf hl hlen hk hlo (.inl h2)
        have n4 : ¬ k = 4096 := by omega
        rw [e1, e2 s rfl, if_neg n4, if_neg n4, if_pos h2, if_pos h2]
        exact ⟨rfl, hR, hF⟩
      · obtain ⟨e1, e2⟩ := alloc_eval s.size k hf hl hlen hk hlo (.inr h2)
        have n4 : ¬ k = 4096 := by omega
        have n5 : ¬ k = bs.length := by omega
        rw [e1, e2 s rfl, if_neg n4, if_neg n4, if_neg n5, if_neg n5]
        exact ⟨rfl, hR, hF⟩
end Go.Proofs.Ytibcbeibehaeeaa.Hand
