/- Arenas, all told: the free slots and the sum are told by the blocks. -/
import Derived.Test.YtdnpfnoobjbanaaHR
set_option linter.unusedVariables false
set_option linter.unusedSimpArgs false
namespace Go.Proofs.Ytdnpfnoobjbanaa.Hand
open Go.RowKit Go.Proofs.Ytdnpfnoobjbanaa.PArenaPlays Go.Proofs.YtdnpfnoobjbanaaW.PrintWords Go.Proofs.YtdnpfnoobjbanaaW.PrintLast Go.Proofs.YtdnpfnoobjbanaaW.PrintMore

/-- The slots that are free, from slot k on. -/
def freeFrom : Nat → List S77 → List Int
  | _, [] => []
  | k, b :: r => if b.f1 ≤ 0 then (k : Int) :: freeFrom (k + 1) r else freeFrom (k + 1) r
def freeOf (bs : List S77) : List Int := freeFrom 0 bs
def sumOf : List S77 → Int
  | [] => 0
  | b :: r => b.f1 + sumOf r
/-- How many blocks live. -/
def liveOf : List S77 → Nat
  | [] => 0
  | b :: r => (if b.f1 ≤ 0 then 0 else 1) + liveOf r
structure Good (bs : List S77) : Prop where
  len : bs.length ≤ 4096
  ok : ∀ b ∈ bs, 0 ≤ b.f1 ∧ b.f1 ≤ 1024
theorem freeFrom_app : ∀ (a b : List S77) (k : Nat), freeFrom k (a ++ b) = freeFrom k a ++ freeFrom (k + a.length) b
  | [], b, k => by simp [freeFrom]
  | x :: r, b, k => by
    have := freeFrom_app r b (k + 1)
    simp only [List.cons_append, freeFrom, this, List.length_cons]
    rw [show k + 1 + r.length = k + (r.length + 1) by omega]
    split <;> simp
theorem sumOf_app : ∀ (a b : List S77), sumOf (a ++ b) = sumOf a + sumOf b
  | [], b => by simp [sumOf]
  | x :: r, b => by
    have := sumOf_app r b
    simp only [List.cons_append, sumOf, this]
    omega
theorem liveOf_app : ∀ (a b : List S77), liveOf (a ++ b) = liveOf a + liveOf b
  | [], b => by simp [liveOf]
  | x :: r, b => by
    have := liveOf_app r b
    simp only [List.cons_append, liveOf, this]
    omega
theorem live_free : ∀ (a : List S77) (k : Nat), (freeFrom k a).length + liveOf a = a.length
  | [], k => rfl
  | x :: r, k => by
    have := live_free r (k + 1)
    simp only [freeFrom, liveOf, List.length_cons]
    split
    · simp only [List.length_cons]; omega
    · omega
theorem freeFrom_bd : ∀ (a : List S77) (k : Nat), ∀ x ∈ freeFrom k a, (k : Int) ≤ x ∧ x < k + a.length
  | [], k, x, h => by simp [freeFrom] at h
  | b :: r, k, x, h => by
    have ih := freeFrom_bd r (k + 1)
    simp only [freeFrom] at h
    simp only [List.length_cons]
    split at h
    · rcases List.mem_cons.1 h with rfl | h
      · omega
      · have := ih x h; omega
    · have := ih x h; omega
theorem freeFrom_sorted : ∀ (a : List S77) (k : Nat), (freeFrom k a).Pairwise (· ≤ ·)
  | [], k => List.Pairwise.nil
  | b :: r, k => by
    have ih := freeFrom_sorted r (k + 1)
    simp only [freeFrom]
    split
    · refine List.Pairwise.cons (fun x hx => ?_) ih
      have := freeFrom_bd r (k + 1) x hx
      omega
    · exact ih
theorem free_len (bs : List S77) : (freeOf bs).length ≤ bs.length := by
  have := live_free bs 0
  unfold freeOf
  omega
theorem sumOf_bd : ∀ (a : List S77), (∀ b ∈ a, 0 ≤ b.f1 ∧ b.f1 ≤ 1024) → 0 ≤ sumOf a ∧ sumOf a ≤ 1024 * a.length
  | [], _ => by simp [sumOf]
  | b :: r, h => by
    have ih := sumOf_bd r (fun x hx => h x (List.mem_cons_of_mem _ hx))
    have := h b List.mem_cons_self
    simp only [sumOf, List.length_cons]
    omega
theorem Good.sum {bs : List S77} (h : Good bs) : 0 ≤ sumOf bs ∧ sumOf bs ≤ 4194304 := by
  have := sumOf_bd bs h.ok
  have := h.len
  omega
/-- A slot in the midst. -/
theorem split_at (bs : List S77) (i : Nat) (hi : i < bs.length) : ∃ a c, bs = a ++ bk bs i :: c ∧ a.length = i ∧ ∀ x, bs.set i x = a ++ x :: c := by
  have e1 : bs = bs.take i ++ bk bs i :: bs.drop (i + 1) := by
    have : bk bs i = bs[i] := by simp [bk, hi]
    rw [this, ← List.drop_eq_getElem_cons hi, List.take_append_drop]
  refine ⟨bs.take i, bs.drop (i + 1), e1, by simp; omega, fun x => ?_⟩
  rw [List.set_eq_take_append_cons_drop, if_pos hi]
theorem sum_set (bs : List S77) (i : Nat) (hi : i < bs.length) (x : S77) : sumOf (bs.set i x) = sumOf bs - (bk bs i).f1 + x.f1 := by
  obtain ⟨a, c, h1, h2, h3⟩ := split_at bs i hi
  rw [h3 x]
  have : sumOf bs = sumOf (a ++ bk bs i :: c) := by rw [← h1]
  rw [this, sumOf_app, sumOf_app]
  simp only [sumOf]
  omega
theorem live_set (bs : List S77) (i : Nat) (hi : i < bs.length) (x : S77) : (liveOf (bs.set i x) : Int) = liveOf bs - (if (bk bs i).f1 ≤ 0 then 0 else 1) + (if x.f1 ≤ 0 then 0 else 1) := by
  obtain ⟨a, c, h1, h2, h3⟩ := split_at bs i hi
  rw [h3 x]
  have : liveOf bs = liveOf (a ++ bk bs i :: c) := by rw [← h1]
  rw [this, liveOf_app, liveOf_app]
  simp only [liveOf]
  split <;> split <;> omega
theorem free_head {bs : List S77} {i : Int} {r : List Int} (h : freeOf bs = i :: r) : ∃ n : Nat, i = (n : Int) ∧ n < bs.length ∧ (bk bs n).f1 ≤ 0 ∧ (∀ j, j < n → 0 < (bk bs j).f1) ∧ ∀ x : S77, 0 < x.f1 → freeOf (bs.set n x) = r := by
  have key : ∀ (a : List S77) (k : Nat), freeFrom k a = i :: r → ∃ n : Nat, i = ((k + n : Nat) : Int) ∧ n < a.length ∧ (bk a n).f1 ≤ 0 ∧ (∀ j, j < n → 0 < (bk a j).f1) ∧ ∀ x : S77, 0 < x.f1 → freeFrom k (a.set n x) = r := by
    intro a
    induction a with
    | nil => intro k h; simp [freeFrom] at h
    | cons b t ih =>
      intro k h
      simp only [freeFrom] at h
      split at h
      · rename_i hb
        injection h with h1 h2
        refine ⟨0, by simpa using h1.symm, by simp, by simpa [bk] using hb, fun j hj => by omega, fun x hx => ?_⟩
        simp only [List.set_cons_zero, freeFrom]
        rw [if_neg (by omega)]
        exact h2
      · rename_i hb
        obtain ⟨n, e, h1, h2, h3, h4⟩ := ih (k + 1) h
        refine ⟨n + 1, by rw [e]; congr 1; omega, by simpa using h1, by simpa [bk] using h2, fun j hj => ?_, fun x hx => ?_⟩
        · cases j with
          | zero => simp [bk]; omega
          | succ j => have := h3 j (by omega); simpa [bk] using this
        · simp only [List.set_cons_succ, freeFrom]
          rw [if_neg hb]
          exact h4 x hx
  obtain ⟨n, e, h1⟩ := key bs 0 h
  rw [Nat.zero_add] at e
  exact ⟨n, e, h1⟩
theorem free_nil {bs : List S77} (h : freeOf bs = []) : ∀ j, j < bs.length → 0 < (bk bs j).f1 := by
  have key : ∀ (a : List S77) (k : Nat), freeFrom k a = [] → ∀ j, j < a.length → 0 < (bk a j).f1 := by
    intro a
    induction a with
    | nil => intro k h j hj; simp at hj
    | cons b t ih =>
      intro k h j hj
      simp only [freeFrom] at h
      split at h
      · simp at h
      · cases j with
        | zero => simp [bk]; omega
        | succ j => have := ih (k + 1) h j (by simpa using hj); simpa [bk] using this
  exact key bs 0 h
theorem free_snoc {bs : List S77} (h : freeOf bs = []) (x : S77) (hx : 0 < x.f1) : freeOf (bs ++ [x]) = [] := by
  unfold freeOf at *
  rw [freeFrom_app, h]
  simp only [freeFrom]
  rw [if_neg (by omega)]
  rfl
theorem countP_all {l : List Int} {x : Int} (h : ∀ y ∈ l, y < x) : l.countP (· < x) = l.length := by
  rw [List.countP_eq_length]
  intro y hy
  simpa using h y hy
theorem countP_none {l : List Int} {x : Int} (h : ∀ y ∈ l, x ≤ y) : l.countP (· < x) = 0 := by
  rw [List.countP_eq_zero]
  intro y hy
  have := h y hy
  simp; omega
theorem free_set (bs : List S77) (i : Nat) (hi : i < bs.length) (hl : 0 < (bk bs i).f1) (x : S77) (hx : x.f1 ≤ 0) : freeOf (bs.set i x) = insAt (freeOf bs) ((freeOf bs).countP (· < (i : Int))) i := by
  obtain ⟨a, c, h1, h2, h3⟩ := split_at bs i hi
  have e : freeOf bs = freeFrom 0 a ++ freeFrom (i + 1) c := by
    have : freeOf bs = freeOf (a ++ bk bs i :: c) := by rw [← h1]
    rw [this]
    unfold freeOf
    rw [freeFrom_app, h2]
    simp only [freeFrom, Nat.zero_add]
    rw [if_neg (by omega)]
  have b1 : ∀ y ∈ freeFrom 0 a, y < (i : Int) := fun y hy => by have := freeFrom_bd a 0 y hy; omega
  have b2 : ∀ y ∈ freeFrom (i + 1) c, (i : Int) ≤ y := fun y hy => by have := freeFrom_bd c (i + 1) y hy; omega
  rw [h3 x, e, List.countP_append, countP_all b1, countP_none b2]
  unfold freeOf insAt
  rw [freeFrom_app, h2]
  simp only [freeFrom, Nat.zero_add, Nat.add_zero]
  rw [if_pos hx]
  simp
theorem free_same (bs : List S77) (i : Nat) (hi : i < bs.length) (x : S77) (hx : x.f1 = (bk bs i).f1) : freeOf (bs.set i x) = freeOf bs := by
  obtain ⟨a, c, h1, h2, h3⟩ := split_at bs i hi
  have : freeOf bs = freeOf (a ++ bk bs i :: c) := by rw [← h1]
  rw [h3 x, this]
  unfold freeOf
  rw [freeFrom_app, freeFrom_app]
  simp only [freeFrom, hx]
theorem bk_mem {bs : List S77} {i : Nat} (hi : i < bs.length) : bk bs i ∈ bs := by
  have : bk bs i = bs[i] := by simp [bk, hi]
  rw [this]
  exact List.getElem_mem hi
theorem Good.set {bs : List S77} (h : Good bs) (i : Nat) (x : S77) (h0 : 0 ≤ x.f1) (h1 : x.f1 ≤ 1024) : Good (bs.set i x) :=
  ⟨by rw [List.length_set]; exact h.len, fun b hb => by
    rcases List.mem_or_eq_of_mem_set hb with hb | rfl
    · exact h.ok b hb
    · exact ⟨h0, h1⟩⟩
theorem Good.snoc {bs : List S77} (h : Good bs) (x : S77) (hl : bs.length < 4096) (h0 : 0 ≤ x.f1) (h1 : x.f1 ≤ 1024) : Good (bs ++ [x]) :=
  ⟨by simp; omega, fun b hb => by
    rcases List.mem_append.1 hb with hb | hb
    · exact h.ok b hb
    · obtain rfl := List.mem_singleton.1 hb
      exact ⟨h0, h1⟩⟩
theorem Good.nil : Good [] := ⟨by simp, fun b hb => by simp at hb⟩

/-! What an arena's methods come to. -/
/-- The slot, the generation, the error. -/
def allocE (lim : Int) (bs : List S77) (n : Nat) : Int × Int × Int :=
  if fit (n : Int) = false then (0, 0, 1)
  else if lim < sumOf bs + rnd (n : Int) then (0, 0, 9)
  else match freeOf bs with
    | i :: _ => (i, (bk bs i.toNat).f0, 0)
    | [] => if bs.length = 4096 then (0, 0, 11) else ((bs.length : Int), 1, 0)
def allocB (lim : Int) (bs : List S77) (s : ByteArray) : List S77 :=
  if fit (s.size : Int) = false then bs
  else if lim < sumOf bs + rnd (s.size : Int) then bs
  else match freeOf bs with
    | i :: _ => bs.set i.toNat ⟨(bk bs i.toNat).f0, rnd (s.size : Int), s⟩
    | [] => if bs.length = 4096 then bs else bs ++ [⟨1, rnd (s.size : Int), s⟩]
def livesB (bs : List S77) (i : Nat) (gen : Int) : Bool := decide (i < bs.length) && (decide (0 < (bk bs i).f1) && ((bk bs i).f0 == gen))
theorem lives_iff (bs : List S77) (i : Nat) (gen : Int) : livesB bs i gen = true ↔ Lives bs i gen := by
  unfold livesB Lives; simp
theorem lives_not (bs : List S77) (i : Nat) (gen : Int) : livesB bs i gen = false ↔ ¬ Lives bs i gen := by
  rw [← lives_iff]; simp
def getE (bs : List S77) (i : Nat) (gen : Int) : ByteArray := if livesB bs i gen then (bk bs i).f2 else ⟨#[]⟩
def putO (bs : List S77) (i : Nat) (gen : Int) (s : ByteArray) : Bool := livesB bs i gen && decide ((s.size : Int) ≤ (bk bs i).f1)
def putB (bs : List S77) (i : Nat) (gen : Int) (s : ByteArray) : List S77 := if putO bs i gen s then bs.set i ⟨(bk bs i).f0, (bk bs i).f1, s⟩ else bs
def freeB (bs : List S77) (i : Nat) (gen : Int) : List S77 := if livesB bs i gen then bs.set i ⟨IntKind.u32.wrap (gen + 1), 0, ⟨#[]⟩⟩ else bs
def limE (cap : Int) (bs : List S77) (n : Int) : Int := if n < 0 ∨ cap < n then 1 else if n < sumOf bs then 9 else 0
def limL (cap lim : Int) (bs : List S77) (n : Int) : Int := if n < 0 ∨ cap < n then lim else if n < sumOf bs then lim else n
def fitsB (lim : Int) (bs : List S77) (l : List Int) : Bool := (sumV l).2 && decide (sumOf bs + (sumV l).1 ≤ lim)
/-- An arena with such blocks. -/
def AX (W : World) (g : Nat) (cap lim : Int) (bs : List S77) : Prop := ∃ bv fv, Ar W g cap lim (sumOf bs) bv bs fv (freeOf bs)
section
variable {W W1 : World} {g : Nat} {cap lim : Int} {bs : List S77}
theorem AX.below (h : AX W g cap lim bs) (hb : Below W.heap.size W W1) : AX W1 g cap lim bs := by
  obtain ⟨bv, fv, h⟩ := h
  exact ⟨bv, fv, h.below hb⟩
theorem AX.lt (h : AX W g cap lim bs) : g < W.heap.size := by
  obtain ⟨bv, fv, h⟩ := h
  exact h.lt
theorem AX.over {v : Value} {e' : Nat} (h : AX W g cap lim bs) (hty : ∀ k, v.ownBlock = some k → ∃ cells, W.heap[k]? = some (.cells cells e' (0, 0))) (hq : ¬ AT e') (hg : W.grownBy W1 v.ownBlock) : AX W1 g cap lim bs := by
  obtain ⟨bv, fv, h⟩ := h
  exact ⟨bv, fv, h.over hty hq hg⟩
theorem AX.other {b q : Nat} {cs : Array Value} (h : AX W g cap lim bs) (hb : W.heap[b]? = some (.cells cs q (0, 0))) (hq : ¬ AT q) (j : Nat) (v : Value) : AX (W.setCell ⟨b, j, none⟩ v) g cap lim bs := by
  obtain ⟨bv, fv, h⟩ := h
  exact ⟨bv, fv, h.other hb hq j v⟩
theorem x_charged (h : AX W g cap lim bs) : Calls Try.prog 17 #[.pointer (some ⟨g, 0, none⟩)] W fun e w' => e = .returned (.int .i64 (sumOf bs)) ∧ Below W.heap.size W w' := by
  obtain ⟨bv, fv, h⟩ := h
  exact charged_c h
theorem x_limit (h : AX W g cap lim bs) : Calls Try.prog 32 #[.pointer (some ⟨g, 0, none⟩)] W fun e w' => e = .returned (.int .i64 lim) ∧ Below W.heap.size W w' := by
  obtain ⟨bv, fv, h⟩ := h
  exact limit_c h
theorem x_live (h : AX W g cap lim bs) (hg : Good bs) : Calls Try.prog 18 #[.pointer (some ⟨g, 0, none⟩)] W fun e w' => e = .returned (.int .i64 (liveOf bs : Int)) ∧ Below W.heap.size W w' := by
  obtain ⟨bv, fv, h⟩ := h
  have hf := free_len bs
  have hl := hg.len
  refine (live_c h hl (by omega)).mono ?_
  rintro e w' ⟨rfl, hb⟩
  have := live_free bs 0
  unfold freeOf
  rw [show (bs.length : Int) - ((freeFrom 0 bs).length : Int) = (liveOf bs : Int) by omega]
  exact ⟨rfl, hb⟩
theorem x_new (n : Int) (w : World) (h0 : 0 ≤ n) (h1 : n ≤ 16777216) : Calls Try.prog 11 #[.int .i64 n] w fun e w' => e = .returned (.pointer (some ⟨w.heap.size, 0, none⟩)) ∧ AX w' w.heap.size n n [] ∧ Below w.heap.size w w' := by
  refine (anew_yes n w h0 h1).mono ?_
  rintro e w' ⟨rfl, hA, hb⟩
  exact ⟨rfl, ⟨_, _, hA⟩, hb⟩
theorem x_get (h : AX W g cap lim bs) (hg : Good bs) (i : Nat) (gen : Int) (hi : i ≤ 4294967295) : Calls Try.prog 15 #[.pointer (some ⟨g, 0, none⟩), .agg #[.int .u32 (i : Int), .int .u32 gen]] W fun e w' => e = .returned (.tuple #[.string (getE bs i gen), .bool (livesB bs i gen)]) ∧ Below W.heap.size W w' := by
  obtain ⟨bv, fv, h⟩ := h
  cases hl : livesB bs i gen
  · refine (aget_no h i gen hg.len hi ((lives_not _ _ _).1 hl)).mono ?_
    rintro e w' ⟨rfl, hb⟩
    unfold getE
    rw [hl]
    exact ⟨rfl, hb⟩
  · refine (aget_yes h i gen hg.len ((lives_iff _ _ _).1 hl) _ rfl _ rfl).mono ?_
    rintro e w' ⟨rfl, hb⟩
    unfold getE
    rw [hl]
    exact ⟨rfl, hb⟩
theorem x_put (h : AX W g cap lim bs) (hg : Good bs) (i : Nat) (gen : Int) (hi : i ≤ 4294967295) (s : ByteArray) : Calls Try.prog 16 #[.pointer (some ⟨g, 0, none⟩), .agg #[.int .u32 (i : Int), .int .u32 gen], .string s] W fun e w' => e = .returned (.bool (putO bs i gen s)) ∧ AX w' g cap lim (putB bs i gen s) ∧ Fr g W w' := by
  obtain ⟨bv, fv, h⟩ := h
  unfold putB putO
  cases hl : livesB bs i gen
  · refine (aput_no h i gen hg.len hi s ((lives_not _ _ _).1 hl)).mono ?_
    rintro e w' ⟨rfl, hb⟩
    exact ⟨rfl, ⟨bv, fv, h.below hb⟩, Fr.of_below hb⟩
  · by_cases hs : (s.size : Int) ≤ (bk bs i).f1
    · have hL := (lives_iff _ _ _).1 hl
      refine (aput_yes h i gen hg.len hL _ rfl _ rfl s hs _ rfl).mono ?_
      rintro e w' ⟨rfl, hA, hF⟩
      simp only [hs, decide_true, Bool.and_self, if_true]
      refine ⟨trivial, ⟨bv, fv, ?_⟩, hF⟩
      rw [sum_set bs i hL.1, free_same bs i hL.1 ⟨(bk bs i).f0, (bk bs i).f1, s⟩ rfl, Int.sub_add_cancel]
      exact hA
    · refine (aput_big h i gen hg.len ((lives_iff _ _ _).1 hl) _ rfl _ rfl s (by omega)).mono ?_
      rintro e w' ⟨rfl, hb⟩
      simp only [hs, decide_false, Bool.and_false, Bool.false_eq_true, if_false]
      exact ⟨trivial, ⟨bv, fv, h.below hb⟩, Fr.of_below hb⟩
theorem x_free (h : AX W g cap lim bs) (hg : Good bs) (i : Nat) (gen : Int) (hi : i ≤ 4294967295) : Calls Try.prog 13 #[.pointer (some ⟨g, 0, none⟩), .agg #[.int .u32 (i : Int), .int .u32 gen]] W fun e w' => e = .returned (.bool (livesB bs i gen)) ∧ AX w' g cap lim (freeB bs i gen) ∧ Fr g W w' := by
  obtain ⟨bv, fv, h⟩ := h
  unfold freeB
  cases hl : livesB bs i gen
  · refine (afree_no h i gen hg.len hi ((lives_not _ _ _).1 hl)).mono ?_
    rintro e w' ⟨rfl, hb⟩
    exact ⟨rfl, ⟨bv, fv, h.below hb⟩, Fr.of_below hb⟩
  · have hL := (lives_iff _ _ _).1 hl
    have hS := hg.sum
    have hO := hg.ok _ (bk_mem hL.1)
    have hfl := free_len bs
    have hlen := hg.len
    refine (afree_yes h i gen hg.len hL _ rfl (IntKind.u32.wrap (gen + 1)) (sumOf bs - (bk bs i).f1) rfl (IntWalk.i64_in _ (by omega)) (freeFrom_sorted bs 0) (by omega)).mono ?_
    rintro e w' ⟨rfl, fv', hA, hF⟩
    refine ⟨rfl, ⟨bv, fv', ?_⟩, hF⟩
    rw [if_pos rfl, sum_set bs i hL.1, free_set bs i hL.1 hL.2.1 _ (Int.le_refl 0), Int.add_zero]
    exact hA
theorem x_setlimit (h : AX W g cap lim bs) (n : Int) : Calls Try.prog 26 #[.pointer (some ⟨g, 0, none⟩), .int .i64 n] W fun e w' => e = .returned (.int .i64 (limE cap bs n)) ∧ AX w' g cap (limL cap lim bs n) bs ∧ Fr g W w' := by
  obtain ⟨bv, fv, h⟩ := h
  unfold limE limL
  by_cases h1 : n < 0
  · refine (limit_low h n h1).mono ?_
    rintro e w' ⟨rfl, hb⟩
    rw [if_pos (.inl h1), if_pos (.inl h1)]
    exact ⟨rfl, ⟨bv, fv, h.below hb⟩, Fr.of_below hb⟩
  · by_cases h2 : cap < n
    · refine (limit_high h n (by omega) h2).mono ?_
      rintro e w' ⟨rfl, hb⟩
      rw [if_pos (.inr h2), if_pos (.inr h2)]
      exact ⟨rfl, ⟨bv, fv, h.below hb⟩, Fr.of_below hb⟩
    · have h12 : ¬ (n < 0 ∨ cap < n) := by omega
      rw [if_neg h12, if_neg h12]
      by_cases h3 : n < sumOf bs
      · refine (limit_busy h n (by omega) (by omega) h3).mono ?_
        rintro e w' ⟨rfl, hb⟩
        rw [if_pos h3, if_pos h3]
        exact ⟨rfl, ⟨bv, fv, h.below hb⟩, Fr.of_below hb⟩
      · refine (limit_set h n (by omega) (by omega) (by omega)).mono ?_
        rintro e w' ⟨rfl, hA, hF⟩
        rw [if_neg h3, if_neg h3]
        exact ⟨rfl, ⟨bv, fv, hA⟩, hF⟩
theorem x_fits (h : AX W g cap lim bs) (hg : Good bs) (A : Option Addr) (c : Nat) (l : List Int) (hr : Kd.C (Kd.int .i64) W A l.length l) (hc : l.length ≤ c) (hl2 : l.length ≤ 9223372036854775806) (hs : 0 ≤ (sumV l).1 ∧ (sumV l).1 ≤ 2147483647) :
    Calls Try.prog 28 #[.pointer (some ⟨g, 0, none⟩), .slice A l.length c] W fun e w' => e = .returned (.bool (fitsB lim bs l)) ∧ Below W.heap.size W w' := by
  obtain ⟨bv, fv, h⟩ := h
  have hS := hg.sum
  unfold fitsB
  obtain ⟨n, b⟩ : ∃ p, sumV l = p := ⟨_, rfl⟩
  cases hb : (sumV l).2
  · refine (fits_bad h A c l hr hc hl2 (sumV l).1 (Prod.ext rfl hb)).mono ?_
    rintro e w' ⟨rfl, hw⟩
    exact ⟨rfl, hw⟩
  · by_cases hn : sumOf bs + (sumV l).1 ≤ lim
    · refine (fits_yes h A c l hr hc hl2 (sumV l).1 (Prod.ext rfl hb) hs.1 hs.2 hS.1 (by omega) hn).mono ?_
      rintro e w' ⟨rfl, hw⟩
      simp only [hn, decide_true, Bool.and_self]
      exact ⟨trivial, hw⟩
    · refine (fits_no h A c l hr hc hl2 (sumV l).1 (Prod.ext rfl hb) hs.1 hs.2 hS.1 (by omega) (by omega)).mono ?_
      rintro e w' ⟨rfl, hw⟩
      simp only [hn, decide_false, Bool.and_false]
      exact ⟨trivial, hw⟩
theorem x_alloc (h : AX W g cap lim bs) (hg : Good bs) (s : ByteArray) : Calls Try.prog 12 #[.pointer (some ⟨g, 0, none⟩), .string s] W fun e w' => e = .returned (.tuple #[.agg #[.int .u32 (allocE lim bs s.size).1, .int .u32 (allocE lim bs s.size).2.1], .int .i64 (allocE lim bs s.size).2.2]) ∧ AX w' g cap lim (allocB lim bs s) ∧ Fr g W w' := by
  obtain ⟨bv, fv, h⟩ := h
  have hS := hg.sum
  have hr := rnd_le (s.size : Int)
  have hlen := hg.len
  unfold allocE allocB
  cases hf : fit (s.size : Int)
  · refine (alloc_arg h s _ _ rfl hf rfl).mono ?_
    rintro e w' ⟨rfl, hb⟩
    exact ⟨rfl, ⟨bv, fv, h.below hb⟩, Fr.of_below hb⟩
  · have hn1 : ¬ (true = false) := by simp
    rw [if_neg hn1, if_neg hn1]
    by_cases hl : lim < sumOf bs + rnd (s.size : Int)
    · refine (alloc_budget h s _ _ rfl hf rfl hl hr.1 hr.2 hS.1 (by omega)).mono ?_
      rintro e w' ⟨rfl, hb⟩
      rw [if_pos hl, if_pos hl]
      exact ⟨rfl, ⟨bv, fv, h.below hb⟩, Fr.of_below hb⟩
    · rw [if_neg hl, if_neg hl]
      have hr16 : 0 < rnd (s.size : Int) := by
        unfold fit at hf
        simp at hf
        have := rnd_facts (s.size : Int) (by omega) (by omega)
        omega
      cases hfr : freeOf bs with
      | nil =>
        rw [hfr] at h
        by_cases h4 : bs.length = 4096
        · refine (alloc_full h s _ _ rfl hf rfl (by omega) hr.1 hr.2 hS.1 (by omega) h4).mono ?_
          rintro e w' ⟨rfl, hb⟩
          simp only [h4, if_true]
          refine ⟨trivial, ⟨bv, fv, ?_⟩, Fr.of_below hb⟩
          rw [hfr]
          exact h.below hb
        · refine (alloc_new h s _ rfl hf (by omega) hr.1 hr.2 hS.1 (by omega) (by omega)).mono ?_
          rintro e w' ⟨rfl, bv', fv', hA, hF⟩
          simp only [h4, if_false]
          refine ⟨trivial, ⟨bv', fv', ?_⟩, hF⟩
          rw [free_snoc hfr _ hr16, sumOf_app]
          simpa [sumOf] using hA
      | cons i r =>
        rw [hfr] at h
        obtain ⟨n, rfl, hn, hz, hlo, hset⟩ := free_head hfr
        refine (alloc_free h s _ rfl hf (by omega) hr.1 hr.2 hS.1 (by omega) hlen hn _ rfl).mono ?_
        rintro e w' ⟨rfl, bv', fv', hA, hF⟩
        simp only [Int.toNat_natCast]
        refine ⟨trivial, ⟨bv', fv', ?_⟩, hF⟩
        rw [hset _ hr16, sum_set bs n hn]
        have hO := hg.ok _ (bk_mem hn)
        rw [show (bk bs n).f1 = 0 by omega, Int.sub_zero]
        exact hA
end
theorem allocB_good {lim : Int} {bs : List S77} (h : Good bs) (s : ByteArray) : Good (allocB lim bs s) := by
  have hr := rnd_le (s.size : Int)
  have hl := h.len
  unfold allocB
  split
  · exact h
  · split
    · exact h
    · split
      · exact h.set _ _ hr.1 hr.2
      · split
        · exact h
        · exact h.snoc _ (by omega) hr.1 hr.2
theorem putB_good {bs : List S77} (h : Good bs) (i : Nat) (gen : Int) (s : ByteArray) : Good (putB bs i gen s) := by
  unfold putB putO
  split
  · rename_i hp
    simp only [Bool.and_eq_true, livesB, decide_eq_true_eq] at hp
    have := h.ok _ (bk_mem hp.1.1)
    exact h.set _ _ this.1 this.2
  · exact h
theorem freeB_good {bs : List S77} (h : Good bs) (i : Nat) (gen : Int) : Good (freeB bs i gen) := by
  unfold freeB
  split
  · exact h.set _ _ (Int.le_refl 0) (show (0 : Int) ≤ 1024 by decide)
  · exact h
end Go.Proofs.Ytdnpfnoobjbanaa.Hand
