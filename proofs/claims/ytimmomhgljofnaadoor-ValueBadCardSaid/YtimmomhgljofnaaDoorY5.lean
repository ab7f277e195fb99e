/- The trees that a feed gives: numbers and truths of any depth. -/
import Derived.Test.YtimmomhgljofnaaDoorY4
set_option linter.unusedVariables false
set_option linter.unusedSimpArgs false
namespace Go.Proofs.YtimmomhgljofnaaDoor.Hand
open Go.Proofs.YtimmomhgljofnaaDoor.PValueBad
open Go.RowKit Go.Proofs.YtimmomhgljofnaaDoorW.PrintWords Go.Proofs.YtimmomhgljofnaaDoorW.PrintLast Go.Proofs.YtimmomhgljofnaaDoorW.PrintMore
theorem w64 {x : Int} (h0 : -9223372036854775808 ≤ x) (h1 : x ≤ 9223372036854775807) : wrap64 x = x := by unfold wrap64; omega
theorem byte_div {b : Int} (h0 : 0 ≤ b) (h1 : b ≤ 255) (m : Int) (hm : 1 ≤ m) (hm2 : m ≤ 255) (n : Int) (hn : 1 ≤ n) : 0 ≤ Int.tmod (wrap64 (Int.tdiv b m)) n ∧ Int.tmod (wrap64 (Int.tdiv b m)) n < n := by
  have d := Int.tdiv_eq_ediv_of_nonneg (b := m) h0
  have d0 : 0 ≤ Int.tdiv b m := by rw [d]; exact Int.ediv_nonneg h0 (by omega)
  have d1 : Int.tdiv b m ≤ b := by rw [d]; exact Int.ediv_le_self _ h0
  rw [w64 (by omega) (by omega), Int.tmod_eq_emod_of_nonneg d0]
  exact ⟨Int.emod_nonneg _ (by omega), Int.emod_lt_of_pos _ (by omega)⟩
theorem byte_mod {b : Int} (h0 : 0 ≤ b) (n : Int) (hn : 1 ≤ n) : 0 ≤ Int.tmod b n ∧ Int.tmod b n < n := by
  rw [Int.tmod_eq_emod_of_nonneg h0]
  exact ⟨Int.emod_nonneg _ (by omega), Int.emod_lt_of_pos _ (by omega)⟩
theorem op5 (i : Int) (h0 : 0 ≤ i) (h1 : i < 5) : 0 < lvl (rdOf ByteArray.empty [⟨#[43]⟩, ⟨#[45]⟩, ⟨#[42]⟩, ⟨#[47]⟩, ⟨#[37]⟩] i) ∧ wantE 3 (rdOf ByteArray.empty [⟨#[43]⟩, ⟨#[45]⟩, ⟨#[42]⟩, ⟨#[47]⟩, ⟨#[37]⟩] i) = 1 ∧ isE 3 (rdOf ByteArray.empty [⟨#[43]⟩, ⟨#[45]⟩, ⟨#[42]⟩, ⟨#[47]⟩, ⟨#[37]⟩] i) = 1 := by
  rcases (by omega : i = 0 ∨ i = 1 ∨ i = 2 ∨ i = 3 ∨ i = 4) with rfl | rfl | rfl | rfl | rfl <;> decide +kernel
theorem op8 (i : Int) (h0 : 0 ≤ i) (h1 : i < 8) : 0 < lvl (rdOf ByteArray.empty [⟨#[61, 61]⟩, ⟨#[33, 61]⟩, ⟨#[60]⟩, ⟨#[60, 61]⟩, ⟨#[62]⟩, ⟨#[62, 61]⟩, ⟨#[60, 61]⟩, ⟨#[62, 61]⟩] i) ∧ wantE 3 (rdOf ByteArray.empty [⟨#[61, 61]⟩, ⟨#[33, 61]⟩, ⟨#[60]⟩, ⟨#[60, 61]⟩, ⟨#[62]⟩, ⟨#[62, 61]⟩, ⟨#[60, 61]⟩, ⟨#[62, 61]⟩] i) = 1 ∧ isE 3 (rdOf ByteArray.empty [⟨#[61, 61]⟩, ⟨#[33, 61]⟩, ⟨#[60]⟩, ⟨#[60, 61]⟩, ⟨#[62]⟩, ⟨#[62, 61]⟩, ⟨#[60, 61]⟩, ⟨#[62, 61]⟩] i) = 2 := by
  rcases (by omega : i = 0 ∨ i = 1 ∨ i = 2 ∨ i = 3 ∨ i = 4 ∨ i = 5 ∨ i = 6 ∨ i = 7) with rfl | rfl | rfl | rfl | rfl | rfl | rfl | rfl <;> decide +kernel
theorem op2 (i : Int) (h0 : 0 ≤ i) (h1 : i < 2) : 0 < lvl (rdOf ByteArray.empty [⟨#[38, 38]⟩, ⟨#[124, 124]⟩] i) ∧ wantE 3 (rdOf ByteArray.empty [⟨#[38, 38]⟩, ⟨#[124, 124]⟩] i) = 2 ∧ isE 3 (rdOf ByteArray.empty [⟨#[38, 38]⟩, ⟨#[124, 124]⟩] i) = 2 := by
  rcases (by omega : i = 0 ∨ i = 1) with rfl | rfl <;> decide +kernel
theorem lits6 (i : Int) (h0 : 0 ≤ i) (h1 : i < 6) : 0 ≤ rd [0, 1, 2, 3, 5, 9223372036854775807] i ∧ InI (rd [0, 1, 2, 3, 5, 9223372036854775807] i) := by
  unfold InI
  rcases (by omega : i = 0 ∨ i = 1 ∨ i = 2 ∨ i = 3 ∨ i = 4 ∨ i = 5) with rfl | rfl | rfl | rfl | rfl | rfl <;> decide
/-- What a feed's number (or truth) comes to. -/
def NumAt (w : Int) (l : List Int) (r : Option (Int × ByteArray × Int × ByteArray × ByteArray × (List S24) × Int)) : Prop := ∃ r1 r2 r3 r4 r5 r6 r7, r = some (r1, r2, r3, r4, r5, r6, r7) ∧ GoodE w ⟨r1, r2, r3, r4, r5, r6⟩ ∧ FdOk l r7
section
variable (l : List Int) (own kind : ByteArray) (ho : NmS own)
include ho
theorem number_j1 (d k : Nat) (b a1 : Int) (hb0 : 0 ≤ b) (hb1 : b ≤ 255) (h : FdOk l a1) (q : Bool) (hd : q = false → 1 ≤ d) (hd2 : d ≤ 1000)
    (ih : 1 ≤ d → ∀ a2, FdOk l a2 → NumAt 1 l (jettisonlaw08_feed_number.f k l a2 VS2 OS2 own kind ((d - 1 : Nat) : Int))) : NumAt 1 l (jettisonlaw08_feed_number.j1 (k + 1) own kind (d : Int) b q l a1 VS2 OS2) := by
  rw [jettisonlaw08_feed_number.j1]
  cases q with
  | true =>
    obtain ⟨v, f, a2, e, hv, hf, h2⟩ := h.ref own kind ho
    rw [if_pos rfl, e, Option.bind_some]
    exact ⟨_, _, _, _, _, _, _, rfl, good_ref v f hv.1 hf.1 hv.2 hf.2, h2⟩
  | false =>
    have h1d := hd rfl
    have ed : wrap64 ((d : Int) - 1) = ((d - 1 : Nat) : Int) := by rw [w64 (by omega) (by omega)]; omega
    rw [if_neg (by decide), ed]
    obtain ⟨x1, x2, x3, x4, x5, x6, x7, ex, gx, hx⟩ := ih h1d a1 h
    by_cases h6 : Int.tmod b 8 = 6
    · rw [if_pos h6, ex, Option.bind_some]
      exact ⟨_, _, _, _, _, _, _, rfl, good_one 1 1 _ (by decide +kernel) (by decide +kernel) (by decide +kernel) gx, hx⟩
    · have m5 := byte_div hb0 hb1 8 (by decide) (by decide) 5 (by decide)
      obtain ⟨y1, y2, y3, y4, y5, y6, y7, ey, gy, hy⟩ := ih h1d x7 hx
      rw [if_neg h6, ex, Option.bind_some, Option.bind_some, if_pos m5.1, show (([⟨#[43]⟩, ⟨#[45]⟩, ⟨#[42]⟩, ⟨#[47]⟩, ⟨#[37]⟩] : List ByteArray).length : Int) = 5 from rfl, if_pos m5.2, ey, Option.bind_some]
      obtain ⟨p1, p2, p3⟩ := op5 _ m5.1 m5.2
      exact ⟨_, _, _, _, _, _, _, rfl, good_two 1 1 _ p1 p2 p3 gx gy, hy⟩
theorem number_j0 (d k : Nat) (b a1 : Int) (hb0 : 0 ≤ b) (hb1 : b ≤ 255) (h : FdOk l a1) (q : Bool) (hd2 : d ≤ 1000)
    (ih : 1 ≤ d → ∀ a2, FdOk l a2 → NumAt 1 l (jettisonlaw08_feed_number.f k l a2 VS2 OS2 own kind ((d - 1 : Nat) : Int))) : NumAt 1 l (jettisonlaw08_feed_number.j0 (k + 2) own kind (d : Int) b q l a1 VS2 OS2) := by
  rw [jettisonlaw08_feed_number.j0]
  cases q with
  | true =>
    have m6 := byte_div hb0 hb1 8 (by decide) (by decide) 6 (by decide)
    rw [if_pos rfl, Option.bind_some, if_pos m6.1, show (([0, 1, 2, 3, 5, 9223372036854775807] : List Int).length : Int) = 6 from rfl, if_pos m6.2]
    obtain ⟨p1, p2⟩ := lits6 _ m6.1 m6.2
    exact ⟨_, _, _, _, _, _, _, rfl, good_leaf _ p1 p2, h⟩
  | false =>
    rw [if_neg (by decide)]
    by_cases h6 : Int.tmod b 8 < 6
    · rw [if_pos h6]
      exact number_j1 l own kind ho d k b a1 hb0 hb1 h true (fun e => by cases e) hd2 ih
    · rw [if_neg h6]
      exact number_j1 l own kind ho d k b a1 hb0 hb1 h _ (fun e => by have := of_decide_eq_false e; omega) hd2 ih
theorem number_good : ∀ (d : Nat) (k : Nat) (a1 : Int), d ≤ 1000 → 3 * d + 3 ≤ k → FdOk l a1 → NumAt 1 l (jettisonlaw08_feed_number.f k l a1 VS2 OS2 own kind (d : Int)) := by
  intro d
  induction d with
  | zero =>
    intro k a1 hd hk h
    obtain ⟨k, rfl⟩ : ∃ j, k = j + 3 := ⟨k - 3, by omega⟩
    obtain ⟨b, a2, e, b0, b1, h2⟩ := h.next VS2 OS2
    rw [jettisonlaw08_feed_number.f, e, Option.bind_some]
    have ih : 1 ≤ 0 → ∀ a2, FdOk l a2 → NumAt 1 l (jettisonlaw08_feed_number.f k l a2 VS2 OS2 own kind ((0 - 1 : Nat) : Int)) := fun h => absurd h (by decide)
    show NumAt 1 l (if Int.tmod b 8 < 3 then jettisonlaw08_feed_number.j0 (k + 2) own kind _ b true l a2 VS2 OS2 else if _ then jettisonlaw08_feed_number.j0 (k + 2) own kind _ b _ l a2 VS2 OS2 else jettisonlaw08_feed_number.j0 (k + 2) own kind _ b _ l a2 VS2 OS2)
    repeat' split
    all_goals exact number_j0 l own kind ho 0 k b a2 b0 b1 h2 _ hd ih
  | succ d ihd =>
    intro k a1 hd hk h
    obtain ⟨k, rfl⟩ : ∃ j, k = j + 3 := ⟨k - 3, by omega⟩
    obtain ⟨b, a2, e, b0, b1, h2⟩ := h.next VS2 OS2
    rw [jettisonlaw08_feed_number.f, e, Option.bind_some]
    have ih : 1 ≤ d + 1 → ∀ a2, FdOk l a2 → NumAt 1 l (jettisonlaw08_feed_number.f k l a2 VS2 OS2 own kind ((d + 1 - 1 : Nat) : Int)) := fun _ a3 h3 => ihd k a3 (by omega) (by omega) h3
    show NumAt 1 l (if Int.tmod b 8 < 3 then jettisonlaw08_feed_number.j0 (k + 2) own kind _ b true l a2 VS2 OS2 else if _ then jettisonlaw08_feed_number.j0 (k + 2) own kind _ b _ l a2 VS2 OS2 else jettisonlaw08_feed_number.j0 (k + 2) own kind _ b _ l a2 VS2 OS2)
    repeat' split
    all_goals exact number_j0 l own kind ho (d + 1) k b a2 b0 b1 h2 _ hd ih
theorem truth_j1 (d k : Nat) (b a1 : Int) (hb0 : 0 ≤ b) (hb1 : b ≤ 255) (h : FdOk l a1) (q : Bool) (hd : q = true → 1 ≤ d) (hd2 : d ≤ 1000) (hk : 6 ≤ k)
    (ih : 1 ≤ d → ∀ a2, FdOk l a2 → NumAt 2 l (jettisonlaw08_feed_truth.f k l a2 VS2 OS2 own kind ((d - 1 : Nat) : Int))) : NumAt 2 l (jettisonlaw08_feed_truth.j1 (k + 1) own kind (d : Int) b q l a1 VS2 OS2) := by
  rw [jettisonlaw08_feed_truth.j1]
  cases q with
  | true =>
    have h1d := hd rfl
    have ed : wrap64 ((d : Int) - 1) = ((d - 1 : Nat) : Int) := by rw [w64 (by omega) (by omega)]; omega
    obtain ⟨x1, x2, x3, x4, x5, x6, x7, ex, gx, hx⟩ := ih h1d a1 h
    have m2 := byte_div hb0 hb1 8 (by decide) (by decide) 2 (by decide)
    obtain ⟨y1, y2, y3, y4, y5, y6, y7, ey, gy, hy⟩ := ih h1d x7 hx
    rw [if_pos rfl, ed, ex, Option.bind_some, Option.bind_some, if_pos m2.1, show (([⟨#[38, 38]⟩, ⟨#[124, 124]⟩] : List ByteArray).length : Int) = 2 from rfl, if_pos m2.2, ey, Option.bind_some]
    obtain ⟨p1, p2, p3⟩ := op2 _ m2.1 m2.2
    exact ⟨_, _, _, _, _, _, _, rfl, good_two 2 2 _ p1 p2 p3 gx gy, hy⟩
  | false =>
    obtain ⟨x1, x2, x3, x4, x5, x6, x7, ex, gx, hx⟩ := number_good l own kind ho 1 k a1 (by decide) (by omega) h
    have m8 := byte_div hb0 hb1 8 (by decide) (by decide) 8 (by decide)
    obtain ⟨y1, y2, y3, y4, y5, y6, y7, ey, gy, hy⟩ := number_good l own kind ho 1 k x7 (by decide) (by omega) hx
    rw [if_neg (by decide), show ((1 : Int)) = ((1 : Nat) : Int) from rfl, ex, Option.bind_some, Option.bind_some, if_pos m8.1, show (([⟨#[61, 61]⟩, ⟨#[33, 61]⟩, ⟨#[60]⟩, ⟨#[60, 61]⟩, ⟨#[62]⟩, ⟨#[62, 61]⟩, ⟨#[60, 61]⟩, ⟨#[62, 61]⟩] : List ByteArray).length : Int) = 8 from rfl, if_pos m8.2, ey, Option.bind_some]
    obtain ⟨p1, p2, p3⟩ := op8 _ m8.1 m8.2
    exact ⟨_, _, _, _, _, _, _, rfl, good_two 2 1 _ p1 p2 p3 gx gy, hy⟩
theorem truth_j0 (d k : Nat) (b a1 : Int) (hb0 : 0 ≤ b) (hb1 : b ≤ 255) (h : FdOk l a1) (q : Bool) (hd : q = true → 1 ≤ d) (hd2 : d ≤ 1000) (hk : 6 ≤ k)
    (ih : ∀ j, k ≤ j → 1 ≤ d → ∀ a2, FdOk l a2 → NumAt 2 l (jettisonlaw08_feed_truth.f j l a2 VS2 OS2 own kind ((d - 1 : Nat) : Int))) : NumAt 2 l (jettisonlaw08_feed_truth.j0 (k + 2) own kind (d : Int) b q l a1 VS2 OS2) := by
  rw [jettisonlaw08_feed_truth.j0]
  cases q with
  | true =>
    have h1d := hd rfl
    have ed : wrap64 ((d : Int) - 1) = ((d - 1 : Nat) : Int) := by rw [w64 (by omega) (by omega)]; omega
    obtain ⟨x1, x2, x3, x4, x5, x6, x7, ex, gx, hx⟩ := ih (k + 1) (by omega) h1d a1 h
    rw [if_pos rfl, ed, ex, Option.bind_some]
    exact ⟨_, _, _, _, _, _, _, rfl, good_one 2 2 _ (by decide +kernel) (by decide +kernel) (by decide +kernel) gx, hx⟩
  | false =>
    rw [if_neg (by decide)]
    by_cases hd0 : (d : Int) > 0
    · rw [if_pos hd0]
      exact truth_j1 l own kind ho d k b a1 hb0 hb1 h _ (fun _ => by omega) hd2 hk (ih k (Nat.le_refl _))
    · rw [if_neg hd0]
      exact truth_j1 l own kind ho d k b a1 hb0 hb1 h _ (fun e => by cases e) hd2 hk (ih k (Nat.le_refl _))
theorem truth_good : ∀ (d : Nat) (k : Nat) (a1 : Int), d ≤ 1000 → 3 * d + 9 ≤ k → FdOk l a1 → NumAt 2 l (jettisonlaw08_feed_truth.f k l a1 VS2 OS2 own kind (d : Int)) := by
  intro d
  induction d with
  | zero =>
    intro k a1 hd hk h
    obtain ⟨k, rfl⟩ : ∃ j, k = j + 3 := ⟨k - 3, by omega⟩
    obtain ⟨b, a2, e, b0, b1, h2⟩ := h.next VS2 OS2
    rw [jettisonlaw08_feed_truth.f, e, Option.bind_some]
    have ih : ∀ j, k ≤ j → 1 ≤ 0 → ∀ a2, FdOk l a2 → NumAt 2 l (jettisonlaw08_feed_truth.f j l a2 VS2 OS2 own kind ((0 - 1 : Nat) : Int)) := fun _ _ h => absurd h (by decide)
    show NumAt 2 l (if ((0 : Nat) : Int) > 0 then jettisonlaw08_feed_truth.j0 (k + 2) own kind _ b _ l a2 VS2 OS2 else jettisonlaw08_feed_truth.j0 (k + 2) own kind _ b false l a2 VS2 OS2)
    rw [if_neg (by decide)]
    exact truth_j0 l own kind ho 0 k b a2 b0 b1 h2 _ (fun e => by cases e) hd (by omega) ih
  | succ d ihd =>
    intro k a1 hd hk h
    obtain ⟨k, rfl⟩ : ∃ j, k = j + 3 := ⟨k - 3, by omega⟩
    obtain ⟨b, a2, e, b0, b1, h2⟩ := h.next VS2 OS2
    rw [jettisonlaw08_feed_truth.f, e, Option.bind_some]
    have ih : ∀ j, k ≤ j → 1 ≤ d + 1 → ∀ a2, FdOk l a2 → NumAt 2 l (jettisonlaw08_feed_truth.f j l a2 VS2 OS2 own kind ((d + 1 - 1 : Nat) : Int)) := fun j hj _ a3 h3 => ihd j a3 (by omega) (by omega) h3
    show NumAt 2 l (if ((d + 1 : Nat) : Int) > 0 then jettisonlaw08_feed_truth.j0 (k + 2) own kind _ b _ l a2 VS2 OS2 else jettisonlaw08_feed_truth.j0 (k + 2) own kind _ b false l a2 VS2 OS2)
    rw [if_pos (by omega)]
    exact truth_j0 l own kind ho (d + 1) k b a2 b0 b1 h2 _ (fun _ => by omega) hd (by omega) ih
end
end Go.Proofs.YtimmomhgljofnaaDoor.Hand
