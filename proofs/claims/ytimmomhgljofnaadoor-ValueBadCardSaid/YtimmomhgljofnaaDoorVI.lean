/- Chapter 8: binds. -/
import Derived.Test.YtimmomhgljofnaaDoorVF
import Derived.Test.YtimmomhgljofnaaDoorGX2
set_option linter.unusedVariables false
set_option linter.unusedSimpArgs false
namespace Go.Proofs.YtimmomhgljofnaaDoor.Hand
open Go.Proofs.YtimmomhgljofnaaDoor.PValueBad
open Go.RowKit Go.Proofs.YtimmomhgljofnaaDoorW.PrintWords Go.Proofs.YtimmomhgljofnaaDoorW.PrintLast Go.Proofs.YtimmomhgljofnaaDoorW.PrintMore
theorem binds_some (l : List Int) (hl : ∀ n ∈ l, InI n) (a : Int) (ha : 0 ≤ a) (ha8 : a ≤ 255) (X6 : List ByteArray) (X7 : List (List ByteArray)) (h6 : X6.length = 4) (h7 : X7.length = 4) :
    ∀ (m i : Nat) (B : List S55), i + m = 8 → B.length = i → InB B → ∃ r, jettisonlaw08_binds.l0 (2 * m + 2) l a B X6 X7 (i : Int) = some r ∧ InB r ∧ r.length ≤ 8 := by
  intro m
  induction m with
  | zero =>
    intro i B hi hB hIB
    obtain rfl : i = 8 := by omega
    refine ⟨B, ?_, hIB, by omega⟩
    rw [jettisonlaw08_binds.l0]
    split
    · rw [jettisonlaw08_binds.j1, if_neg (by decide)]
    · rw [jettisonlaw08_binds.j1, if_neg (by decide)]
  | succ m ih =>
    intro i B hi hB hIB
    by_cases hlt : (i : Int) < (l.length : Int)
    · have hrd : InI (rd l (i : Int)) := by
        unfold rd
        rw [Int.toNat_natCast, List.getD_eq_getElem?_getD, List.getElem?_eq_getElem (by omega)]
        exact hl _ (List.getElem_mem _)
      have hmod0 : 0 ≤ Int.tmod (i : Int) 4 := Int.tmod_nonneg 4 (by omega)
      have hmod4 : Int.tmod (i : Int) 4 < 4 := by
        rw [Int.tmod_eq_emod_of_nonneg (by omega)]
        omega
      have hw : wrap64 ((i : Int) + 1) = ((i + 1 : Nat) : Int) := by unfold wrap64; omega
      have step : ∀ y : S55, (∀ n ∈ y.f2, InI n) → ∃ r, jettisonlaw08_binds.l0 (2 * m + 2) l a (B ++ [y]) X6 X7 (wrap64 ((i : Int) + 1)) = some r ∧ InB r ∧ r.length ≤ 8 := by
        intro y hy
        rw [hw]
        refine ih (i + 1) (B ++ [y]) (by omega) (by rw [List.length_append]; simp; omega) ?_
        intro z hz n hn
        rcases List.mem_append.1 hz with hz | hz
        · exact hIB z hz n hn
        · obtain rfl : z = y := by simpa using hz
          exact hy n hn
      rw [show 2 * (m + 1) + 2 = (2 * m + 2 + 1) + 1 from by omega, jettisonlaw08_binds.l0, if_pos hlt, jettisonlaw08_binds.j1, if_pos (decide_eq_true (by omega)), if_pos (by omega), if_pos hlt]
      have hbig : B.length < 2199023255552 := by omega
      show ∃ r, (if a > 200 then _ else _) = some r ∧ _
      by_cases h200 : a > 200
      · have hwa : wrap64 a = a := by unfold wrap64; omega
        have ht0 : 0 ≤ Int.tmod (wrap64 a) 3 := Int.tmod_nonneg 3 (by rw [hwa]; exact ha)
        have ht3 : Int.tmod (wrap64 a) 3 ≤ 3 := by
          rw [hwa, Int.tmod_eq_emod_of_nonneg ha]
          omega
        rw [if_pos h200, if_pos ht0, if_pos (by show _ ≤ ((3 : Nat) : Int); exact ht3), if_pos hmod0, if_pos (by rw [h6]; exact hmod4), if_pos (by rw [h7]; exact hmod4), if_pos hbig]
        refine step _ (fun n hn => ?_)
        have hn' := List.mem_of_mem_take hn
        simp only [List.mem_cons, List.not_mem_nil, or_false] at hn'
        rcases hn' with h | h | h <;> subst h
        · exact hrd
        · unfold InI; omega
        · exact hrd
      · rw [if_neg h200, if_pos hmod0, if_pos (by rw [h6]; exact hmod4), if_pos (by rw [h7]; exact hmod4), if_pos hbig]
        refine step _ (fun n hn => ?_)
        simp only [List.mem_cons, List.not_mem_nil, or_false] at hn
        rcases hn with h | h | h <;> subst h
        · exact hrd
        · unfold InI; omega
        · exact hrd
    · refine ⟨B, ?_, hIB, by omega⟩
      rw [show 2 * (m + 1) + 2 = (2 * m + 2 + 1) + 1 from by omega, jettisonlaw08_binds.l0, if_neg hlt, jettisonlaw08_binds.j1, if_neg (by decide)]
theorem binds_e {W : World} {A : Option Addr} {n c : Nat} {l : List Int} (hr : Kd.C (Kd.int .i64) W A n l) (hc : n ≤ c) (hl : ∀ n ∈ l, InI n) (a : Int) (ha : 0 ≤ a) (ha8 : a ≤ 255) :
    Calls Tryd.prog 12 #[.slice A n c, .int .u8 a] W fun e w' => ∃ (B : List S55) (v : Value), e = .returned v ∧ InB B ∧ B.length ≤ 8 ∧ Kd.N k55 55 w' W.heap.size (fun k => W.heap.size ≤ k) v B ∧ Below W.heap.size W w' := by
  have hn := hr.1
  subst hn
  obtain ⟨r, hr1, hI, h8⟩ := binds_some l hl a ha ha8 [⟨#[97]⟩, ⟨#[98]⟩, ⟨#[99]⟩, ⟨#[97]⟩] [[⟨#[107]⟩, ⟨#[120]⟩], [⟨#[107]⟩, ⟨#[121]⟩], [⟨#[120]⟩, ⟨#[107]⟩, ⟨#[120]⟩], [⟨#[107]⟩]] rfl rfl 8 0 [] rfl rfl (fun y h => by cases h)
  refine (jettisonlaw08_binds.calls (2 * 8 + 2) A c l a r W hr hc hr1).mono ?_
  rintro e w1 ⟨v, rfl, hN, hb⟩
  exact ⟨r, v, rfl, hI, h8, hN, hb⟩
end Go.Proofs.YtimmomhgljofnaaDoor.Hand
