/- A feed's truth, called: what its tree is, where it lies, what it leaves. -/
import Derived.Test.YtimmomhgljofnaaDoorY5
set_option linter.unusedVariables false
set_option linter.unusedSimpArgs false
namespace Go.Proofs.YtimmomhgljofnaaDoor.Hand
open Go.Proofs.YtimmomhgljofnaaDoor.PValueBad
open Go.RowKit Go.Proofs.YtimmomhgljofnaaDoorW.PrintWords Go.Proofs.YtimmomhgljofnaaDoorW.PrintLast Go.Proofs.YtimmomhgljofnaaDoorW.PrintMore
/-- A world without its blocks from n on. -/
def trunc (w : World) (n : Nat) : World := { w with heap := w.heap.extract 0 n }
theorem trunc_at (w : World) (n k : Nat) (h : k < n) : (trunc w n).heap[k]? = w.heap[k]? := by
  unfold trunc
  show (w.heap.extract 0 n)[k]? = _
  rw [Array.getElem?_extract]
  by_cases hk : k < w.heap.size
  · rw [if_pos (by omega), Nat.zero_add]
  · rw [if_neg (by omega), Array.getElem?_eq_none (by omega)]
theorem trunc_size (w : World) (n : Nat) (h : n ≤ w.heap.size) : (trunc w n).heap.size = n := by
  unfold trunc
  show (w.heap.extract 0 n).size = n
  rw [Array.size_extract]
  omega
theorem trunc_below (w : World) (n : Nat) (h : n ≤ w.heap.size) : Below (trunc w n).heap.size (trunc w n) w := by
  have e := trunc_size w n h
  exact ⟨rfl, rfl, rfl, by omega, fun k hk => (trunc_at w n k (by omega)).symm⟩
theorem feed_tree {W : World} (d : Nat) (di : Int) (hdi : di = (d : Int)) (hd : d ≤ 1000) (g s1 s2 n0 : Nat) (Al : Option Addr) (cl : Nat) (l : List Int) (hlc : l.length ≤ cl) (hb : ∀ n ∈ l, 0 ≤ n ∧ n ≤ 255) (hz : l.length ≤ 140737488351232)
    (hg : W.heap[g]? = some (.cells #[.slice Al l.length cl, .int .i64 0, .slice (some ⟨s1, 0, none⟩) 2 2, .slice (some ⟨s2, 0, none⟩) 2 2] 32 (0, 0)))
    (h1 : W.heap[s1]? = some (.cells #[.string ⟨#[97]⟩, .string ⟨#[98]⟩] 9 (0, 0))) (h2 : W.heap[s2]? = some (.cells #[.string ⟨#[65]⟩, .string ⟨#[66]⟩] 9 (0, 0))) (l1 : s1 < g) (l2 : s2 < g) (hn : n0 ≤ g)
    (hl : ∀ W', (∀ k, k < n0 → W'.heap[k]? = W.heap[k]?) → Kd.C (Kd.int .u8) W' Al l.length l) :
    Calls Tryd.prog 11 #[.pointer (some ⟨g, 0, none⟩), .string ⟨#[99]⟩, .string ⟨#[67]⟩, .int .i64 di] W fun e w' => ∃ (x : S24) (A : Option Addr) (c : Nat), e = .returned (.agg #[.int .i64 x.f0, .string x.f1, .int .i64 x.f2, .string x.f3, .string x.f4, .slice A x.f5.length c]) ∧ GoodE 2 x ∧ x.f5.length ≤ c ∧ Kd.N k24 24 w' W.heap.size (fun k => W.heap.size ≤ k) (.slice A x.f5.length c) x.f5 ∧ KeepBut W w' g none ∧ Below g W w' := by
  subst hdi
  have hlt := blk_lt hg
  have hB := trunc_below W g (by omega)
  have hsz := trunc_size W g (by omega)
  have q1 : Kd.C Kd.string (trunc W g) (some ⟨s1, 0, none⟩) 2 VS2 := C_two ((trunc_at W g s1 l1).trans h1) rfl rfl
  have q2 : Kd.C Kd.string (trunc W g) (some ⟨s2, 0, none⟩) 2 OS2 := C_two ((trunc_at W g s2 l2).trans h2) rfl rfl
  have q0 := hl (trunc W g) (fun k hk => trunc_at W g k (by omega))
  obtain ⟨r1, r2, r3, r4, r5, r6, r7, er, gr, hr⟩ := truth_good l ⟨#[99]⟩ ⟨#[67]⟩ nm_c d (3 * d + 9) 0 hd (Nat.le_refl _) ⟨hb, hz, by decide, by omega⟩
  have hI : IsS32 (trunc W g) W g l 0 VS2 OS2 := ⟨Al, cl, _, _, _, _, hg, by omega, q0, q1, q2⟩
  refine (jettisonlaw08_feed_truth.calls (3 * d + 9) g l 0 VS2 OS2 ⟨#[99]⟩ ⟨#[67]⟩ (d : Int) r1 r2 r3 r4 r5 r6 r7 (trunc W g) W hI hB er).mono ?_
  rintro e w' ⟨v, rfl, hN, _, hb2, hk⟩
  obtain ⟨A, c, rfl, hc, _⟩ := Kd.N_reads hN
  refine ⟨⟨r1, r2, r3, r4, r5, r6⟩, A, c, rfl, gr, hc, hN, hk, ⟨hb2.os, hb2.tape, hb2.output, hk.1, fun k hkg => ?_⟩⟩
  rw [hb2.block k (by omega), trunc_at W g k hkg]
end Go.Proofs.YtimmomhgljofnaaDoor.Hand
