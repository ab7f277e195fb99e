/- ArenaPlays: its walk. -/
import Derived.Test.YtdnpfnoobjbanaaI5
import Derived.Deep.CutBlock
import Derived.Deep.DeepCutAuto
set_option linter.unusedVariables false
set_option linter.unusedSimpArgs false
namespace Go.Proofs.Ytdnpfnoobjbanaa.Hand
open Go.RowKit Go.Proofs.Ytdnpfnoobjbanaa.PArenaPlays Go.Proofs.YtdnpfnoobjbanaaW.PrintWords Go.Proofs.YtdnpfnoobjbanaaW.PrintLast Go.Proofs.YtdnpfnoobjbanaaW.PrintMore
/-- Is the handle one of those that were told? -/
def selB (n at_ : Nat) : Bool := decide (0 < n) && decide (at_ < 220)
theorem x_alloc_at {W : World} {g : Nat} {cap lim : Int} {bs : List S77} (h : AX W g cap lim bs) (hg : Good bs) (s : ByteArray) (n : Nat) (hn : s.size = n) (sl gn er : Int) (hE : allocE lim bs n = (sl, gn, er)) : Calls Try.prog 12 #[.pointer (some ⟨g, 0, none⟩), .string s] W fun e w' => e = .returned (.tuple #[.agg #[.int .u32 sl, .int .u32 gn], .int .i64 er]) ∧ AX w' g cap lim (allocB lim bs s) ∧ Fr g W w' := by
  refine (x_alloc h hg s).mono ?_
  rintro e w' ⟨rfl, hA, hF⟩
  rw [hn, hE]
  exact ⟨rfl, hA, hF⟩
theorem r_alloc_at {W : World} {g : Nat} {cap lim : Int} {bs : List S77} (h : RX W g cap lim bs) (hg : Good bs) (s : ByteArray) (n : Nat) (hn : s.size = n) (sl gn er : Int) (hE : allocE lim bs n = (sl, gn, er)) : Calls Try.prog 22 #[.pointer (some ⟨g, 0, none⟩), .string s] W fun e w' => e = .returned (.tuple #[.agg #[.int .u32 sl, .int .u32 gn], .int .i64 er]) ∧ RX w' g cap lim (allocB lim bs s) ∧ FR g W w' := by
  refine (r_alloc h hg s).mono ?_
  rintro e w' ⟨rfl, hA, hF⟩
  rw [hn, hE]
  exact ⟨rfl, hA, hF⟩
theorem sumV_bd (l : List Int) : 0 ≤ (sumV l).1 ∧ (sumV l).1 ≤ 2147483647 := by
  have key : ∀ (l : List Int) (s : Int), 0 ≤ s → s ≤ 2147483647 → 0 ≤ (sumGo s l).1 ∧ (sumGo s l).1 ≤ 2147483647 := by
    intro l
    induction l with
    | nil => intro s h0 h1; simp only [sumGo]; omega
    | cons a r ih =>
      intro s h0 h1
      have := rnd_le a
      simp only [sumGo]
      split
      · split
        · simp
        · exact ih _ (by omega) (by omega)
      · simp
  exact key l 0 (by decide) (by decide)
theorem x_fits_at {W : World} {g : Nat} {cap lim : Int} {bs : List S77} (h : AX W g cap lim bs) (hg : Good bs) (A : Option Addr) (n c : Nat) (l : List Int) (hn : l.length = n) (hr : Kd.C (Kd.int .i64) W A l.length l) (hc : n ≤ c) (hl2 : n ≤ 9223372036854775806) :
    Calls Try.prog 28 #[.pointer (some ⟨g, 0, none⟩), .slice A n c] W fun e w' => e = .returned (.bool (fitsB lim bs l)) ∧ Below W.heap.size W w' := by
  subst hn
  exact x_fits h hg A c l hr hc hl2 (sumV_bd l)
theorem r_fits_at {W : World} {g : Nat} {cap lim : Int} {bs : List S77} (h : RX W g cap lim bs) (hg : Good bs) (A : Option Addr) (n c : Nat) (l : List Int) (hn : l.length = n) (hr : Kd.C (Kd.int .i64) W A l.length l) (hc : n ≤ c) (hl2 : n ≤ 9223372036854775806) :
    Calls Try.prog 29 #[.pointer (some ⟨g, 0, none⟩), .slice A n c] W fun e w' => e = .returned (.bool (fitsB lim bs l)) ∧ Below W.heap.size W w' := by
  subst hn
  exact r_fits h hg A c l hr hc hl2 (sumV_bd l)
theorem RX.cell1 {W : World} {g : Nat} {cap lim : Int} {bs : List S77} (h : RX W g cap lim bs) : W.cell? ⟨g, 1, none⟩ = some (.int .i64 lim) := by
  obtain ⟨v, h1, _⟩ := h
  exact blk_cell h1 1
theorem C_take' {W : World} {A : Option Addr} {ls : List Int} (h : Kd.C (Kd.int .i64) W A ls.length ls) (m : Nat) (hm : m ≤ ls.length) : Kd.C (Kd.int .i64) W A (ls.take m).length (ls.take m) := Kd.C_take h hm
theorem bd_snoc {xs : List (Int × Int)} {q : Int × Int} (h : ∀ p ∈ xs, 0 ≤ p.1 ∧ p.1 ≤ 4294967295) (hq : 0 ≤ q.1 ∧ q.1 ≤ 4294967295) : ∀ p ∈ xs ++ [q], 0 ≤ p.1 ∧ p.1 ≤ 4294967295 := by
  intro p hp
  rcases List.mem_append.1 hp with hp | hp
  · exact h p hp
  · obtain rfl := List.mem_singleton.1 hp
    exact hq
theorem allocE_bd {lim : Int} {bs : List S77} (hg : Good bs) (n : Nat) (sl gn er : Int) (hE : allocE lim bs n = (sl, gn, er)) : 0 ≤ sl ∧ sl ≤ 4294967295 := by
  have hl := hg.len
  have hfl := free_len bs
  unfold allocE at hE
  split at hE
  · injection hE with e1 _; omega
  · split at hE
    · injection hE with e1 _; omega
    · split at hE
      · rename_i i r hq
        obtain ⟨m, rfl, hm, _⟩ := free_head hq
        injection hE with e1 _; omega
      · split at hE
        · injection hE with e1 _; omega
        · injection hE with e1 _; omega
theorem RX.hset {W : World} {g : Nat} {cap lim : Int} {bs : List S77} {b : Nat} {cs : Array Value} (h : RX W g cap lim bs) (hb : W.heap[b]? = some (.cells cs 28 (0, 0))) (j : Nat) (u : Value) : RX (W.setCell ⟨b, j, none⟩ u) g cap lim bs := h.other hb (by unfold RT; decide) j u
theorem AX.hset {W : World} {g : Nat} {cap lim : Int} {bs : List S77} {b : Nat} {cs : Array Value} (h : AX W g cap lim bs) (hb : W.heap[b]? = some (.cells cs 28 (0, 0))) (j : Nat) (u : Value) : AX (W.setCell ⟨b, j, none⟩ u) g cap lim bs := h.other hb (by unfold AT; decide) j u
theorem HRow.hset {W : World} {base b : Nat} {v : Value} {xs : List (Int × Int)} {cs : Array Value} (h : HRow W base v xs) (hb : W.heap[b]? = some (.cells cs 28 (0, 0))) (hv : some b ≠ v.ownBlock) (j : Nat) (u : Value) : HRow (W.setCell ⟨b, j, none⟩ u) base v xs := by
  have h1 := Kd.R_mono (Kd.R_bound h) (ok' := fun k => k ≠ b ∨ True) (fun _ _ => .inr trivial)
  obtain ⟨h0, inner, ho, hr⟩ := h
  refine ⟨h0, inner, own_move ho (fun k hk => Below.heap_setCell W ⟨b, j, none⟩ u k (fun e => hv (by have e' : k = b := e; rw [← e']; exact hk.symm))), hr.imp_ (fun x c hp => ?_)⟩
  obtain ⟨c1, c2, e, k1, k2⟩ := hp
  exact ⟨c1, c2, e, k1, k2⟩
theorem slice_to (A : Option Addr) (n c m : Nat) (hm : m ≤ n) (hc : n ≤ c) : ∀ W : World, (Instr.slice 51 (.slice A n c) none (some (.int .i64 (m : Int))) none).run Try.prog W = .ok (.slice A m c) W := by
  obtain ⟨i, hi, hsz⟩ := Option.map_eq_some_iff.1 info3
  have := cut_to (P := Try.prog) 51 3 .i64 Try.underlying51 hi A n c (m : Int) (by omega) (by omega) hc
  simpa using this
end Go.Proofs.Ytdnpfnoobjbanaa.Hand
