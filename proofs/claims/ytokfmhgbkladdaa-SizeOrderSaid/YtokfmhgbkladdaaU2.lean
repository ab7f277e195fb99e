/- SizeSums: the walk. -/
import Derived.Test.YtokfmhgbkladdaaA
import Derived.OpenShut
set_option linter.unusedVariables false
namespace Go.Proofs.Ytokfmhgbkladdaa.Hand
open Go.RowKit Go.Proofs.Ytokfmhgbkladdaa.PSizeTells Go.Proofs.YtokfmhgbkladdaaW.PrintWords Go.Proofs.YtokfmhgbkladdaaW.PrintLast Go.Proofs.YtokfmhgbkladdaaW.PrintMore

def mods (l : List Int) : List Int := l.map (· % 1025)
theorem mods_snoc (l : List Int) (i : Nat) (x : Int) (hi : i < l.length) (ex : l.getD i 0 = x) : mods (l.take (i + 1)) = mods (l.take i) ++ [x % 1025] := by
  subst ex
  unfold mods
  rw [List.take_succ_eq_append_getElem hi, List.map_append]
  have e : l.getD i 0 = l[i] := by simp [hi]
  rw [e]
  rfl
theorem mods_fit (l : List Int) : ∀ a ∈ mods l, fit a = true := by
  intro a ha
  unfold mods at ha
  obtain ⟨x, _, rfl⟩ := List.mem_map.1 ha
  exact fit_yes _ (by omega) (by omega)
theorem mods_len (l : List Int) : (mods l).length = l.length := by simp [mods]
theorem tot_bound (l : List Int) : 0 ≤ tot l ∧ tot l ≤ 1024 * l.length := by
  induction l with
  | nil => simp [tot]
  | cons a r ih => have := rnd_le a; simp only [tot, List.length_cons]; omega
theorem sumV_ok (l : List Int) (h : ∀ a ∈ l, fit a = true) (hl : l.length ≤ 1000) : sumV l = (tot l, true) := by
  unfold sumV; rw [sumGo_ok l 0 h (by omega) (by omega)]; simp
theorem round_at' (a x : Int) (b : Bool) (w : World) (e : rnd a = x) (h : fit a = b) : Calls Try.prog 9 #[.int .i64 a] w fun e w' => e = .returned (.tuple #[.int .i64 x, .bool b]) ∧ Drawn0 w w' := by
  subst e; have := round_c a w; rw [h] at this; exact this
theorem cellAt {w W : World} {A : Option Addr} {l : List Int} (hr : ReadsInt w .u16 A l.length l) (hb : Below w.heap.size w W) (i : Nat) (hi : i < l.length) (x : Int) (ex : l.getD i 0 = x) : ∃ ad, A = some ad ∧ W.cell? (ad.add i) = some (.int .u16 x) := by
  obtain ⟨ad, e, hc⟩ := (hr.below hb).at_ (i : Int) (by omega) (by omega)
  refine ⟨ad, e, ?_⟩
  subst ex
  simpa [rd] using hc
theorem u16_at {l : List Int} (hw : ∀ x ∈ l, (Lit.int .u16 x).wf = true) (i : Nat) (hi : i < l.length) (x : Int) (ex : l.getD i 0 = x) : 0 ≤ x ∧ x ≤ 65535 := by
  subst ex
  have e : l.getD i 0 = l[i] := by simp [hi]
  rw [e]
  exact Go.bounds_u16 (hw _ (List.getElem_mem hi))
end Go.Proofs.Ytokfmhgbkladdaa.Hand
