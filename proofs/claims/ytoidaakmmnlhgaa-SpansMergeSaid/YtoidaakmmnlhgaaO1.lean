/- Arrays that came in, opened. -/
import Derived.Test.YtoidaakmmnlhgaaO0
import Derived.Test.YtoidaakmmnlhgaaWArr
import Derived.OpenShut
set_option linter.unusedVariables false
namespace Go.Proofs.Ytoidaakmmnlhgaa.Hand
open Go.RowKit Go.ChangeShapes Go.WideShapes Go.Proofs.YtoidaakmmnlhgaaW.PrintWords
theorem okWide_array {P : Program} {w : World} {r : Reach} {base : Nat} {t : TypeId} {v : Value} {n : Nat} {e : TypeId} (ht : P.underlying t = some (.array n e)) (h : Value.okWide P w r base t v) : ∃ cs, v = .agg cs ∧ cs.size = P.cellsOf t := by
  simp only [Value.okWide, ht] at h
  obtain ⟨cs, h1, h2, _⟩ := h
  exact ⟨cs, h1, h2⟩
theorem opens_array {P : Program} {t e : TypeId} {n : Nat} {α : Type} {d : Kd α} {G : α → Prop} (hs : 0 < d.sz) (ht : P.underlying t = some (.array n e)) (hsz : P.cellsOf e = d.sz) (hc : P.cellsOf t = n * d.sz) (he : Opens P e d G) : Opens P t (Kd.arr n d hs) (fun xs => xs.length = n ∧ ∀ x ∈ xs, G x) := by
  intro H enc w base spare held fuel cs x h hw
  obtain ⟨xs, m, rfl, rfl, hl, hn, hi⟩ := DataW.trod_array ht h
  have hlight : ∀ (i : Nat) (y : DataW H × List MemPlace), xs[i]? = some y → Light P e y.1 := by
    intro i y hy n' hn'
    refine hw n' ?_
    simp only [DataW.weights, ht]
    exact weightsAll_mem (d := y.1) (List.mem_map.2 ⟨y, List.mem_of_getElem? hy, rfl⟩) n' hn'
  have hel : ∀ i, i < n → ∃ p : α, G p ∧ ∀ W', Has w W' → d.K W' p ((cs.drop (i * d.sz)).take d.sz) := by
    intro i hi'
    obtain ⟨y, hy⟩ : ∃ y, xs[i]? = some y := ⟨_, List.getElem?_eq_getElem (by omega)⟩
    have ht' := hi i hi'
    rw [hy, hsz] at ht'
    obtain ⟨p, hp, hk⟩ := he ht' (hlight i y hy)
    exact ⟨p, hp, hk⟩
  rcases Nat.eq_zero_or_pos n with rfl | h0
  · exact ⟨[], ⟨rfl, by simp⟩, fun W' _ => ⟨rfl, by rw [hl, hc]; simp, by simp⟩⟩
  obtain ⟨p0, _⟩ := hel 0 h0
  haveI : Inhabited α := ⟨p0⟩
  obtain ⟨f, hf⟩ := Go.Deep.choose_lt hel
  have hlen : ((List.range n).map f).length = n := by simp
  refine ⟨(List.range n).map f, ⟨hlen, ?_⟩, fun W' hW => ⟨hlen, by rw [hl, hc, hlen], ?_⟩⟩
  · intro x hx
    obtain ⟨i, hi', rfl⟩ := List.mem_map.1 hx
    exact (hf i (List.mem_range.1 hi')).1
  · intro j p hp
    rw [List.getElem?_map] at hp
    obtain ⟨i, hi', rfl⟩ := Option.map_eq_some_iff.1 hp
    have hj : j < n := by
      have := (List.getElem?_eq_some_iff.1 hi').1
      simpa using this
    have hij : i = j := by
      rw [List.getElem?_range hj] at hi'
      exact (Option.some.inj hi').symm
    subst hij
    exact (hf i hj).2 W' hW
end Go.Proofs.Ytoidaakmmnlhgaa.Hand
