/- The trees that a feed gives: right, and of the type that is asked for. -/
import Derived.Test.YtimmomhgljofnaaDoorVE
import Derived.Test.YtimmomhgljofnaaDoorY0
import Derived.Test.YtimmomhgljofnaaDoorGX1
set_option linter.unusedVariables false
set_option linter.unusedSimpArgs false
namespace Go.Proofs.YtimmomhgljofnaaDoor.Hand
open Go.Proofs.YtimmomhgljofnaaDoor.PValueBad
open Go.RowKit Go.Proofs.YtimmomhgljofnaaDoorW.PrintWords Go.Proofs.YtimmomhgljofnaaDoorW.PrintLast Go.Proofs.YtimmomhgljofnaaDoorW.PrintMore
mutual
/-- Each name is short. -/
def SmE : S24 → Prop
  | ⟨k, _, _, v, f, kids⟩ => (k = 1 → v.size ≤ 9223372036854775807 ∧ f.size ≤ 9223372036854775807) ∧ SmL kids
def SmL : List S24 → Prop
  | [] => True
  | x :: r => SmE x ∧ SmL r
end
theorem named_of {W : World} (hT : Tabs W) (s : ByteArray) (hs : s.size ≤ 9223372036854775807) : Named W s (nameB s) := fun W' hb => isname_c s (hT.below hb) hs _ rfl
mutual
theorem names_of {W : World} (hT : Tabs W) : ∀ (x : S24), SmE x → NamesE nameB W x
  | ⟨k, _, _, v, f, kids⟩, h => by
    rw [SmE] at h
    rw [NamesE]
    exact ⟨fun hk => ⟨named_of hT v (h.1 hk).1, named_of hT f (h.1 hk).2⟩, names_ofL hT kids h.2⟩
theorem names_ofL {W : World} (hT : Tabs W) : ∀ (l : List S24), SmL l → NamesL nameB W l
  | [], _ => by rw [NamesL]; trivial
  | x :: r, h => by
    rw [SmL] at h
    rw [NamesL]
    exact ⟨names_of hT x h.1, names_ofL hT r h.2⟩
end
/-- A right expression of a type, of numbers of 64 bits and short names. -/
structure GoodE (w : Int) (x : S24) : Prop where
  r : rightE nameB x = true
  t : typesE x = w
  i : InE x
  s : SmE x
theorem GoodE.type {w : Int} {x : S24} (h : GoodE w x) : typeE nameB x = w := by
  unfold typeE
  rw [h.r, if_pos rfl, h.t]
theorem GoodE.names {w : Int} {x : S24} (h : GoodE w x) {W : World} (hT : Tabs W) : NamesE nameB W x := names_of hT x h.s
theorem eqS_nil : eqS ⟨#[]⟩ [] = true := by decide +kernel
theorem good_leaf (n : Int) (h0 : 0 ≤ n) (hn : InI n) : GoodE 1 ⟨0, ⟨#[]⟩, n, ⟨#[]⟩, ⟨#[]⟩, []⟩ := by
  refine ⟨?_, ?_, ?_, ?_⟩
  · rw [rightE, rightL]
    unfold formOk
    rw [if_pos rfl, decide_eq_true h0, eqS_nil]
    rfl
  · rw [typesE, if_pos (by decide)]
  · rw [InE, InK]; exact ⟨hn, trivial⟩
  · rw [SmE, SmL]; exact ⟨fun h => absurd h (by decide), trivial⟩
theorem good_ref (v f : ByteArray) (hv : nameB v = true) (hf : nameB f = true) (sv : v.size ≤ 9223372036854775807) (sf : f.size ≤ 9223372036854775807) : GoodE 1 ⟨1, ⟨#[]⟩, 0, v, f, []⟩ := by
  refine ⟨?_, ?_, ?_, ?_⟩
  · rw [rightE, rightL]
    unfold formOk
    rw [if_neg (by decide), if_pos rfl, hv, hf, eqS_nil]
    rfl
  · rw [typesE, if_pos (by decide)]
  · rw [InE, InK]; exact ⟨by unfold InI; omega, trivial⟩
  · rw [SmE, SmL]; exact ⟨fun _ => ⟨sv, sf⟩, trivial⟩
theorem good_one (w u : Int) (op : ByteArray) (hop : (eqS op [45] || eqS op [33]) = true) (hw : wantE 2 op = u) (hi : isE 2 op = w) {x : S24} (hx : GoodE u x) : GoodE w ⟨2, op, 0, ⟨#[]⟩, ⟨#[]⟩, [x]⟩ := by
  refine ⟨?_, ?_, ?_, ?_⟩
  · rw [rightE, rightL, rightL, hx.r]
    unfold formOk
    rw [if_neg (by decide), if_neg (by decide), if_pos rfl, hop, eqS_nil]
    rfl
  · rw [typesE, if_neg (by decide), typesL, typesL, hw, hx.t, hi]
    simp
  · rw [InE, InK, InK]; exact ⟨by unfold InI; omega, hx.i, trivial⟩
  · rw [SmE, SmL, SmL]; exact ⟨fun h => absurd h (by decide), hx.s, trivial⟩
theorem good_two (w u : Int) (op : ByteArray) (hop : 0 < lvl op) (hw : wantE 3 op = u) (hi : isE 3 op = w) {x y : S24} (hx : GoodE u x) (hy : GoodE u y) : GoodE w ⟨3, op, 0, ⟨#[]⟩, ⟨#[]⟩, [x, y]⟩ := by
  refine ⟨?_, ?_, ?_, ?_⟩
  · rw [rightE, rightL, rightL, rightL, hx.r, hy.r]
    unfold formOk
    rw [if_neg (by decide), if_neg (by decide), if_neg (by decide), if_pos rfl, decide_eq_true hop, eqS_nil]
    rfl
  · rw [typesE, if_neg (by decide), typesL, typesL, typesL, hw, hx.t, hy.t, hi]
    simp
  · rw [InE, InK, InK, InK]; exact ⟨by unfold InI; omega, hx.i, hy.i, trivial⟩
  · rw [SmE, SmL, SmL, SmL]; exact ⟨fun h => absurd h (by decide), hx.s, hy.s, trivial⟩
/-- What a name of a feed's is. -/
def NmS (s : ByteArray) : Prop := nameB s = true ∧ s.size ≤ 9223372036854775807
theorem nm_a : NmS ⟨#[97]⟩ := ⟨by decide +kernel, by decide⟩
theorem nm_b : NmS ⟨#[98]⟩ := ⟨by decide +kernel, by decide⟩
theorem nm_c : NmS ⟨#[99]⟩ := ⟨by decide +kernel, by decide⟩
theorem nm_k : NmS ⟨#[107]⟩ := ⟨by decide +kernel, by decide⟩
theorem nm_x : NmS ⟨#[120]⟩ := ⟨by decide +kernel, by decide⟩
theorem nm_y : NmS ⟨#[121]⟩ := ⟨by decide +kernel, by decide⟩
/-- A feed that stands within its bytes. -/
structure FdOk (l : List Int) (at_ : Int) : Prop where
  b : ∀ n ∈ l, 0 ≤ n ∧ n ≤ 255
  z : l.length ≤ 140737488351232
  lo : 0 ≤ at_
  hi : at_ ≤ l.length
theorem FdOk.next {l : List Int} {at_ : Int} (h : FdOk l at_) (v o : List ByteArray) : ∃ b a1, jettisonlaw08_feed_next.f l at_ v o = some (b, a1) ∧ 0 ≤ b ∧ b ≤ 255 ∧ FdOk l a1 := by
  have h1 := h.lo
  have h2 := h.hi
  have hz := h.z
  unfold jettisonlaw08_feed_next.f
  by_cases hc : at_ ≥ (l.length : Int)
  · rw [if_pos hc]
    exact ⟨0, at_, rfl, by decide, by decide, h⟩
  · have e1 : wrap64 (at_ + 1) = at_ + 1 := by unfold wrap64; omega
    have e2 : wrap64 (at_ + 1 - 1) = at_ := by unfold wrap64; omega
    rw [if_neg hc, e1, e2, if_pos h1, if_pos (by omega)]
    have hm : rd l at_ ∈ l := by
      unfold rd
      rw [List.getD_eq_getElem?_getD, List.getElem?_eq_getElem (by omega)]
      exact List.getElem_mem _
    obtain ⟨b0, b1⟩ := h.b _ hm
    have e3 : wrap64 (rd l at_) = rd l at_ := by unfold wrap64; omega
    rw [e3]
    exact ⟨_, _, rfl, b0, b1, ⟨h.b, h.z, by omega, by omega⟩⟩
theorem map3_some (a : ByteArray) : ∃ t, jettisonlaw08_map3.f a = some t ∧ NmS t := by
  unfold jettisonlaw08_map3.f
  split
  · exact ⟨_, rfl, nm_y⟩
  · exact ⟨_, rfl, nm_x⟩
theorem pick_two {a b : ByteArray} (ha : NmS a) (hb : NmS b) (i : Int) (h0 : 0 ≤ i) (h1 : i < 2) : NmS (rdOf ByteArray.empty [a, b] i) := by
  rcases (by omega : i = 0 ∨ i = 1) with rfl | rfl
  · exact ha
  · exact hb
theorem len2 (a b : ByteArray) : (([a, b] : List ByteArray).length : Int) = 2 := rfl
def VS2 : List ByteArray := [⟨#[97]⟩, ⟨#[98]⟩]
def OS2 : List ByteArray := [⟨#[65]⟩, ⟨#[66]⟩]
theorem FdOk.ref {l : List Int} {at_ : Int} (h : FdOk l at_) (own kind : ByteArray) (ho : NmS own) : ∃ v f a1, jettisonlaw08_feed_ref.f l at_ VS2 OS2 own kind = some (1, ⟨#[]⟩, 0, v, f, [], a1) ∧ NmS v ∧ NmS f ∧ FdOk l a1 := by
  obtain ⟨b, a1, e, b0, b1, h1⟩ := h.next VS2 OS2
  unfold jettisonlaw08_feed_ref.f
  rw [e, Option.bind_some]
  have w3 : wrap64 (Int.tdiv b 3) = Int.tdiv b 3 := by
    have := Int.tdiv_eq_ediv_of_nonneg (b := 3) b0
    unfold wrap64; omega
  have w6 : wrap64 (Int.tdiv b 64) = Int.tdiv b 64 := by
    have := Int.tdiv_eq_ediv_of_nonneg (b := 64) b0
    unfold wrap64; omega
  have d3 : 0 ≤ Int.tdiv b 3 := by have := Int.tdiv_eq_ediv_of_nonneg (b := 3) b0; omega
  have d6 : 0 ≤ Int.tdiv b 64 := by have := Int.tdiv_eq_ediv_of_nonneg (b := 64) b0; omega
  have m3 : 0 ≤ Int.tmod (Int.tdiv b 3) 2 ∧ Int.tmod (Int.tdiv b 3) 2 < 2 := by rw [Int.tmod_eq_emod_of_nonneg d3]; omega
  have m6 : 0 ≤ Int.tmod (Int.tdiv b 64) 2 ∧ Int.tmod (Int.tdiv b 64) 2 < 2 := by rw [Int.tmod_eq_emod_of_nonneg d6]; omega
  have lv : (VS2.length : Int) = 2 := rfl
  have lo : (OS2.length : Int) = 2 := rfl
  rw [lv, lo, if_pos (by decide)]
  show ∃ v f a1, (if Int.tmod b 3 = 0 then _ else _) = _ ∧ _
  by_cases hb : Int.tmod b 3 = 0
  · obtain ⟨t, et, ht⟩ := map3_some (rdOf ByteArray.empty OS2 (Int.tmod (Int.tdiv b 3) 2))
    rw [if_pos hb, if_neg (by decide), w3, if_pos m3.1, if_pos m3.2, if_pos m3.2, et, Option.bind_some, Option.bind_some, w6, if_pos m6.1, len2, if_pos m6.2]
    exact ⟨_, _, _, rfl, pick_two nm_a nm_b _ m3.1 m3.2, pick_two nm_k ht _ m6.1 m6.2, h1⟩
  · obtain ⟨t, et, ht⟩ := map3_some kind
    rw [if_neg hb, et, Option.bind_some, Option.bind_some, w6, if_pos m6.1, len2, if_pos m6.2]
    exact ⟨_, _, _, rfl, ho, pick_two nm_k ht _ m6.1 m6.2, h1⟩
end Go.Proofs.YtimmomhgljofnaaDoor.Hand
