/- Stores over their arenas, the plain law: what a Put, a Drop and a Hold leave of the sums. -/
import Derived.Test.YtibcbeibehaeeaaJK
set_option linter.unusedVariables false
set_option linter.unusedSimpArgs false
namespace Go.Proofs.Ytibcbeibehaeeaa.Hand
open Go.RowKit Go.Proofs.Ytibcbeibehaeeaa.PStorePlays Go.Proofs.YtibcbeibehaeeaaW.PrintWords Go.Proofs.YtibcbeibehaeeaaW.PrintLast Go.Proofs.YtibcbeibehaeeaaW.PrintMore
section
variable {lim : Int} {bs : List S114} {l : List Kt} {k ek et : Int} {el : List Int} {s : ByteArray}
theorem putS_form (hp : (putE ek et el).2 = false) : putS lim bs l k ek et el = (7, l, bs) := by
  unfold putS
  rw [if_pos hp]
theorem putS_has (hp : putE ek et el = (s, true)) (hf : (findK l k).isSome = true) : putS lim bs l k ek et el = (1, l, bs) := by
  unfold putS
  rw [hp, if_neg (by simp), if_pos hf]
theorem putS_full (hp : putE ek et el = (s, true)) (hf : findK l k = none) (hs : s.size ≤ 1024) (hl : lim < sumOf bs + rnd (s.size : Int)) : putS lim bs l k ek et el = (9, l, bs) := by
  have hx : fit (s.size : Int) = true := fit_yes _ (by omega) (by omega)
  unfold putS
  rw [hp, if_neg (by simp), hf, if_neg (by simp)]
  dsimp only
  unfold allocE allocB
  rw [hx, if_neg (by simp), if_pos hl, if_neg (by simp), if_pos hl]
  rfl
/-- Where there is room: the slot i, its turn gn. -/
theorem putS_room (hp : putE ek et el = (s, true)) (hf : findK l k = none) (hs : s.size ≤ 1024) (hg : Good bs) (hb : bs.length < 4096) (hl : sumOf bs + rnd (s.size : Int) ≤ lim) :
    ∃ (i : Nat) (gn : Int), putS lim bs l k ek et el = (0, l ++ [⟨k, 0, i, gn, 1⟩], if i < bs.length then bs.set i ⟨gn, rnd (s.size : Int), s⟩ else bs ++ [⟨gn, rnd (s.size : Int), s⟩]) ∧ i ≤ bs.length ∧ (i < bs.length → (bk bs i).f1 = 0) := by
  have hx : fit (s.size : Int) = true := fit_yes _ (by omega) (by omega)
  have hl' : ¬ lim < sumOf bs + rnd (s.size : Int) := by omega
  have key : ∀ (i : Nat) (gn : Int) (bs' : List S114), allocE lim bs s.size = ((i : Int), gn, 0) → allocB lim bs s = bs' → putS lim bs l k ek et el = (0, l ++ [⟨k, 0, i, gn, 1⟩], bs') := by
    intro i gn bs' h1 h2
    unfold putS
    rw [hp, if_neg (by simp), hf, if_neg (by simp)]
    dsimp only
    rw [h1, h2]
    simp
  cases hfr : freeOf bs with
  | nil =>
    have hE : allocE lim bs s.size = ((bs.length : Int), 1, 0) := by
      unfold allocE
      rw [hx, if_neg (by simp), if_neg hl', hfr]
      simp only [if_neg (show ¬ bs.length = 4096 by omega)]
    have hB : allocB lim bs s = bs ++ [⟨1, rnd (s.size : Int), s⟩] := by
      unfold allocB
      rw [hx, if_neg (by simp), if_neg hl', hfr]
      simp only [if_neg (show ¬ bs.length = 4096 by omega)]
    refine ⟨bs.length, 1, ?_, Nat.le_refl _, fun h => absurd h (by omega)⟩
    rw [if_neg (Nat.lt_irrefl bs.length)]
    exact key _ _ _ hE hB
  | cons j r =>
    obtain ⟨n, rfl, hn, hz, _, _⟩ := free_head hfr
    have hE : allocE lim bs s.size = ((n : Int), (bk bs n).f0, 0) := by
      unfold allocE
      rw [hx, if_neg (by simp), if_neg hl', hfr]
      simp only [Int.toNat_natCast]
    have hB : allocB lim bs s = bs.set n ⟨(bk bs n).f0, rnd (s.size : Int), s⟩ := by
      unfold allocB
      rw [hx, if_neg (by simp), if_neg hl', hfr]
      simp only [Int.toNat_natCast]
    refine ⟨n, (bk bs n).f0, ?_, Nat.le_of_lt hn, fun _ => ?_⟩
    · rw [if_pos hn]
      exact key _ _ _ hE hB
    · have := hg.ok _ (bk_mem hn); omega
end
def sumK (bs : List S114) (l : List Kt) : Int := (l.map fun x => (bk bs x.sl).f1).sum
/-- What is kept and the blocks: a block each, and no other one lives. -/
structure Tied (bs : List S114) (l : List Kt) : Prop where
  good : Good bs
  lives : ∀ x ∈ l, Lives bs x.sl x.gn
  slots : (l.map (·.sl)).Nodup
  keys : (l.map (·.key)).Nodup
  sum : sumOf bs = sumK bs l
  live : liveOf bs = l.length
section
variable {lim : Int} {bs : List S114} {l : List Kt} {k ek et : Int} {el : List Int} {s : ByteArray}
theorem Tied.nil : Tied [] [] := ⟨Good.nil, by simp, by simp, by simp, rfl, rfl⟩
theorem Tied.fine (h : Tied bs l) (hm : ∀ x ∈ l, 1 ≤ x.many ∧ x.many ≤ 1000000) : Fine l := ⟨hm, fun x hx => by
  have := (h.lives x hx).1
  have := h.good.len
  omega⟩
theorem sumK_congr {bs bs' : List S114} {l : List Kt} (h : ∀ x ∈ l, bk bs' x.sl = bk bs x.sl) : sumK bs' l = sumK bs l := by
  unfold sumK
  congr 1
  exact List.map_congr_left (fun x hx => by rw [h x hx])
theorem findK_none_mem (h : findK l k = none) : k ∉ l.map (·.key) := by
  intro hm
  obtain ⟨x, hx, e⟩ := List.mem_map.1 hm
  have := List.find?_eq_none.1 h x hx
  exact this (by simpa using e)
theorem Tied.put (h : Tied bs l) (hf : findK l k = none) (i : Nat) (gn r : Int) (hr : 0 < r) (hr2 : r ≤ 1024) (hb : bs.length < 4096) (hi : i ≤ bs.length) (hz : i < bs.length → (bk bs i).f1 = 0) :
    Tied (if i < bs.length then bs.set i ⟨gn, r, s⟩ else bs ++ [⟨gn, r, s⟩]) (l ++ [⟨k, 0, i, gn, 1⟩]) ∧ sumOf (if i < bs.length then bs.set i ⟨gn, r, s⟩ else bs ++ [⟨gn, r, s⟩]) = sumOf bs + r ∧ (∀ x ∈ l, bk (if i < bs.length then bs.set i ⟨gn, r, s⟩ else bs ++ [⟨gn, r, s⟩]) x.sl = bk bs x.sl) ∧ bk (if i < bs.length then bs.set i ⟨gn, r, s⟩ else bs ++ [⟨gn, r, s⟩]) i = ⟨gn, r, s⟩ := by
  have hne : ∀ x ∈ l, x.sl ≠ i := by
    rintro x hx rfl
    have hL := h.lives x hx
    have := hz hL.1
    have := hL.2.1
    omega
  obtain ⟨bs', hbs⟩ : ∃ bs', bs' = if i < bs.length then bs.set i ⟨gn, r, s⟩ else bs ++ [⟨gn, r, s⟩] := ⟨_, rfl⟩
  rw [← hbs]
  have hsame : ∀ x ∈ l, bk bs' x.sl = bk bs x.sl := by
    intro x hx
    have h1 := (h.lives x hx).1
    have h2 := hne x hx
    rw [hbs]
    split
    · simp [bk, List.getElem?_set, h2.symm]
    · simp [bk, List.getElem?_append_left h1]
  have hnew : bk bs' i = ⟨gn, r, s⟩ := by
    rw [hbs]
    split
    · rename_i hlt; exact bk_set _ _ _ hlt
    · rename_i hlt
      have : i = bs.length := by omega
      subst this
      simp [bk]
  have hlen : i < bs'.length ∧ bs.length ≤ bs'.length := by
    rw [hbs]
    split
    · rename_i hlt; rw [List.length_set]; exact ⟨hlt, Nat.le_refl _⟩
    · rename_i hlt; rw [List.length_append, List.length_singleton]; omega
  have hsum : sumOf bs' = sumOf bs + r := by
    rw [hbs]
    split
    · rename_i hlt
      rw [sum_set _ _ hlt, hz hlt]
      show sumOf bs - 0 + r = sumOf bs + r
      omega
    · rw [sumOf_app]; simp [sumOf]
  have hlive : liveOf bs' = liveOf bs + 1 := by
    rw [hbs]
    split
    · rename_i hlt
      have := live_set bs i hlt ⟨gn, r, s⟩
      rw [hz hlt, if_pos (Int.le_refl 0), if_neg (show ¬ (⟨gn, r, s⟩ : S114).f1 ≤ 0 from by show ¬ r ≤ 0; omega)] at this
      omega
    · rw [liveOf_app]
      simp only [liveOf]
      rw [if_neg (show ¬ r ≤ 0 by omega)]
  refine ⟨⟨?_, ?_, ?_, ?_, ?_, ?_⟩, hsum, hsame, hnew⟩
  · rw [hbs]
    split
    · exact h.good.set _ _ (Int.le_of_lt hr) hr2
    · exact h.good.snoc _ hb (Int.le_of_lt hr) hr2
  · intro x hx
    rcases List.mem_append.1 hx with hx | hx
    · have hL := h.lives x hx
      refine ⟨by have := hL.1; omega, ?_, ?_⟩ <;> rw [hsame x hx]
      · exact hL.2.1
      · exact hL.2.2
    · obtain rfl := List.mem_singleton.1 hx
      refine ⟨hlen.1, ?_, ?_⟩
      · show 0 < (bk bs' i).f1
        rw [hnew]; exact hr
      · show (bk bs' i).f0 = gn
        rw [hnew]
  · rw [List.map_append, List.nodup_append]
    refine ⟨h.slots, by simp, ?_⟩
    intro a ha b hb e
    obtain ⟨x, hx, rfl⟩ := List.mem_map.1 ha
    simp at hb
    exact hne x hx (e.trans hb)
  · rw [List.map_append, List.nodup_append]
    refine ⟨h.keys, by simp, ?_⟩
    intro a ha b hb e
    simp at hb
    exact findK_none_mem hf (by rw [← hb, ← e]; exact ha)
  · rw [hsum, h.sum]
    unfold sumK
    rw [List.map_append, List.sum_append]
    have := sumK_congr hsame
    unfold sumK at this
    rw [this]
    simp [hnew]
  · rw [hlive, h.live]
    simp
/-- What is kept under a key, in its midst. -/
theorem findK_split (h : (l.map (·.key)).Nodup) {x : Kt} (hf : findK l k = some x) : ∃ a c, l = a ++ x :: c ∧ dropK l k = a ++ c ∧ x.key = k := by
  obtain ⟨hm, hk⟩ := findK_some hf
  obtain ⟨a, c, rfl⟩ := List.append_of_mem hm
  refine ⟨a, c, rfl, ?_, hk⟩
  rw [List.map_append, List.map_cons, List.nodup_append] at h
  obtain ⟨h1, h2, h3⟩ := h
  rw [List.nodup_cons] at h2
  unfold dropK
  rw [List.filter_append, List.filter_cons, if_neg (by simp [hk])]
  congr 1
  · rw [List.filter_eq_self]
    intro z hz
    have : z.key ≠ k := fun e => h3 z.key (List.mem_map_of_mem hz) x.key (by simp) (by rw [e, hk])
    simpa using this
  · rw [List.filter_eq_self]
    intro z hz
    have : z.key ≠ k := fun e => h2.1 (by rw [hk, ← e]; exact List.mem_map_of_mem hz)
    simpa using this
theorem Tied.drop (h : Tied bs l) {x : Kt} (hf : findK l k = some x) : Tied (freeB bs x.sl x.gn) (dropK l k) ∧ sumOf (freeB bs x.sl x.gn) = sumOf bs - (bk bs x.sl).f1 ∧ (∀ y ∈ dropK l k, bk (freeB bs x.sl x.gn) y.sl = bk bs y.sl) ∧ (freeB bs x.sl x.gn).length = bs.length := by
  obtain ⟨hm, hk⟩ := findK_some hf
  have hL := h.lives x hm
  have hfb : freeB bs x.sl x.gn = bs.set x.sl ⟨IntKind.u32.wrap (x.gn + 1), 0, ⟨#[]⟩⟩ := by
    unfold freeB
    rw [if_pos ((lives_iff _ _ _).2 hL)]
  obtain ⟨a, c, hl, hd, _⟩ := findK_split h.keys hf
  have hmem : ∀ y ∈ dropK l k, y ∈ l ∧ y.sl ≠ x.sl := by
    intro y hy
    rw [hd] at hy
    have hs := h.slots
    rw [hl, List.map_append, List.map_cons, List.nodup_append] at hs
    obtain ⟨_, h2, h3⟩ := hs
    rw [List.nodup_cons] at h2
    rcases List.mem_append.1 hy with hy | hy
    · exact ⟨by rw [hl]; exact List.mem_append_left _ hy, h3 _ (List.mem_map_of_mem hy) _ (by simp)⟩
    · exact ⟨by rw [hl]; exact List.mem_append_right _ (List.mem_cons_of_mem _ hy), fun e => h2.1 (by rw [← e]; exact List.mem_map_of_mem hy)⟩
  have hsame : ∀ y ∈ dropK l k, bk (freeB bs x.sl x.gn) y.sl = bk bs y.sl := by
    intro y hy
    rw [hfb]
    simp [bk, List.getElem?_set, (hmem y hy).2.symm]
  have hsum : sumOf (freeB bs x.sl x.gn) = sumOf bs - (bk bs x.sl).f1 := by
    rw [hfb, sum_set _ _ hL.1]
    simp
  refine ⟨⟨freeB_good h.good _ _, ?_, ?_, ?_, ?_, ?_⟩, hsum, hsame, by rw [hfb, List.length_set]⟩
  · intro y hy
    have := h.lives y (hmem y hy).1
    refine ⟨by rw [hfb, List.length_set]; exact this.1, ?_, ?_⟩ <;> rw [hsame y hy]
    · exact this.2.1
    · exact this.2.2
  · have hs := h.slots
    rw [hl, List.map_append, List.map_cons] at hs
    rw [hd, List.map_append]
    exact hs.sublist (List.Sublist.append_left (List.sublist_cons_self _ _) _)
  · have hs := h.keys
    rw [hl, List.map_append, List.map_cons] at hs
    rw [hd, List.map_append]
    exact hs.sublist (List.Sublist.append_left (List.sublist_cons_self _ _) _)
  · rw [hsum, sumK_congr hsame, h.sum]
    conv => lhs; rw [hl]
    rw [hd]
    unfold sumK
    simp only [List.map_append, List.map_cons, List.sum_append, List.sum_cons]
    omega
  · have hv := live_set bs x.sl hL.1 ⟨IntKind.u32.wrap (x.gn + 1), 0, ⟨#[]⟩⟩
    rw [← hfb, if_neg (by have := hL.2.1; omega), if_pos (Int.le_refl 0)] at hv
    have h2 := h.live
    rw [hl] at h2
    rw [hd]
    simp at h2 ⊢
    omega
theorem Tied.bumped (h : Tied bs l) (d : Int) : Tied bs (bump l k d) := by
  have hs : (bump l k d).map (·.sl) = l.map (·.sl) := by
    unfold bump
    rw [List.map_map]
    apply List.map_congr_left
    intro x _
    simp only [Function.comp]
    split <;> rfl
  refine ⟨h.good, ?_, by rw [hs]; exact h.slots, by rw [bump_keys]; exact h.keys, ?_, ?_⟩
  · intro x hx
    obtain ⟨y, hy, rfl⟩ := List.mem_map.1 hx
    have := h.lives y hy
    split <;> exact this
  · rw [h.sum]
    unfold sumK
    have : ∀ (m : List Kt), (m.map fun x => (bk bs x.sl).f1) = (m.map (·.sl)).map fun i => (bk bs i).f1 := by
      intro m; rw [List.map_map]; rfl
    rw [this, this, hs]
  · rw [h.live]
    unfold bump
    rw [List.length_map]
end
end Go.Proofs.Ytibcbeibehaeeaa.Hand
