/- StoreCharges, the plain law: what a deed leaves, and the sum over the keys. -/
import Derived.Test.YtibcbeibehaeeaaJL
import Derived.Test.YtibcbeibehaeeaaJP
set_option linter.unusedVariables false
set_option linter.unusedSimpArgs false
namespace Go.Proofs.Ytibcbeibehaeeaa.Hand
open Go.RowKit Go.Proofs.Ytibcbeibehaeeaa.PStorePlays Go.Proofs.YtibcbeibehaeeaaW.PrintWords Go.Proofs.YtibcbeibehaeeaaW.PrintLast Go.Proofs.YtibcbeibehaeeaaW.PrintMore
/-- The bytes of the event of a key. -/
def evz (k : Nat) : ByteArray := evI (k : Int) 0 (List.replicate k 0) k
theorem evz_size (k : Nat) : (evz k).size = 10 + 8 * k := evI_size _ _ _ _ (by simp)
theorem evz_put (k : Nat) (hk : k < 8) : putE (k : Int) 0 (List.replicate k 0) = (evz k, true) := by
  have := putE_yes (k := (k : Int)) (t := 0) (l := List.replicate k 0) (by omega) (by omega) (by simp; omega)
  rwa [List.length_replicate] at this
theorem evz_get (k : Nat) (hk : k < 8) : wgetE (evz k) = ((k : Int), 0, List.replicate k 0, 0) := by
  have := (get_put (k : Int) 0 (List.replicate k 0) (by omega) (by omega) (by simp; omega) (by unfold I64; decide) (fun x hx => by rw [(List.mem_replicate.1 hx).2]; unfold I64; decide)).2
  rwa [List.length_replicate] at this
structure Held (m : Int) (bs : List S114) (l : List Kt) : Prop where
  tied : Tied bs l
  many : ∀ x ∈ l, 1 ≤ x.many ∧ x.many ≤ m
  key : ∀ x ∈ l, 0 ≤ x.key ∧ x.key < 8
  ev : ∀ x ∈ l, (bk bs x.sl).f2 = evz x.key.toNat ∧ (bk bs x.sl).f1 = rnd (10 + 8 * x.key)
  len : (bs.length : Int) ≤ m
  siz : ∀ b ∈ bs, b.f2.size ≤ 1000000000000000
section
variable {m : Int} {bs : List S114} {l : List Kt} {k : Int}
theorem Held.nil : Held 0 [] [] := ⟨Tied.nil, by simp, by simp, by simp, by simp, by simp⟩
theorem Held.mono {m' : Int} (h : Held m bs l) (hm : m ≤ m') : Held m' bs l := ⟨h.tied, fun x hx => by have := h.many x hx; omega, h.key, h.ev, by have := h.len; omega, h.siz⟩
theorem Held.fine (h : Held m bs l) (hm : m ≤ 1000) : Fine l := h.tied.fine (fun x hx => by have := h.many x hx; omega)
theorem Held.put (h : Held m bs l) (hm : m ≤ 1000) (k : Nat) (hk : k < 8) (hf : findK l (k : Int) = none) :
    ∃ (er : Int) (l' : List Kt) (bs' : List S114), putS 300 bs l (k : Int) (k : Int) 0 (List.replicate k 0) = (er, l', bs') ∧ (er = 0 ∨ er = 9) ∧ Held (m + 1) bs' l' := by
  have hz := evz_size k
  have hr := rnd_facts ((evz k).size : Int) (by omega) (by omega)
  have hb : bs.length < 4096 := by have := h.len; omega
  rcases Int.lt_or_le 300 (sumOf bs + rnd ((evz k).size : Int)) with hl | hl
  · exact ⟨9, l, bs, putS_full (evz_put k hk) hf (by omega) hl, .inr rfl, h.mono (by omega)⟩
  · obtain ⟨i, gn, e, hi, hz'⟩ := putS_room (evz_put k hk) hf (by omega) h.tied.good hb hl
    obtain ⟨t1, t2, t3, t4⟩ := h.tied.put (s := evz k) hf i gn (rnd ((evz k).size : Int)) (by omega) (by omega) hb hi hz'
    refine ⟨0, _, _, e, .inl rfl, t1, ?_, ?_, ?_, ?_, ?_⟩
    · intro x hx
      rcases List.mem_append.1 hx with hx | hx
      · have := h.many x hx; omega
      · obtain rfl := List.mem_singleton.1 hx
        have := h.len
        show (1 : Int) ≤ 1 ∧ (1 : Int) ≤ m + 1
        omega
    · intro x hx
      rcases List.mem_append.1 hx with hx | hx
      · exact h.key x hx
      · obtain rfl := List.mem_singleton.1 hx
        show (0 : Int) ≤ (k : Int) ∧ (k : Int) < 8
        omega
    · intro x hx
      rcases List.mem_append.1 hx with hx | hx
      · rw [t3 x hx]; exact h.ev x hx
      · obtain rfl := List.mem_singleton.1 hx
        simp only [t4, Int.toNat_natCast, true_and]
        rw [hz]
        congr 1
    · have := h.len
      split
      · rw [List.length_set]; omega
      · rw [List.length_append, List.length_singleton]; omega
    · intro b hb'
      split at hb'
      · rcases List.mem_or_eq_of_mem_set hb' with hb' | rfl
        · exact h.siz b hb'
        · show (evz k).size ≤ 1000000000000000
          omega
      · rcases List.mem_append.1 hb' with hb' | hb'
        · exact h.siz b hb'
        · obtain rfl := List.mem_singleton.1 hb'
          show (evz k).size ≤ 1000000000000000
          omega
theorem findK_bump (l : List Kt) (k d k' : Int) : findK (bump l k d) k' = (findK l k').map fun x => if x.key = k then { x with many := x.many + d } else x := by
  unfold findK bump
  rw [List.find?_map]
  congr 2
  funext x
  simp only [Function.comp]
  split <;> rfl
theorem bump_none (l : List Kt) (k d : Int) (hf : findK l k = none) : bump l k d = l := by
  refine (List.map_congr_left fun z hz => ?_).trans (List.map_id _)
  have := List.find?_eq_none.1 hf z hz
  rw [if_neg (by simpa using this)]
  rfl
theorem cntK_none (hf : findK l k = none) : cntK l k = 0 := by unfold cntK; rw [hf]
theorem cntK_some {x : Kt} (hf : findK l k = some x) : cntK l k = x.many := by unfold cntK; rw [hf]
theorem dropL_none (hf : findK l k = none) : dropL l k = l ∧ dropS bs l k = bs := by unfold dropL dropS; rw [hf]; exact ⟨rfl, rfl⟩
theorem cntK_bump {x : Kt} (hf : findK l k = some x) (d : Int) : cntK (bump l k d) k = cntK l k + d := by
  have hk := (findK_some hf).2
  rw [cntK_some hf]
  unfold cntK
  rw [findK_bump, hf]
  simp [hk]
theorem Held.bump_ (h : Held m bs l) (k d m' : Int) (hm : ∀ x ∈ l, x.key = k → 1 ≤ x.many + d ∧ x.many + d ≤ m') (hmm : m ≤ m') : Held m' bs (bump l k d) := by
  refine ⟨h.tied.bumped d, ?_, ?_, ?_, by have := h.len; omega, h.siz⟩
  · intro x hx
    obtain ⟨y, hy, rfl⟩ := List.mem_map.1 hx
    have := h.many y hy
    split
    · rename_i e; exact hm y hy e
    · omega
  · intro x hx
    obtain ⟨y, hy, rfl⟩ := List.mem_map.1 hx
    have := h.key y hy
    split <;> exact this
  · intro x hx
    obtain ⟨y, hy, rfl⟩ := List.mem_map.1 hx
    have := h.ev y hy
    split <;> exact this
theorem Held.hold (h : Held m bs l) {k : Int} : Held (m + 1) bs (bump l k 1) := h.bump_ k 1 (m + 1) (fun x hx _ => by have := h.many x hx; omega) (by omega)
theorem Held.drop (h : Held m bs l) {k : Int} {x : Kt} (hf : findK l k = some x) : Held m (dropS bs l k) (dropL l k) ∧ cntK (dropL l k) k = cntK l k - 1 := by
  obtain ⟨hm, hk⟩ := findK_some hf
  have hx := h.many x hm
  unfold dropS dropL
  rw [hf]
  dsimp only
  by_cases h1 : x.many = 1
  · rw [if_pos h1, if_pos h1]
    obtain ⟨t1, t2, t3, t4⟩ := h.tied.drop hf
    have hsub : ∀ y ∈ dropK l k, y ∈ l := fun y hy => (List.mem_filter.1 hy).1
    refine ⟨⟨t1, fun y hy => h.many y (hsub y hy), fun y hy => h.key y (hsub y hy), fun y hy => ?_, by rw [t4]; exact h.len, fun b hb => ?_⟩, ?_⟩
    · rw [t3 y hy]; exact h.ev y (hsub y hy)
    · unfold freeB at hb
      split at hb
      · rcases List.mem_or_eq_of_mem_set hb with hb | rfl
        · exact h.siz b hb
        · show (0 : Nat) ≤ 1000000000000000
          omega
      · exact h.siz b hb
    · have : findK (dropK l k) k = none := by
        refine List.find?_eq_none.2 (fun y hy => ?_)
        have := (List.mem_filter.1 hy).2
        simpa using this
      rw [cntK_none this, cntK_some hf]
      omega
  · rw [if_neg h1, if_neg h1]
    refine ⟨h.bump_ k (-1) m (fun y hy e => ?_) (Int.le_refl _), ?_⟩
    · have e2 : y = x := nodup_inj h.tied.keys hy hm (by rw [e, hk])
      subst e2
      omega
    · rw [cntK_bump hf]; rfl
theorem Held.get (h : Held m bs l) {k : Nat} (hk : k < 8) {x : Kt} (hf : findK l (k : Int) = some x) : getS bs l (k : Int) = ((k : Int), 0, List.replicate k 0, true) := by
  obtain ⟨hm, hk'⟩ := findK_some hf
  have hL := (lives_iff _ _ _).2 (h.tied.lives x hm)
  have he := (h.ev x hm).1
  rw [hk', Int.toNat_natCast] at he
  have : getE bs x.sl x.gn = evz k := by unfold getE; rw [if_pos hL, he]
  unfold getS
  rw [hf]
  dsimp only
  rw [this, evz_get k hk]
  rfl
theorem getS_none {k : Int} (hf : findK l k = none) : getS bs l k = (0, 0, [], false) := by unfold getS; rw [hf]
theorem Held.count (h : Held m bs l) {k : Int} {x : Kt} (hf : findK l k = some x) : 0 < cntK l k ∧ cntK l k ≤ m := by
  rw [cntK_some hf]
  have := h.many x (findK_some hf).1
  omega
/-- The sum over the first keys, and how many there are. -/
def totK (l : List Kt) (g : Nat → Int) : Nat → Int
  | 0 => 0
  | k + 1 => totK l g k + if (findK l (k : Int)).isSome then g k else 0
theorem totK_cons (x : Kt) (r : List Kt) (g : Nat → Int) (k0 : Nat) (hx : x.key = (k0 : Int)) (hn : findK r (k0 : Int) = none) : ∀ n, totK (x :: r) g n = totK r g n + if k0 < n then g k0 else 0
  | 0 => by simp [totK]
  | n + 1 => by
    have ih := totK_cons x r g k0 hx hn n
    simp only [totK, ih]
    by_cases e : n = k0
    · subst e
      have h1 : findK (x :: r) (n : Int) = some x := by unfold findK; rw [List.find?_cons]; simp [hx]
      rw [h1, hn, if_neg (Nat.lt_irrefl _), if_pos (Nat.lt_succ_self _)]
      simp
    · have h1 : findK (x :: r) (n : Int) = findK r (n : Int) := by
        unfold findK
        rw [List.find?_cons]
        have : (x.key == (n : Int)) = false := by rw [hx]; simp; omega
        rw [this]
      rw [h1]
      by_cases hlt : k0 < n
      · rw [if_pos hlt, if_pos (show k0 < n + 1 by omega)]; omega
      · rw [if_neg hlt, if_neg (show ¬ k0 < n + 1 by omega)]; omega
theorem totK_all (g : Nat → Int) : ∀ (l : List Kt), (l.map (·.key)).Nodup → (∀ x ∈ l, 0 ≤ x.key ∧ x.key < 8) → totK l g 8 = (l.map fun x => g x.key.toNat).sum
  | [], _, _ => by simp [totK, findK]
  | x :: r, hn, hk => by
    rw [List.map_cons, List.nodup_cons] at hn
    have hx := hk x (List.mem_cons_self ..)
    obtain ⟨k0, h0⟩ := Int.eq_ofNat_of_zero_le hx.1
    have hnone : findK r (k0 : Int) = none := List.find?_eq_none.2 (fun y hy => by
      have : y.key ≠ x.key := fun e => hn.1 (by rw [← e]; exact List.mem_map_of_mem hy)
      rw [h0] at this
      simpa using this)
    rw [totK_cons x r g k0 h0 hnone 8, if_pos (by omega), totK_all g r hn.2 (fun y hy => hk y (List.mem_cons_of_mem _ hy)), List.map_cons, List.sum_cons, h0, Int.toNat_natCast]
    omega
def gS (k : Nat) : Int := rnd (10 + 8 * (k : Int))
theorem Held.sums (h : Held m bs l) : sumOf bs = totK l gS 8 ∧ (l.length : Int) = totK l (fun _ => 1) 8 ∧ liveOf bs = l.length := by
  refine ⟨?_, ?_, h.tied.live⟩
  · rw [totK_all _ _ h.tied.keys h.key, h.tied.sum]
    unfold sumK
    congr 1
    apply List.map_congr_left
    intro x hx
    have hk := h.key x hx
    rw [(h.ev x hx).2]
    unfold gS
    congr 2
    omega
  · rw [totK_all _ _ h.tied.keys h.key]
    clear h
    induction l with
    | nil => rfl
    | cons x r ih => simp only [List.map_cons, List.sum_cons, List.length_cons, ← ih]; omega
theorem totK_bd (l : List Kt) (k : Nat) (hk : k ≤ 8) : 0 ≤ totK l gS k ∧ totK l gS k ≤ 1024 * k ∧ 0 ≤ totK l (fun _ => 1) k ∧ totK l (fun _ => 1) k ≤ k := by
  induction k with
  | zero => simp [totK]
  | succ k ih =>
    have := ih (by omega)
    have hr := rnd_le (10 + 8 * (k : Int))
    simp only [totK, gS]
    split <;> omega
end
end Go.Proofs.Ytibcbeibehaeeaa.Hand
