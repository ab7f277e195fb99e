/- The reference's store over its arena: one contract for each method; what any deeds leave. -/
import Derived.Test.YtibcbeibehaeeaaJP
import Derived.Test.YtibcbeibehaeeaaJG
import Derived.Test.YtibcbeibehaeeaaJO
import Derived.Test.YtibcbeibehaeeaaG9
set_option linter.unusedVariables false
set_option linter.unusedSimpArgs false
namespace Go.Proofs.Ytibcbeibehaeeaa.Hand
open Go.RowKit Go.Proofs.Ytibcbeibehaeeaa.PStorePlays Go.Proofs.YtibcbeibehaeeaaW.PrintWords Go.Proofs.YtibcbeibehaeeaaW.PrintLast Go.Proofs.YtibcbeibehaeeaaW.PrintMore
section
variable {W W1 : World} {gr ga base : Nat} {cap lim : Int} {bs : List S114} {l : List Kt}
theorem u_new (ga base : Nat) (hb : base ≤ W.heap.size) (hga : base ≤ ga) (hr : RX W ga cap lim []) : Calls Try.prog 11 #[.pointer (some ⟨ga, 0, none⟩)] W fun e w' => ∃ gr, e = .returned (.pointer (some ⟨gr, 0, none⟩)) ∧ RY w' gr ga base cap lim [] [] ∧ Below W.heap.size W w' := by
  refine (f_new ga base (by obtain ⟨v, h1, h2⟩ := hr; exact blk_lt h1)).mono ?_
  rintro e w' ⟨gr, v, rfl, hS, hg, hB⟩
  exact ⟨gr, rfl, ⟨⟨v, hS⟩, hr.below hB, by omega, hga⟩, hB⟩
theorem u_count (h : RY W gr ga base cap lim bs l) (k : Int) (hL : l.length ≤ 1000000) (n : Int) (hn : cntK l k = n) : Calls Try.prog 22 #[.pointer (some ⟨gr, 0, none⟩), .int .i64 k] W fun e w' => e = .returned (.int .i64 n) ∧ Below W.heap.size W w' := by
  obtain ⟨⟨v, h⟩, ha, hz⟩ := h
  refine (f_count h k hL).mono ?_
  rintro e w' ⟨rfl, rfl⟩
  subst hn
  exact ⟨rfl, Below.refl _ _⟩
theorem u_len (h : RY W gr ga base cap lim bs l) (n : Nat) (hn : l.length = n) : Calls Try.prog 24 #[.pointer (some ⟨gr, 0, none⟩)] W fun e w' => e = .returned (.int .i64 (n : Int)) ∧ Below W.heap.size W w' := by
  obtain ⟨⟨v, h⟩, ha, hz⟩ := h
  refine (f_len h).mono ?_
  rintro e w' ⟨rfl, rfl⟩
  subst hn
  exact ⟨rfl, Below.refl _ _⟩
theorem u_charged (h : RY W gr ga base cap lim bs l) (hg : Good bs) (n : Int) (hn : sumOf bs = n) : Calls Try.prog 26 #[.pointer (some ⟨ga, 0, none⟩)] W fun e w' => e = .returned (.int .i64 n) ∧ Below W.heap.size W w' := by
  refine (rc_charged h.2.1 hg).mono ?_
  rintro e w' ⟨rfl, rfl⟩
  subst hn
  exact ⟨rfl, Below.refl _ _⟩
theorem u_hold (h : RY W gr ga base cap lim bs l) (hl : Fine l) (hg : Good bs) (hk : (l.map (·.key)).Nodup) (hL : l.length ≤ 1000000) (k : Int) (b : Bool) (hb : (findK l k).isSome = b) (l' : List Kt) (hl' : bump l k 1 = l') : Calls Try.prog 15 #[.pointer (some ⟨gr, 0, none⟩), .int .i64 k] W fun e w' => e = .returned (.bool b) ∧ RY w' gr ga base cap lim bs l' ∧ FU base W w' := by
  obtain ⟨⟨v, h⟩, ha, h1, h2⟩ := h
  refine (f_hold_ h k hL hk (fun x hx => by have := hl.many x hx; omega) ha hg h1 h2).mono ?_
  rintro e w' ⟨rfl, hS, hA, hF⟩
  subst hb hl'
  exact ⟨rfl, ⟨hS, hA, h1, h2⟩, hF⟩
theorem u_drop (h : RY W gr ga base cap lim bs l) (hl : Fine l) (hg : Good bs) (hk : (l.map (·.key)).Nodup) (hL : l.length ≤ 1000000) (k : Int) (b : Bool) (hb : (findK l k).isSome = b) (l' : List Kt) (hl' : dropL l k = l') (bs' : List S114) (hbs : dropS bs l k = bs') : Calls Try.prog 17 #[.pointer (some ⟨gr, 0, none⟩), .int .i64 k] W fun e w' => e = .returned (.bool b) ∧ RY w' gr ga base cap lim bs' l' ∧ FU base W w' := by
  obtain ⟨⟨v, h⟩, ha, h1, h2⟩ := h
  have hm : ∀ x ∈ l, 0 ≤ x.many ∧ x.many ≤ 1000000 := fun x hx => by have := hl.many x hx; omega
  subst hb hl' hbs
  unfold dropL dropS
  cases hf : findK l k with
  | none =>
    refine (f_drop_no h k hL hf).mono ?_
    rintro e w' ⟨rfl, rfl⟩
    exact ⟨rfl, ⟨⟨_, h⟩, ha, h1, h2⟩, FU.refl _ _⟩
  | some x =>
    have hx := hl.many x (findK_some hf).1
    have hs := hl.slot x (findK_some hf).1
    dsimp only
    by_cases h0 : x.many = 1
    · rw [if_pos h0, if_pos h0]
      refine (f_drop_last h k hL hk hm x hf h0 hs ha hg h1 h2).mono ?_
      rintro e w' ⟨rfl, hS, hA, hF⟩
      exact ⟨rfl, ⟨hS, hA, h1, h2⟩, hF⟩
    · rw [if_neg h0, if_neg h0]
      refine (f_drop_more h k hL hk hm x hf (by omega) ha hg h1 h2).mono ?_
      rintro e w' ⟨rfl, hS, hA, hF⟩
      exact ⟨rfl, ⟨hS, hA, h1, h2⟩, hF⟩
theorem u_get (h : RY W gr ga base cap lim bs l) (hl : Fine l) (hg : Good bs) (hL : l.length ≤ 1000000) (hsz : ∀ b ∈ bs, b.f2.size ≤ 1000000000000000) (k : Int) (ek et : Int) (el : List Int) (b : Bool) (he : getS bs l k = (ek, et, el, b)) : Calls Try.prog 19 #[.pointer (some ⟨gr, 0, none⟩), .int .i64 k] W fun e w' => ∃ v : Value, e = .returned (.tuple #[.agg #[.int .i64 ek, .int .i64 et, v], .bool b]) ∧ Kd.R (Kd.int .i64) 2 w' W.heap.size (fun _ => True) v el ∧ Below W.heap.size W w' := by
  obtain ⟨⟨v, h⟩, ha, h1, h2⟩ := h
  unfold getS at he
  cases hf : findK l k with
  | none =>
    rw [hf] at he
    injection he with e1 he; injection he with e2 he; injection he with e3 e4
    subst e1 e2 e3 e4
    refine (f_get_no_ h k hL hf).mono ?_
    rintro e' w' ⟨rfl, hB⟩
    exact ⟨_, rfl, Kd.R_nil _ _ _ _ _, hB⟩
  | some x =>
    rw [hf] at he
    have hs2 : (getE bs x.sl x.gn).size ≤ 1000000000000000 := by
      unfold getE
      split
      · rename_i hv
        rw [lives_iff] at hv
        exact hsz _ (bk_mem hv.1)
      · decide
    injection he with e1 he; injection he with e2 he; injection he with e3 e4
    refine (f_get_yes h k hL ha hg x hf (hl.slot x (findK_some hf).1) _ rfl hs2 ek et _ el (by rw [← e1, ← e2, ← e3])).mono ?_
    rintro e' w' ⟨v, rfl, hR, hB⟩
    subst e4
    exact ⟨v, rfl, hR, hB⟩
theorem u_put (h : RY W gr ga base cap lim bs l) (hg : Good bs) (hL : l.length ≤ 1000000) (k : Int) (ek et : Int) (el : List Int) (A : Option Addr) (n c : Nat) (hr : Kd.C (Kd.int .i64) W A n el) (hc : n ≤ c) (er : Int) (l' : List Kt) (bs' : List S114) (hp : putS lim bs l k ek et el = (er, l', bs')) : Calls Try.prog 13 #[.pointer (some ⟨gr, 0, none⟩), .int .i64 k, .agg #[.int .i64 ek, .int .i64 et, .slice A n c]] W fun e w' => e = .returned (.int .i64 er) ∧ RY w' gr ga base cap lim bs' l' ∧ FU base W w' := by
  obtain ⟨⟨v, h⟩, ha, h1, h2⟩ := h
  obtain rfl := hr.1
  obtain ⟨s, b, hs⟩ : ∃ s b, putE ek et el = (s, b) := ⟨_, _, rfl⟩
  unfold putS at hp
  rw [hs] at hp
  cases b with
  | false =>
    rw [if_pos rfl] at hp
    injection hp with e1 hp; injection hp with e2 e3
    subst e1 e2 e3
    refine (f_put_form h k hL ek et el A c hr hc s hs).mono ?_
    rintro e' w' ⟨rfl, hB⟩
    exact ⟨rfl, ⟨⟨_, h.below hB⟩, ha.below hB, h1, h2⟩, FU.of_below hB⟩
  | true =>
    rw [if_neg (by simp)] at hp
    cases hf : findK l k with
    | some x =>
      rw [hf, if_pos (show (some x).isSome = true from rfl)] at hp
      injection hp with e1 hp; injection hp with e2 e3
      subst e1 e2 e3
      refine (f_put_arg h k hL ek et el A c hr hc s hs x hf).mono ?_
      rintro e' w' ⟨rfl, hB⟩
      exact ⟨rfl, ⟨⟨_, h.below hB⟩, ha.below hB, h1, h2⟩, FU.of_below hB⟩
    | none =>
      rw [hf, if_neg (show ¬ (none : Option Kt).isSome = true by simp)] at hp
      injection hp with e1 hp; injection hp with e2 e3
      subst e1 e2 e3
      simp only
      obtain ⟨sl, gn, er, hE⟩ : ∃ sl gn er, allocE lim bs s.size = (sl, gn, er) := ⟨_, _, _, rfl⟩
      rw [hE]
      simp only
      by_cases h0 : er = 0
      · subst h0
        have hsl : sl = ((sl.toNat : Nat) : Int) := by
          have := allocE_nn hE
          omega
        rw [if_pos rfl]
        refine (f_put_ok h k hL ek et el A c hr hc s hs hf ha hg sl.toNat gn (by rw [hE, ← hsl]) h1 h2).mono ?_
        rintro e' w' ⟨rfl, hS, hA, hF⟩
        exact ⟨rfl, ⟨hS, hA, h1, h2⟩, hF⟩
      · rw [if_neg h0]
        refine (f_put_err h k hL ek et el A c hr hc s hs hf ha hg sl gn er hE (by simpa using h0)).mono ?_
        rintro e' w' ⟨rfl, hS, hA, hF⟩
        exact ⟨rfl, ⟨⟨_, hS⟩, hA, h1, h2⟩, (FU.of_fr hF).mono h2⟩
end
/-- What any deeds leave. -/
structure Any (m : Int) (bs : List S114) (l : List Kt) : Prop where
  tied : Tied bs l
  many : ∀ x ∈ l, 1 ≤ x.many ∧ x.many ≤ m
  len : (bs.length : Int) ≤ m
  siz : ∀ b ∈ bs, b.f2.size ≤ 1000000000000000
section
variable {m lim : Int} {bs : List S114} {l : List Kt}
theorem Any.nil : Any 0 [] [] := ⟨Tied.nil, by simp, by simp, by simp⟩
theorem Any.mono {m' : Int} (h : Any m bs l) (hm : m ≤ m') : Any m' bs l := ⟨h.tied, fun x hx => by have := h.many x hx; omega, by have := h.len; omega, h.siz⟩
theorem Any.fine (h : Any m bs l) (hm : m ≤ 1000) : Fine l := h.tied.fine (fun x hx => by have := h.many x hx; omega)
theorem Any.short (h : Any m bs l) (hm : m ≤ 1000) : l.length ≤ 1000000 := by
  have h1 := live_free bs 0
  have h2 := h.tied.live
  have h3 := h.len
  omega
theorem Any.put (h : Any m bs l) (hm : m ≤ 1000) (k ek et : Int) (el : List Int) : ∃ er l' bs', putS lim bs l k ek et el = (er, l', bs') ∧ Any (m + 1) bs' l' := by
  have hz := putE_size ek et el
  obtain ⟨s, b, hs⟩ : ∃ s b, putE ek et el = (s, b) := ⟨_, _, rfl⟩
  rw [hs] at hz
  cases b with
  | false => exact ⟨7, l, bs, putS_form (by rw [hs]), h.mono (by omega)⟩
  | true =>
    simp only at hz
    cases hf : findK l k with
    | some x => exact ⟨1, l, bs, putS_has hs (by rw [hf]; rfl), h.mono (by omega)⟩
    | none =>
      have hr := rnd_facts (s.size : Int) (by omega) (by omega)
      have hb : bs.length < 4096 := by have := h.len; omega
      rcases Int.lt_or_le lim (sumOf bs + rnd (s.size : Int)) with hl | hl
      · exact ⟨9, l, bs, putS_full hs hf (by omega) hl, h.mono (by omega)⟩
      · obtain ⟨i, gn, e, hi, hz'⟩ := putS_room hs hf (by omega) h.tied.good hb hl
        obtain ⟨t1, t2, t3, t4⟩ := h.tied.put (s := s) hf i gn (rnd (s.size : Int)) (by omega) (by omega) hb hi hz'
        refine ⟨0, _, _, e, t1, ?_, ?_, ?_⟩
        · intro x hx
          rcases List.mem_append.1 hx with hx | hx
          · have := h.many x hx; omega
          · obtain rfl := List.mem_singleton.1 hx
            have := h.len
            show (1 : Int) ≤ 1 ∧ (1 : Int) ≤ m + 1
            omega
        · have := h.len
          split
          · rw [List.length_set]; omega
          · rw [List.length_append, List.length_singleton]; omega
        · intro b hb'
          split at hb'
          · rcases List.mem_or_eq_of_mem_set hb' with hb' | rfl
            · exact h.siz b hb'
            · show s.size ≤ 1000000000000000
              omega
          · rcases List.mem_append.1 hb' with hb' | hb'
            · exact h.siz b hb'
            · obtain rfl := List.mem_singleton.1 hb'
              show s.size ≤ 1000000000000000
              omega
theorem Any.bumped (h : Any m bs l) (k d m' : Int) (hm : ∀ x ∈ l, x.key = k → 1 ≤ x.many + d ∧ x.many + d ≤ m') (hmm : m ≤ m') : Any m' bs (bump l k d) := by
  refine ⟨h.tied.bumped d, ?_, by have := h.len; omega, h.siz⟩
  intro x hx
  obtain ⟨y, hy, rfl⟩ := List.mem_map.1 hx
  have := h.many y hy
  split
  · rename_i e; exact hm y hy e
  · omega
theorem Any.hold (h : Any m bs l) (k : Int) : Any (m + 1) bs (bump l k 1) := h.bumped k 1 (m + 1) (fun x hx _ => by have := h.many x hx; omega) (by omega)
theorem Any.drop (h : Any m bs l) (k : Int) : Any (m + 1) (dropS bs l k) (dropL l k) := by
  unfold dropS dropL
  cases hf : findK l k with
  | none => exact h.mono (by omega)
  | some x =>
    obtain ⟨hm, hk⟩ := findK_some hf
    have hx := h.many x hm
    dsimp only
    by_cases h1 : x.many = 1
    · rw [if_pos h1, if_pos h1]
      obtain ⟨t1, t2, t3, t4⟩ := h.tied.drop hf
      refine ⟨t1, fun y hy => by have := h.many y (List.mem_filter.1 hy).1; omega, by rw [t4]; have := h.len; omega, fun b hb => ?_⟩
      unfold freeB at hb
      split at hb
      · rcases List.mem_or_eq_of_mem_set hb with hb | rfl
        · exact h.siz b hb
        · show (0 : Nat) ≤ 1000000000000000
          omega
      · exact h.siz b hb
    · rw [if_neg h1, if_neg h1]
      refine h.bumped k (-1) (m + 1) (fun y hy e => ?_) (by omega)
      have e2 : y = x := nodup_inj h.tied.keys hy hm (by rw [e, hk])
      subst e2
      omega
end
end Go.Proofs.Ytibcbeibehaeeaa.Hand
