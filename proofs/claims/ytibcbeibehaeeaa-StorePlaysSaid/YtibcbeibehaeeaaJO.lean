/- Stores: the reference holds and drops, with what is left as it was. -/
import Derived.Test.YtibcbeibehaeeaaJN
set_option linter.unusedVariables false
set_option linter.unusedSimpArgs false
namespace Go.Proofs.Ytibcbeibehaeeaa.Hand
open Go.RowKit Go.Proofs.Ytibcbeibehaeeaa.PStorePlays Go.Proofs.YtibcbeibehaeeaaW.PrintWords Go.Proofs.YtibcbeibehaeeaaW.PrintLast Go.Proofs.YtibcbeibehaeeaaW.PrintMore
theorem keptEq {x y : Kt} (h : kt4 x = kt4 y) : kt4 x = kt4 y := h
theorem K_M {W : World} {base : Nat} (x : Int × Int × Int × Int) (cs : List Value) (h : kK.K W x cs) : kK.M W base (fun _ => False) x cs := by
  obtain ⟨c1, r1, e1, h1, c2, r2, e2, h2, c3, c4, e3, h3, h4⟩ := h
  exact ⟨c1, r1, e1, h1, c2, r2, e2, h2, c3, c4, e3, h3, h4⟩
theorem kcut_to (A : Option Addr) (n c k : Nat) (hk : k ≤ n) (hc : n ≤ c) : ∀ W : World, (Instr.slice 70 (.slice A n c) none (some (.int .i64 (k : Int))) none).run Try.prog W = .ok (.slice A k c) W := by
  obtain ⟨i, hi, hsz⟩ := Option.map_eq_some_iff.1 infoK
  have := cut_to (P := Try.prog) 70 89 .i64 Try.underlying70 hi A n c (k : Int) (by omega) (by omega) hc
  simpa using this
theorem kcut_from (A : Option Addr) (n c k : Nat) (k' : Int) (hk' : k' = (k : Int)) (hk : k ≤ n) : ∀ W : World, (Instr.slice 70 (.slice A n c) (some (.int .i64 k')) none none).run Try.prog W = .ok (.slice (if c = k then A else A.map (·.add (k * 4))) (n - k) (c - k)) W := by
  subst hk'
  obtain ⟨i, hi, hsz⟩ := Option.map_eq_some_iff.1 infoK
  simp only [Prod.mk.injEq] at hsz
  have := cut_from (P := Try.prog) 70 89 .i64 Try.underlying70 hi 4 hsz.2.1 A n c (k : Int) (by omega) (by omega)
  simpa using this
theorem below_none {W W1 : World} (g : W.grownBy W1 none) : Below W.heap.size W W1 := ⟨g.os, g.tape, g.output, g.size, fun k hk => g.block k hk (by simp)⟩
theorem kC_to {w : World} {A : Option Addr} {n : Nat} {xs : List (Int × Int × Int × Int)} (h : Kd.C kK w A n xs) (p : Nat) (hp : p ≤ xs.length) : Kd.C kK w A p (xs.take p) := by
  have hn := h.1
  subst hn
  have := Kd.C_take h hp
  rwa [List.length_take, Nat.min_eq_left hp] at this
theorem kC_from {w : World} {gb n c : Nat} {xs : List (Int × Int × Int × Int)} (h : Kd.C kK w (some ⟨gb, 0, none⟩) n xs) (p : Nat) (hp : p + 1 ≤ xs.length) (hc : n ≤ c) :
    Kd.C kK w (if c = ((p : Int) + 1).toNat then some ⟨gb, 0, none⟩ else some ⟨gb, ((p : Int) + 1).toNat * 4, none⟩) (n - ((p : Int) + 1).toNat) (xs.drop (p + 1)) := by
  have e : ((p : Int) + 1).toNat = p + 1 := by omega
  have hn := h.1
  subst hn
  have := Kd.C_drop h hp hc
  rw [e]
  rw [List.length_drop] at this
  have e2 : (some (⟨gb, 0, none⟩ : Addr)).map (·.add ((p + 1) * kK.sz)) = some ⟨gb, (p + 1) * 4, none⟩ := by
    show some ((⟨gb, 0, none⟩ : Addr).add ((p + 1) * 4)) = _
    unfold Addr.add
    rw [if_neg (by omega)]
    simp
  rw [e2] at this
  exact this
theorem set_take_drop {α : Type} (L : List α) (p : Nat) (x : α) : (L.set p x).take p ++ (L.set p x).drop (p + 1) = L.take p ++ L.drop (p + 1) := by
  rw [List.take_set, List.set_eq_of_length_le (by rw [List.length_take]; omega), List.drop_set]
  simp
theorem dropK_at {L : List Kt} {k : Int} {p : Nat} {x : Kt} (hx : L[p]? = some x) (hno : ∀ j y, j < p → L[j]? = some y → y.key ≠ k) (hk : x.key = k) (hn : (L.map (·.key)).Nodup) : dropK L k = L.take p ++ L.drop (p + 1) := by
  induction L generalizing p with
  | nil => simp at hx
  | cons y r ih =>
    rw [List.map_cons, List.nodup_cons] at hn
    unfold dropK
    rcases p with _ | p
    · simp at hx
      subst hx
      rw [List.filter_cons, if_neg (by simp [hk])]
      simp only [List.take_zero, List.nil_append, Nat.zero_add, List.drop_succ_cons, List.drop_zero]
      rw [List.filter_eq_self]
      intro z hz
      have : z.key ≠ k := fun e => hn.1 (by rw [hk, ← e]; exact List.mem_map_of_mem hz)
      simpa using this
    · have hy : y.key ≠ k := hno 0 y (by omega) (by simp)
      have := ih (p := p) (by simpa using hx) (fun j z hj hz => hno (j + 1) z (by omega) (by simpa using hz)) hn.2
      rw [List.filter_cons, if_pos (by simpa using hy)]
      unfold dropK at this
      rw [this]
      simp
set_option maxHeartbeats 1000000 in
set_option maxRecDepth 100000 in
theorem f_hold_ {W : World} {gr ga base : Nat} {v : Value} {L : List Kt} (h : RS W gr ga base v L) (k : Int) (hL : L.length ≤ 1000000) (hn : (L.map (·.key)).Nodup) (hmany : ∀ x ∈ L, 0 ≤ x.many ∧ x.many ≤ 1000000) {cap lim : Int} {bs : List S114} (ha : RX W ga cap lim bs) (hg : Good bs) (hgr : base ≤ gr) (hga : base ≤ ga) : Calls Try.prog 15 #[.pointer (some ⟨gr, 0, none⟩), .int .i64 k] W fun e w' => e = .returned (.bool (findK L k).isSome) ∧ (∃ v', RS w' gr ga base v' (bump L k 1)) ∧ RX w' ga cap lim (bs) ∧ FU base W w' := by
  obtain ⟨p, hp, hno, hyes, hf⟩ := pos_of L k
  have q0 := blk_cell h.blk 0
  have q1 := blk_cell h.blk 1
  have hlt := blk_lt h.blk
  simp only [List.getElem?_toArray, List.getElem?_cons_zero, List.getElem?_cons_succ] at q0 q1
  obtain ⟨A, c, rfl⟩ := h.row.slice
  have H := Aside0.mk h
  have HNO := Aside0.mk hno
  have HYES := Aside0.mk hyes
  have HF := Aside0.mk hf
  obtain ⟨r, hrr⟩ : ∃ r : Int, r = if p < L.length then (p : Int) else -1 := ⟨_, rfl⟩
  have HRR := Aside0.mk hrr
  clear h hno hyes hf hrr
  by_cases hlt2 : p < L.length
  · obtain ⟨x, hx⟩ : ∃ x, L[p]? = some x := ⟨L[p], List.getElem?_eq_getElem hlt2⟩
    have hr0 : r = (p : Int) := by rw [HRR.out, if_pos hlt2]
    subst hr0
    obtain ⟨gb, cb, e⟩ := H.out.row.addr (by omega)
    injection e with e1 e2 e3
    subst e1
    subst e3
    obtain ⟨k0, k1, k2, k3, kl⟩ := H.out.row.at_ p hlt2 x hx
    have hfx : findK L k = some x := by rw [HF.out, hx]
    have hmx := hmany x (List.mem_of_getElem? hx)
    have hP := H.out.row.many_ p x hx (x.many + 1) (by unfold I64k; omega)
    obtain ⟨hP1, hP2, cells, hcl⟩ := hP
    have HP1 := Aside0.mk hP1
    have HP2 := Aside0.mk hP2
    have HCL := Aside0.mk hcl
    have HA := Aside0.mk ha
    have hfz := blk_frozen hcl (p * 4 + 1)
    clear hP1 hP2 hcl ha
    go_enter Try.func15, Try.ntmps15
    go_wp2_with (first | (go_at_call 35; (with_reducible refine (f_find H.out k hL p hp HNO.out HYES.out _ HRR.out).mono ?_); rintro e w1 ⟨rfl, rfl⟩))
    all_goals go_ret
    have hne : gb ≠ gr := by
      rintro rfl
      have h1 := H.out.blk
      rw [HCL.out] at h1
      injection h1 with h1
      injection h1 with _ e
      exact absurd e (by decide)
    have HQ := HP1.out
    rw [← bump_set hx HNO.out (HYES.out x hx) hn] at HQ
    exact ⟨by simp [hfx], ⟨_, blk_far H.out.blk (fun e => hne e.symm) _, HQ⟩, HA.out.other HCL.out (by unfold RT; decide) _ _, FU.set HCL.out (.inr (.inr rfl)) HP2.out _ _⟩
  · have hr0 : r = -1 := by rw [HRR.out, if_neg hlt2]
    subst hr0
    have hfx : findK L k = none := by rw [HF.out]; exact List.getElem?_eq_none (by omega)
    rw [hfx]
    go_enter Try.func15, Try.ntmps15
    go_wp2_with (first | (go_at_call 35; (with_reducible refine (f_find H.out k hL p hp HNO.out HYES.out _ HRR.out).mono ?_); rintro e w1 ⟨rfl, rfl⟩))
    all_goals go_ret
    have hb : bump L k 1 = L := by
      refine (List.map_congr_left fun z hz => ?_).trans (List.map_id _)
      have := List.find?_eq_none.1 hfx z hz
      rw [if_neg (by simpa using this)]
      rfl
    rw [hb]
    exact ⟨rfl, ⟨_, H.out⟩, ha, FU.refl _ _⟩
set_option maxHeartbeats 1000000 in
set_option maxRecDepth 100000 in
theorem f_drop_no {W : World} {gr ga base : Nat} {v : Value} {L : List Kt} (h : RS W gr ga base v L) (k : Int) (hL : L.length ≤ 1000000) (hf0 : findK L k = none) : Calls Try.prog 17 #[.pointer (some ⟨gr, 0, none⟩), .int .i64 k] W fun e w' => e = .returned (.bool false) ∧ w' = W := by
  obtain ⟨p, hp, hno, hyes, hf⟩ := pos_of L k
  have q0 := blk_cell h.blk 0
  have q1 := blk_cell h.blk 1
  have hlt := blk_lt h.blk
  simp only [List.getElem?_toArray, List.getElem?_cons_zero, List.getElem?_cons_succ] at q0 q1
  obtain ⟨A, c, rfl⟩ := h.row.slice
  have H := Aside0.mk h
  have HNO := Aside0.mk hno
  have HYES := Aside0.mk hyes
  have HF := Aside0.mk hf
  obtain ⟨r, hrr⟩ : ∃ r : Int, r = if p < L.length then (p : Int) else -1 := ⟨_, rfl⟩
  have HRR := Aside0.mk hrr
  clear h hno hyes hf hrr
  by_cases hlt2 : p < L.length
  · obtain ⟨x, hx⟩ : ∃ x, L[p]? = some x := ⟨L[p], List.getElem?_eq_getElem hlt2⟩
    have hr0 : r = (p : Int) := by rw [HRR.out, if_pos hlt2]
    subst hr0
    obtain ⟨gb, cb, e⟩ := H.out.row.addr (by omega)
    injection e with e1 e2 e3
    subst e1
    subst e3
    obtain ⟨k0, k1, k2, k3, kl⟩ := H.out.row.at_ p hlt2 x hx
    have hfx : findK L k = some x := by rw [HF.out, hx]
    rw [hf0] at hfx
    cases hfx
  · have hr0 : r = -1 := by rw [HRR.out, if_neg hlt2]
    subst hr0
    have hfx : findK L k = none := by rw [HF.out]; exact List.getElem?_eq_none (by omega)
    go_enter Try.func17, Try.ntmps17
    go_wp2_with (first | (go_at_call 35; (with_reducible refine (f_find H.out k hL p hp HNO.out HYES.out _ HRR.out).mono ?_); rintro e w1 ⟨rfl, rfl⟩))
    all_goals go_ret
    all_goals exact ⟨rfl, rfl⟩
set_option maxHeartbeats 1000000 in
set_option maxRecDepth 100000 in
theorem f_drop_more {W : World} {gr ga base : Nat} {v : Value} {L : List Kt} (h : RS W gr ga base v L) (k : Int) (hL : L.length ≤ 1000000) (hn : (L.map (·.key)).Nodup) (hmany : ∀ x ∈ L, 0 ≤ x.many ∧ x.many ≤ 1000000) (x0 : Kt) (hf0 : findK L k = some x0) (hm2 : 2 ≤ x0.many) {cap lim : Int} {bs : List S114} (ha : RX W ga cap lim bs) (hg : Good bs) (hgr : base ≤ gr) (hga : base ≤ ga) : Calls Try.prog 17 #[.pointer (some ⟨gr, 0, none⟩), .int .i64 k] W fun e w' => e = .returned (.bool true) ∧ (∃ v', RS w' gr ga base v' (bump L k (-1))) ∧ RX w' ga cap lim (bs) ∧ FU base W w' := by
  obtain ⟨p, hp, hno, hyes, hf⟩ := pos_of L k
  have q0 := blk_cell h.blk 0
  have q1 := blk_cell h.blk 1
  have hlt := blk_lt h.blk
  simp only [List.getElem?_toArray, List.getElem?_cons_zero, List.getElem?_cons_succ] at q0 q1
  obtain ⟨A, c, rfl⟩ := h.row.slice
  have H := Aside0.mk h
  have HNO := Aside0.mk hno
  have HYES := Aside0.mk hyes
  have HF := Aside0.mk hf
  obtain ⟨r, hrr⟩ : ∃ r : Int, r = if p < L.length then (p : Int) else -1 := ⟨_, rfl⟩
  have HRR := Aside0.mk hrr
  clear h hno hyes hf hrr
  by_cases hlt2 : p < L.length
  · obtain ⟨x, hx⟩ : ∃ x, L[p]? = some x := ⟨L[p], List.getElem?_eq_getElem hlt2⟩
    have hr0 : r = (p : Int) := by rw [HRR.out, if_pos hlt2]
    subst hr0
    obtain ⟨gb, cb, e⟩ := H.out.row.addr (by omega)
    injection e with e1 e2 e3
    subst e1
    subst e3
    obtain ⟨k0, k1, k2, k3, kl⟩ := H.out.row.at_ p hlt2 x hx
    have hfx : findK L k = some x := by rw [HF.out, hx]
    rw [hf0] at hfx
    obtain rfl := Option.some.inj hfx
    have hmx := hmany x0 (List.mem_of_getElem? hx)
    have hP := H.out.row.many_ p x0 hx (x0.many - 1) (by unfold I64k; omega)
    obtain ⟨hP1, hP2, cells, hcl⟩ := hP
    have HP1 := Aside0.mk hP1
    have HP2 := Aside0.mk hP2
    have HCL := Aside0.mk hcl
    have HA := Aside0.mk ha
    have hfz := blk_frozen hcl (p * 4 + 1)
    clear hP1 hP2 hcl ha
    have z1 : (x0.many - 1 == 0) = false := by simp; omega
    have hne : gb ≠ gr := by
      rintro rfl
      have h1 := H.out.blk
      rw [HCL.out] at h1
      injection h1 with h1
      injection h1 with _ e
      exact absurd e (by decide)
    have hne2 : gr ≠ gb := fun e => hne e.symm
    go_enter Try.func17, Try.ntmps17
    go_wp2_with (first | (go_at_call 35; (with_reducible refine (f_find H.out k hL p hp HNO.out HYES.out _ HRR.out).mono ?_); rintro e w1 ⟨rfl, rfl⟩))
    all_goals go_ret
    have HQ := HP1.out
    rw [show x0.many - 1 = x0.many + -1 by omega, ← bump_set hx HNO.out (HYES.out x0 hx) hn] at HQ
    exact ⟨rfl, ⟨_, blk_far H.out.blk (fun e => hne e.symm) _, HQ⟩, HA.out.other HCL.out (by unfold RT; decide) _ _, FU.set HCL.out (.inr (.inr rfl)) HP2.out _ _⟩
  · have hr0 : r = -1 := by rw [HRR.out, if_neg hlt2]
    subst hr0
    have hfx : findK L k = none := by rw [HF.out]; exact List.getElem?_eq_none (by omega)
    rw [hf0] at hfx
    cases hfx
set_option maxHeartbeats 1000000 in
set_option maxRecDepth 100000 in
theorem f_drop_last {W : World} {gr ga base : Nat} {v : Value} {L : List Kt} (h : RS W gr ga base v L) (k : Int) (hL : L.length ≤ 1000000) (hn : (L.map (·.key)).Nodup) (hmany : ∀ x ∈ L, 0 ≤ x.many ∧ x.many ≤ 1000000) (x0 : Kt) (hf0 : findK L k = some x0) (hm1 : x0.many = 1) (hsl : x0.sl ≤ 4294967295) {cap lim : Int} {bs : List S114} (ha : RX W ga cap lim bs) (hg : Good bs) (hgr : base ≤ gr) (hga : base ≤ ga) : Calls Try.prog 17 #[.pointer (some ⟨gr, 0, none⟩), .int .i64 k] W fun e w' => e = .returned (.bool true) ∧ (∃ v', RS w' gr ga base v' (dropK L k)) ∧ RX w' ga cap lim (freeB bs x0.sl x0.gn) ∧ FU base W w' := by
  obtain ⟨p, hp, hno, hyes, hf⟩ := pos_of L k
  have q0 := blk_cell h.blk 0
  have q1 := blk_cell h.blk 1
  have hlt := blk_lt h.blk
  simp only [List.getElem?_toArray, List.getElem?_cons_zero, List.getElem?_cons_succ] at q0 q1
  obtain ⟨A, c, rfl⟩ := h.row.slice
  have H := Aside0.mk h
  have HNO := Aside0.mk hno
  have HYES := Aside0.mk hyes
  have HF := Aside0.mk hf
  obtain ⟨r, hrr⟩ : ∃ r : Int, r = if p < L.length then (p : Int) else -1 := ⟨_, rfl⟩
  have HRR := Aside0.mk hrr
  clear h hno hyes hf hrr
  by_cases hlt2 : p < L.length
  · obtain ⟨x, hx⟩ : ∃ x, L[p]? = some x := ⟨L[p], List.getElem?_eq_getElem hlt2⟩
    have hr0 : r = (p : Int) := by rw [HRR.out, if_pos hlt2]
    subst hr0
    obtain ⟨gb, cb, e⟩ := H.out.row.addr (by omega)
    injection e with e1 e2 e3
    subst e1
    subst e3
    obtain ⟨k0, k1, k2, k3, kl⟩ := H.out.row.at_ p hlt2 x hx
    have hfx : findK L k = some x := by rw [HF.out, hx]
    rw [hf0] at hfx
    obtain rfl := Option.some.inj hfx
    have hmx := hmany x0 (List.mem_of_getElem? hx)
    have hP := H.out.row.many_ p x0 hx (0) (by unfold I64k; omega)
    obtain ⟨hP1, hP2, cells, hcl⟩ := hP
    have HP1 := Aside0.mk hP1
    have HP2 := Aside0.mk hP2
    have HCL := Aside0.mk hcl
    have HA := Aside0.mk ha
    have hfz := blk_frozen hcl (p * 4 + 1)
    clear hP1 hP2 hcl ha
    have HG := Aside0.mk hg
    have HX := Aside0.mk hx
    have HN := Aside0.mk hn
    have HM1 := Aside0.mk hm1
    rw [hm1] at k1
    clear hg hf0 hmany hmx hn
    have hne : gb ≠ gr := by
      rintro rfl
      have h1 := H.out.blk
      rw [HCL.out] at h1
      injection h1 with h1
      injection h1 with _ e
      exact absurd e (by decide)
    have hne2 : gr ≠ gb := fun e => hne e.symm
    go_enter Try.func17, Try.ntmps17
    go_upto_region 6 with (first | (go_at_call 35; (with_reducible refine (f_find H.out k hL p hp HNO.out HYES.out _ HRR.out).mono ?_); rintro e w1 ⟨rfl, rfl⟩))
    have HR1 : Aside0 (RS (w1.setCell ⟨gb, p * 4 + 1, none⟩ (.int .i64 0)) gr ga base (.slice (some ⟨gb, 0, none⟩) L.length c) (L.set p { x0 with many := 0 })) := ⟨⟨blk_far H.out.blk (fun e => hne e.symm) _, HP1.out⟩⟩
    have HA1 := Aside0.mk (HA.out.other HCL.out (by unfold RT; decide) (p * 4 + 1) (.int .i64 0))
    have HF1 := Aside0.mk (FU.set (g := base) HCL.out (.inr (.inr rfl)) HP2.out (p * 4 + 1) (.int .i64 0))
    clear HA HP1 HCL q0 q1 hlt k0 k1 k2 k3 kl hfz hne hne2
    generalize w1.setCell ⟨gb, p * 4 + 1, none⟩ (.int .i64 0) = W1 at *
    obtain ⟨L', hL'⟩ : ∃ L', L' = L.set p { x0 with many := 0 } := ⟨_, rfl⟩
    rw [← hL'] at HR1
    have hlen : L'.length = L.length := by rw [hL', List.length_set]
    have hx' : L'[p]? = some { x0 with many := 0 } := by rw [hL', List.getElem?_set_self hlt2]
    have q0 := blk_cell HR1.out.blk 0
    have q1 := blk_cell HR1.out.blk 1
    have hlt := blk_lt HR1.out.blk
    simp only [List.getElem?_toArray, List.getElem?_cons_zero, List.getElem?_cons_succ] at q0 q1
    obtain ⟨k0, k1, k2, k3, kl⟩ := HR1.out.row.at_ p hlt2 _ hx'
    simp only at k2 k3
    have HL' := Aside0.mk hL'
    have HX' := Aside0.mk hx'
    clear hL' hx' k0 k1
    refine start_ (n := 13) (S := fun w' => w'.cell? ⟨gr, 0, none⟩ = some (.pointer (some ⟨ga, 0, none⟩)) ∧ w'.cell? ⟨gr, 1, none⟩ = some (.slice (some ⟨gb, 0, none⟩) L.length c) ∧ w'.cell? ⟨gb, p * 4 + 2, none⟩ = some (.int .u32 (x0.sl : Int)) ∧ w'.cell? ⟨gb, p * 4 + 3, none⟩ = some (.int .u32 x0.gn)) (ds := []) #[false, false, false, false, false, false, false, false, false, false, false, false, false] (by kernel_rfl) rfl rfl ⟨q0, q1, k2, k3⟩ (fun hHeld => ?_)
    refine pure_ (i := 0) (N := some 31) (v := ?_) (a' := ?_) #[true, false, false, false, false, false, false, false, false, false, false, false, false] rfl rfl (by kernel_rfl) (fun _ _ _ h => h) (Or.inl ⟨by rfl, ?_⟩) ?_ ?_
    rotate_left
    · intro w'
      go_simp
      with_reducible rfl
    rotate_left
    · simp only [Act.put, List.setIfInBounds_toArray, List.set_cons_zero, List.set_cons_succ, i64_w, i32_w]
      rfl
    refine pure_ (i := 1) (N := some 32) (v := ?_) (a' := ?_) #[true, true, false, false, false, false, false, false, false, false, false, false, false] rfl rfl (by kernel_rfl) (fun _ _ _ h => h) (Or.inl ⟨by rfl, ?_⟩) ?_ ?_
    rotate_left
    · intro w'
      go_simp
      with_reducible rfl
    rotate_left
    · simp only [Act.put, List.setIfInBounds_toArray, List.set_cons_zero, List.set_cons_succ, i64_w, i32_w]
      rfl
    refine pure_ (i := 2) (N := some 33) (v := ?_) (a' := ?_) #[true, true, true, false, false, false, false, false, false, false, false, false, false] rfl rfl (by kernel_rfl) (fun _ _ _ h => h) (Or.inl ⟨by rfl, ?_⟩) ?_ ?_
    rotate_left
    · intro w'
      go_simp
      with_reducible rfl
    rotate_left
    · simp only [Act.put, List.setIfInBounds_toArray, List.set_cons_zero, List.set_cons_succ, i64_w, i32_w]
      rfl
    refine pure_ (i := 4) (N := some 35) (v := ?_) (a' := ?_) #[true, true, true, false, true, false, false, false, false, false, false, false, false] rfl rfl (by kernel_rfl) (fun _ _ _ h => h) (Or.inl ⟨by rfl, ?_⟩) ?_ ?_
    rotate_left
    · intro w'
      go_simp
      with_reducible rfl
    rotate_left
    · simp only [Act.put, List.setIfInBounds_toArray, List.set_cons_zero, List.set_cons_succ, i64_w, i32_w]
      rfl
    refine pure_ (i := 5) (N := some 36) (v := ?_) (a' := ?_) #[true, true, true, false, true, true, false, false, false, false, false, false, false] rfl rfl (by kernel_rfl) (fun _ _ _ h => h) (Or.inl ⟨by rfl, ?_⟩) ?_ ?_
    rotate_left
    · intro w'
      go_simp
      with_reducible rfl
    rotate_left
    · simp only [Act.put, List.setIfInBounds_toArray, List.set_cons_zero, List.set_cons_succ, i64_w, i32_w]
      rfl
    refine pure_ (i := 6) (N := some 37) (v := ?_) (a' := ?_) #[true, true, true, false, true, true, true, false, false, false, false, false, false] rfl rfl (by kernel_rfl) (fun _ _ _ h => h) (Or.inl ⟨by rfl, ?_⟩) ?_ ?_
    rotate_left
    · intro w'
      go_simp
      with_reducible rfl
    rotate_left
    · simp only [Act.put, List.setIfInBounds_toArray, List.set_cons_zero, List.set_cons_succ, i64_w, i32_w]
      rfl
    refine pure_ (i := 8) (N := some 39) (v := ?_) (a' := ?_) #[true, true, true, false, true, true, true, false, true, false, false, false, false] rfl rfl (by kernel_rfl) (fun _ _ _ h => h) (Or.inl ⟨by rfl, ?_⟩) ?_ ?_
    rotate_left
    · intro w'
      go_simp
      with_reducible rfl
    rotate_left
    · simp only [Act.put, List.setIfInBounds_toArray, List.set_cons_zero, List.set_cons_succ, i64_w, i32_w]
      rfl
    refine take_ (i := 3) (N := some 34) (v := ?_) (a' := ?_) #[true, true, true, true, true, true, true, false, true, false, false, false, false] rfl rfl (by kernel_rfl) (fun _ _ _ h => h) (Or.inl ⟨by rfl, ?_⟩) hHeld ?_ ?_
    rotate_left
    · rintro w' ⟨s0, s1, s2, s3⟩
      go_simp
      with_reducible rfl
    rotate_left
    · simp only [Act.put, List.setIfInBounds_toArray, List.set_cons_zero, List.set_cons_succ, i64_w, i32_w]
      rfl
    refine take_ (i := 7) (N := some 38) (v := ?_) (a' := ?_) #[true, true, true, true, true, true, true, true, true, false, false, false, false] rfl rfl (by kernel_rfl) (fun _ _ _ h => h) (Or.inl ⟨by rfl, ?_⟩) hHeld ?_ ?_
    rotate_left
    · rintro w' ⟨s0, s1, s2, s3⟩
      go_simp
      with_reducible rfl
    rotate_left
    · simp only [Act.put, List.setIfInBounds_toArray, List.set_cons_zero, List.set_cons_succ, i64_w, i32_w]
      rfl
    refine pure_ (i := 9) (N := some 40) (v := ?_) (a' := ?_) #[true, true, true, true, true, true, true, true, true, true, false, false, false] rfl rfl (by kernel_rfl) (fun _ _ _ h => h) (Or.inl ⟨by rfl, ?_⟩) ?_ ?_
    rotate_left
    · intro w'
      go_simp
      with_reducible rfl
    rotate_left
    · simp only [Act.put, List.setIfInBounds_toArray, List.set_cons_zero, List.set_cons_succ, i64_w, i32_w]
      rfl
    refine pure_ (i := 10) (N := some 41) (v := ?_) (a' := ?_) #[true, true, true, true, true, true, true, true, true, true, true, false, false] rfl rfl (by kernel_rfl) (fun _ _ _ h => h) (Or.inl ⟨by rfl, ?_⟩) ?_ ?_
    rotate_left
    · intro w'
      go_simp
      with_reducible rfl
    rotate_left
    · simp only [Act.put, List.setIfInBounds_toArray, List.set_cons_zero, List.set_cons_succ, i64_w, i32_w]
      rfl
    refine take_ (i := 11) (N := some 42) (v := ?_) (a' := ?_) #[true, true, true, true, true, true, true, true, true, true, true, true, false] rfl rfl (by kernel_rfl) (fun _ _ _ h => h) (Or.inl ⟨by rfl, ?_⟩) hHeld ?_ ?_
    rotate_left
    · rintro w' ⟨s0, s1, s2, s3⟩
      go_simp
      with_reducible rfl
    rotate_left
    · simp only [Act.put, List.setIfInBounds_toArray, List.set_cons_zero, List.set_cons_succ, i64_w, i32_w]
      rfl
    refine one_ (i := 12) (N := some 43) #[true, true, true, true, true, true, true, true, true, true, true, true, true] rfl rfl (by kernel_rfl) (by decide) (fun Kc hKc => ?_)
    refine goes_ Try.func38 (by kernel_rfl) rfl #[.pointer (some ⟨ga, 0, none⟩), .agg #[.int .u32 (x0.sl : Int), .int .u32 x0.gn]] (by rfl) rfl rfl (by simp only [List.map_toArray, List.map_cons, List.map_nil]; rfl) ?_
    with_reducible refine (r_free (HA1.out.below (show Below W1.heap.size W1 _ by repeat (first | (with_reducible first | exact Below.refl _ _ | apply below_drew1 | apply below_alloc | apply pw_below_drewN) | exact Below.refl _ _))) HG.out x0.sl x0.gn hsl).mono ?_
    rintro e w6 ⟨rfl, hA, hF⟩
    refine ⟨_, rfl, ?_⟩
    have HA6 := Aside0.mk hA
    have HR6 := Aside0.mk ((HR1.out.below (show Below W1.heap.size W1 _ by repeat (first | (with_reducible first | exact Below.refl _ _ | apply below_drew1 | apply below_alloc | apply pw_below_drewN) | exact Below.refl _ _))).fr hF)
    have HF6 := Aside0.mk (HF1.out.trans ((FU.of_below (show Below W1.heap.size W1 _ by repeat (first | (with_reducible first | exact Below.refl _ _ | apply below_drew1 | apply below_alloc | apply pw_below_drewN) | exact Below.refl _ _))).trans ((FU.of_fr hF).mono hga)))
    clear hA hF
    refine hKc.out _ _ ⟨blk_cell HR6.out.blk 0, blk_cell HR6.out.blk 1, (HR6.out.row.at_ p hlt2 _ HX'.out).2.2.1, (HR6.out.row.at_ p hlt2 _ HX'.out).2.2.2.1⟩ (fun hHeld => ?_)
    clear hKc Kc
    refine norm_ (a' := ?_) ?_ ?_
    rotate_left
    · show Act.put _ (some 43) _ = _
      simp only [Act.put, List.setIfInBounds_toArray, List.set_cons_zero, List.set_cons_succ, i64_w, i32_w]
      rfl
    refine done_ (by kernel_rfl) ?_
    clear q0 q1 hlt k2 k3 kl HR1 HA1 HF1 hHeld
    have q1 := blk_cell HR6.out.blk 1
    have hlt := blk_lt HR6.out.blk
    simp only [List.getElem?_toArray, List.getElem?_cons_zero, List.getElem?_cons_succ] at q1
    go_upto_region 7 with fail
    have hcc : L.length ≤ c := by
      have := (Kd.R_reads' HR6.out.row).2.1
      omega
    have hcut1 := kcut_to (some ⟨gb, 0, none⟩) L.length c p (by omega) hcc
    have hcut2 := kcut_from (some ⟨gb, 0, none⟩) L.length c (p + 1) ((p : Int) + 1) (by omega) (by omega)
    have HC := Aside0.mk (Kd.R_reads' HR6.out.row).2.2
    rw [List.length_map, hlen] at HC
    have hw1 : IntKind.i64.wrap ((p : Int) + 1) = (p : Int) + 1 := by
      rw [i64_w]
      exact w_id (by omega) (by omega)
    have hlm : (L'.map kt4).length = L.length := by rw [List.length_map, hlen]
    have hc1 := kC_to HC.out p (by omega)
    rw [← List.map_take] at hc1
    have HC1 := Aside0.mk hc1
    have hc2 := kC_from HC.out p (by omega) hcc
    rw [← List.map_drop] at hc2
    have HC2 := Aside0.mk hc2
    clear hc1 hc2
    refine start_ (n := 19) (S := fun w' => w'.cell? ⟨gr, 1, none⟩ = some (.slice (some ⟨gb, 0, none⟩) L.length c)) (ds := [18]) #[false, false, false, false, false, false, false, false, false, false, false, false, false, false, false, false, false, false, false] (by kernel_rfl) rfl rfl (q1) (fun hHeld => ?_)
    refine pure_ (i := 0) (N := some 44) (v := ?_) (a' := ?_) #[true, false, false, false, false, false, false, false, false, false, false, false, false, false, false, false, false, false, false] rfl rfl (by kernel_rfl) (fun _ _ _ h => h) (Or.inl ⟨by rfl, ?_⟩) ?_ ?_
    rotate_left
    · intro w'
      go_simp
      with_reducible rfl
    rotate_left
    · simp only [Act.put, List.setIfInBounds_toArray, List.set_cons_zero, List.set_cons_succ, i64_w, i32_w]
      rfl
    refine pure_ (i := 1) (N := some 45) (v := ?_) (a' := ?_) #[true, true, false, false, false, false, false, false, false, false, false, false, false, false, false, false, false, false, false] rfl rfl (by kernel_rfl) (fun _ _ _ h => h) (Or.inl ⟨by rfl, ?_⟩) ?_ ?_
    rotate_left
    · intro w'
      go_simp
      with_reducible rfl
    rotate_left
    · simp only [Act.put, List.setIfInBounds_toArray, List.set_cons_zero, List.set_cons_succ, i64_w, i32_w]
      rfl
    refine pure_ (i := 2) (N := some 46) (v := ?_) (a' := ?_) #[true, true, true, false, false, false, false, false, false, false, false, false, false, false, false, false, false, false, false] rfl rfl (by kernel_rfl) (fun _ _ _ h => h) (Or.inl ⟨by rfl, ?_⟩) ?_ ?_
    rotate_left
    · intro w'
      go_simp
      with_reducible rfl
    rotate_left
    · simp only [Act.put, List.setIfInBounds_toArray, List.set_cons_zero, List.set_cons_succ, i64_w, i32_w]
      rfl
    refine pure_ (i := 3) (N := some 47) (v := ?_) (a' := ?_) #[true, true, true, true, false, false, false, false, false, false, false, false, false, false, false, false, false, false, false] rfl rfl (by kernel_rfl) (fun _ _ _ h => h) (Or.inl ⟨by rfl, ?_⟩) ?_ ?_
    rotate_left
    · intro w'
      go_simp
      with_reducible rfl
    rotate_left
    · simp only [Act.put, List.setIfInBounds_toArray, List.set_cons_zero, List.set_cons_succ, i64_w, i32_w]
      rfl
    refine pure_ (i := 5) (N := some 49) (v := ?_) (a' := ?_) #[true, true, true, true, false, true, false, false, false, false, false, false, false, false, false, false, false, false, false] rfl rfl (by kernel_rfl) (fun _ _ _ h => h) (Or.inl ⟨by rfl, ?_⟩) ?_ ?_
    rotate_left
    · intro w'
      go_simp
      with_reducible rfl
    rotate_left
    · simp only [Act.put, List.setIfInBounds_toArray, List.set_cons_zero, List.set_cons_succ, i64_w, i32_w]
      rfl
    refine pure_ (i := 8) (N := some 52) (v := ?_) (a' := ?_) #[true, true, true, true, false, true, false, false, true, false, false, false, false, false, false, false, false, false, false] rfl rfl (by kernel_rfl) (fun _ _ _ h => h) (Or.inl ⟨by rfl, ?_⟩) ?_ ?_
    rotate_left
    · intro w'
      go_simp
      with_reducible rfl
    rotate_left
    · simp only [Act.put, List.setIfInBounds_toArray, List.set_cons_zero, List.set_cons_succ, i64_w, i32_w]
      rfl
    refine pure_ (i := 9) (N := some 53) (v := ?_) (a' := ?_) #[true, true, true, true, false, true, false, false, true, true, false, false, false, false, false, false, false, false, false] rfl rfl (by kernel_rfl) (fun _ _ _ h => h) (Or.inl ⟨by rfl, ?_⟩) ?_ ?_
    rotate_left
    · intro w'
      go_simp
      with_reducible rfl
    rotate_left
    · simp only [Act.put, List.setIfInBounds_toArray, List.set_cons_zero, List.set_cons_succ, i64_w, i32_w]
      rfl
    refine pure_ (i := 10) (N := some 54) (v := ?_) (a' := ?_) #[true, true, true, true, false, true, false, false, true, true, true, false, false, false, false, false, false, false, false] rfl rfl (by kernel_rfl) (fun _ _ _ h => h) (Or.inl ⟨by rfl, ?_⟩) ?_ ?_
    rotate_left
    · intro w'
      go_simp
      with_reducible rfl
    rotate_left
    · simp only [Act.put, List.setIfInBounds_toArray, List.set_cons_zero, List.set_cons_succ, i64_w, i32_w]
      rfl
    refine pure_ (i := 12) (N := some 56) (v := ?_) (a' := ?_) #[true, true, true, true, false, true, false, false, true, true, true, false, true, false, false, false, false, false, false] rfl rfl (by kernel_rfl) (fun _ _ _ h => h) (Or.inl ⟨by rfl, ?_⟩) ?_ ?_
    rotate_left
    · intro w'
      go_simp
      with_reducible rfl
    rotate_left
    · simp only [Act.put, List.setIfInBounds_toArray, List.set_cons_zero, List.set_cons_succ, i64_w, i32_w]
      rfl
    refine pure_ (i := 13) (N := some 57) (v := ?_) (a' := ?_) #[true, true, true, true, false, true, false, false, true, true, true, false, true, true, false, false, false, false, false] rfl rfl (by kernel_rfl) (fun _ _ _ h => h) (Or.inl ⟨by rfl, ?_⟩) ?_ ?_
    rotate_left
    · intro w'
      go_simp
      with_reducible rfl
    rotate_left
    · simp only [Act.put, List.setIfInBounds_toArray, List.set_cons_zero, List.set_cons_succ, i64_w, i32_w]
      rfl
    refine take_ (i := 4) (N := some 48) (v := ?_) (a' := ?_) #[true, true, true, true, true, true, false, false, true, true, true, false, true, true, false, false, false, false, false] rfl rfl (by kernel_rfl) (fun _ _ _ h => h) (Or.inl ⟨by rfl, ?_⟩) hHeld ?_ ?_
    rotate_left
    · intro w' s0
      go_simp
      with_reducible rfl
    rotate_left
    · simp only [Act.put, List.setIfInBounds_toArray, List.set_cons_zero, List.set_cons_succ, i64_w, i32_w]
      rfl
    refine pure_ (i := 6) (N := some 50) (v := ?_) (a' := ?_) #[true, true, true, true, true, true, true, false, true, true, true, false, true, true, false, false, false, false, false] rfl rfl (by kernel_rfl) (fun _ _ _ h => h) (Or.inl ⟨by rfl, ?_⟩) ?_ ?_
    rotate_left
    · intro w'
      go_simp
      with_reducible rfl
    rotate_left
    · simp only [Act.put, List.setIfInBounds_toArray, List.set_cons_zero, List.set_cons_succ, i64_w, i32_w]
      rfl
    refine take_ (i := 11) (N := some 55) (v := ?_) (a' := ?_) #[true, true, true, true, true, true, true, false, true, true, true, true, true, true, false, false, false, false, false] rfl rfl (by kernel_rfl) (fun _ _ _ h => h) (Or.inl ⟨by rfl, ?_⟩) hHeld ?_ ?_
    rotate_left
    · intro w' s0
      go_simp
      with_reducible rfl
    rotate_left
    · simp only [Act.put, List.setIfInBounds_toArray, List.set_cons_zero, List.set_cons_succ, i64_w, i32_w]
      rfl
    refine pure_ (i := 14) (N := some 58) (v := ?_) (a' := ?_) #[true, true, true, true, true, true, true, false, true, true, true, true, true, true, true, false, false, false, false] rfl rfl (by kernel_rfl) (fun _ _ _ h => h) (Or.inl ⟨by rfl, ?_⟩) ?_ ?_
    rotate_left
    · intro w'
      go_simp
      with_reducible rfl
    rotate_left
    · simp only [Act.put, List.setIfInBounds_toArray, List.set_cons_zero, List.set_cons_succ, i64_w, i32_w]
      rfl
    refine one_ (i := 7) (N := some 51) #[true, true, true, true, true, true, true, true, true, true, true, true, true, true, true, false, false, false, false] rfl rfl (by kernel_rfl) (by decide) (fun Kc hKc => ?_)
    have hb6 : base ≤ w6.drew.heap.size := Nat.le_trans hgr (Nat.le_of_lt (blk_lt HR6.out.blk))
    refine Kd.R_append_rows_step kK (w0 := w6.drew) (W := w6.drew) base (by rfl) (.const (.slice none 0 0)) (.tmp 50) 70 89 (.agg #[.int .i64 0, .int .i64 0, .int .u32 0, .int .u32 0]) 24 (by rfl) Try.underlying70 infoK rfl (by decide) (by decide) (.slice none 0 0) [] ((L'.take p).map kt4) (some ⟨gb, 0, none⟩) p c (fun _ => True) (fun _ => False) (by rfl) (by rfl) (Kd.R_nil _ _ _ _ _) (Kd.C_below HC1.out (below_drew (Below.refl _ _))) (fun x cs h => K_M x cs h) (fun _ hk => hk.elim) (fun _ _ => trivial) (Below.refl _ _) hb6 (by simp only [List.length_map, List.length_nil, List.length_take]; omega) ?_
    intro v7 w7 r7 _ g7 _
    have hb7 : Below w6.heap.size w6 w7 := (below_drew (Below.refl _ _)).trans (below_none g7)
    have HR7 := Aside0.mk (HR6.out.below hb7)
    have HA7 := Aside0.mk (HA6.out.below hb7)
    have HF7 := Aside0.mk (HF6.out.trans (FU.of_below hb7))
    have HC7 := Aside0.mk (Kd.C_below HC2.out hb7)
    have HV := Aside0.mk (show kK.R 89 w7 base (fun _ => True) v7 ((L'.take p).map kt4) from r7)
    obtain ⟨A7, c7, e7⟩ := Kd.R_slice HV.out
    subst e7
    have u1 := blk_cell HR7.out.blk 1
    simp only [List.getElem?_toArray, List.getElem?_cons_zero, List.getElem?_cons_succ] at u1
    clear r7 g7 hb7 hb6
    refine hKc.out _ _ (u1) (fun hHeld => ?_)
    clear hKc Kc
    refine norm_ (a' := ?_) ?_ ?_
    rotate_left
    · show Act.put _ (some 51) _ = _
      simp only [Act.put, List.setIfInBounds_toArray, List.set_cons_zero, List.set_cons_succ, i64_w, i32_w]
      rfl
    refine one_ (i := 15) (N := some 59) #[true, true, true, true, true, true, true, true, true, true, true, true, true, true, true, true, false, false, false] rfl rfl (by kernel_rfl) (by decide) (fun Kc hKc => ?_)
    have hb6 : base ≤ w7.heap.size := Nat.le_trans hgr (Nat.le_of_lt (blk_lt HR7.out.blk))
    refine Kd.R_append_rows_step kK (w0 := w7) (W := w7) base (by rfl) (.tmp 51) (.tmp 58) 70 89 (.agg #[.int .i64 0, .int .i64 0, .int .u32 0, .int .u32 0]) 24 (by rfl) Try.underlying70 infoK rfl (by decide) (by decide) (.slice A7 ((L'.take p).map kt4).length c7) ((L'.take p).map kt4) ((L'.drop (p + 1)).map kt4) _ _ _ (fun _ => True) (fun _ => False) (by rfl) (by rfl) HV.out HC7.out (fun x cs h => K_M x cs h) (fun _ hk => hk.elim) (fun _ _ => trivial) (Below.refl _ _) hb6 (by simp only [List.length_map, List.length_nil, List.length_take]; omega) ?_
    intro v8 w8 r8 _ g8 _
    have HKR := Aside0.mk (show KRow w8 base v8 (L'.take p ++ L'.drop (p + 1)) from (by unfold KRow; rw [List.map_append]; exact r8))
    obtain ⟨A8, c8, e8⟩ := HKR.out.slice
    obtain ⟨n8, hn8⟩ : ∃ n8, (L'.take p ++ L'.drop (p + 1)).length = n8 := ⟨_, rfl⟩
    rw [hn8] at e8
    subst e8
    clear hn8
    have hvb := HV.out
    have HB8 := Aside0.mk (blk_grown HR7.out.blk g8 (Kd.R_ne hvb HR7.out.blk (by decide)))
    have HA8 := Aside0.mk (HA7.out.over (Kd.R_typed hvb) (by unfold RT; decide) g8)
    have HF8 := Aside0.mk (HF7.out.trans (FU.grown g8 (fun b hb => ⟨own_base (Kd.R_own hvb).choose_spec b hb, (Kd.R_typed hvb b hb).choose, _, (Kd.R_typed hvb b hb).choose_spec, .inr (.inr rfl)⟩)))
    have u1 := blk_cell HB8.out 1
    have uf := blk_frozen HB8.out 1
    simp only [List.getElem?_toArray, List.getElem?_cons_zero, List.getElem?_cons_succ] at u1
    clear r8 g8 hb6 hvb
    refine hKc.out _ _ (u1) (fun hHeld => ?_)
    clear hKc Kc
    refine norm_ (a' := ?_) ?_ ?_
    rotate_left
    · show Act.put _ (some 59) _ = _
      simp only [Act.put, List.setIfInBounds_toArray, List.set_cons_zero, List.set_cons_succ, i64_w, i32_w]
      rfl
    refine pure_ (i := 16) (N := some 60) (v := ?_) (a' := ?_) #[true, true, true, true, true, true, true, true, true, true, true, true, true, true, true, true, true, false, false] rfl rfl (by kernel_rfl) (fun _ _ _ h => h) (Or.inl ⟨by rfl, ?_⟩) ?_ ?_
    rotate_left
    · intro w'
      go_simp
      with_reducible rfl
    rotate_left
    · simp only [Act.put, List.setIfInBounds_toArray, List.set_cons_zero, List.set_cons_succ, i64_w, i32_w]
      rfl
    refine pure_ (i := 17) (N := some 61) (v := ?_) (a' := ?_) #[true, true, true, true, true, true, true, true, true, true, true, true, true, true, true, true, true, true, false] rfl rfl (by kernel_rfl) (fun _ _ _ h => h) (Or.inl ⟨by rfl, ?_⟩) ?_ ?_
    rotate_left
    · intro w'
      go_simp
      with_reducible rfl
    rotate_left
    · simp only [Act.put, List.setIfInBounds_toArray, List.set_cons_zero, List.set_cons_succ, i64_w, i32_w]
      rfl
    refine last_ (i := 18) (N := none) #[true, true, true, true, true, true, true, true, true, true, true, true, true, true, true, true, true, true, true] rfl rfl (by kernel_rfl) (by decide) (fun Kc hKc => ?_)
    refine skip_ (w1 := ?_) (by rfl) rfl ?_ ?_
    rotate_left
    · go_simp
      rfl
    refine hKc.out _ _ ?_
    clear hKc Kc
    refine done_ (by kernel_rfl) ?_
    clear q1 u1 uf hHeld
    have hKR := HKR.out
    have hdr : L'.take p ++ L'.drop (p + 1) = dropK L k := by rw [HL'.out, set_take_drop, ← dropK_at HX.out HNO.out (HYES.out x0 HX.out) HN.out]
    rw [hdr] at hKR
    have HKD := Aside0.mk hKR
    clear hKR
    clear HKR
    go_wp2
    all_goals go_ret
    all_goals (exact ⟨rfl, ⟨_, blk_put HB8.out 1 _ rfl, HKD.out.set HB8.out (by decide) 1 _⟩, HA8.out.other HB8.out (by unfold RT; decide) 1 _, HF8.out.trans (FU.set HB8.out (.inr (.inl rfl)) hgr 1 _)⟩)
  · have hr0 : r = -1 := by rw [HRR.out, if_neg hlt2]
    subst hr0
    have hfx : findK L k = none := by rw [HF.out]; exact List.getElem?_eq_none (by omega)
    rw [hf0] at hfx
    cases hfx
end Go.Proofs.Ytibcbeibehaeeaa.Hand
