/- Stores: the reference puts, with room. -/
import Derived.Test.YtibcbeibehaeeaaJN
set_option linter.unusedVariables false
set_option linter.unusedSimpArgs false
namespace Go.Proofs.Ytibcbeibehaeeaa.Hand
open Go.RowKit Go.Proofs.Ytibcbeibehaeeaa.PStorePlays Go.Proofs.YtibcbeibehaeeaaW.PrintWords Go.Proofs.YtibcbeibehaeeaaW.PrintLast Go.Proofs.YtibcbeibehaeeaaW.PrintMore
set_option maxHeartbeats 1000000 in
set_option maxRecDepth 100000 in
theorem f_put_ok {W : World} {gr ga base : Nat} {v : Value} {L : List Kt} (h : RS W gr ga base v L) (k : Int) (hL : L.length ≤ 1000000) (ek et : Int) (el : List Int) (A0 : Option Addr) (c0 : Nat) (hr : Kd.C (Kd.int .i64) W A0 el.length el) (hc0 : el.length ≤ c0) (s : ByteArray) (hp0 : putE ek et el = (s, true)) (hf0 : findK L k = none) {cap lim : Int} {bs : List S114} (ha : RX W ga cap lim bs) (hg : Good bs) (sl : Nat) (gn : Int) (he : allocE lim bs s.size = ((sl : Int), gn, 0)) (hgr : base ≤ gr) (hga : base ≤ ga) : Calls Try.prog 13 #[.pointer (some ⟨gr, 0, none⟩), .int .i64 k, .agg #[.int .i64 ek, .int .i64 et, .slice A0 el.length c0]] W fun e w' => e = .returned (.int .i64 0) ∧ (∃ v', RS w' gr ga base v' (L ++ [⟨k, 0, sl, gn, 1⟩])) ∧ RX w' ga cap lim (allocB lim bs s) ∧ FU base W w' := by
  obtain ⟨p, hp, hno, hyes, hf⟩ := pos_of L k
  have q0 := blk_cell h.blk 0
  have q1 := blk_cell h.blk 1
  have hlt := blk_lt h.blk
  simp only [List.getElem?_toArray, List.getElem?_cons_zero, List.getElem?_cons_succ] at q0 q1
  obtain ⟨A, c, rfl⟩ := h.row.slice
  have H := Aside0.mk h
  have HNO := Aside0.mk hno
  have HYES := Aside0.mk hyes
  have HF := Aside0.mk hf
  obtain ⟨r, hrr⟩ : ∃ r : Int, r = if p < L.length then (p : Int) else -1 := ⟨_, rfl⟩
  have HRR := Aside0.mk hrr
  clear h hno hyes hf hrr
  have HB := Aside0.mk (Below.refl W.heap.size W)
  have HR := Aside0.mk hr
  have HP := Aside0.mk hp0
  clear hr hp0
  have HA := Aside0.mk ha
  have HG := Aside0.mk hg
  have HE := Aside0.mk he
  clear ha hg he
  by_cases hlt2 : p < L.length
  · obtain ⟨x, hx⟩ : ∃ x, L[p]? = some x := ⟨L[p], List.getElem?_eq_getElem hlt2⟩
    have hr0 : r = (p : Int) := by rw [HRR.out, if_pos hlt2]
    subst hr0
    obtain ⟨gb, cb, e⟩ := H.out.row.addr (by omega)
    injection e with e1 e2 e3
    subst e1
    subst e3
    obtain ⟨k0, k1, k2, k3, kl⟩ := H.out.row.at_ p hlt2 x hx
    have hfx : findK L k = some x := by rw [HF.out, hx]
    rw [hf0] at hfx
    cases hfx
  · have hr0 : r = -1 := by rw [HRR.out, if_neg hlt2]
    subst hr0
    have hfx : findK L k = none := by rw [HF.out]; exact List.getElem?_eq_none (by omega)
    go_enter Try.func13, Try.ntmps13
    go_upto_region 9 with (first | (go_at_call 34; (with_reducible refine (rput05_c ek et A0 c0 el s true _ (Kd.C_below HR.out (by repeat (first | (with_reducible first | exact HB.out | apply below_alloc | apply pw_below_drewN | apply below_drew1) | exact HB.out))) hc0 HP.out).mono ?_); rintro e w1 ⟨rfl, hb⟩; have n0_ := Aside0.mk (below_step (by repeat (first | (with_reducible first | exact HB.out | apply below_alloc | apply pw_below_drewN | apply below_drew1) | exact HB.out)) hb); clear HB; have HB := n0_; clear n0_; clear q0 q1 hlt; have H1 := Aside0.mk (H.out.below HB.out); have q0 := blk_cell H1.out.blk 0; have q1 := blk_cell H1.out.blk 1; have hlt := blk_lt H1.out.blk; simp only [List.getElem?_toArray, List.getElem?_cons_zero, List.getElem?_cons_succ] at q0 q1; clear hb) | (go_at_call 35; (with_reducible refine (f_find (H.out.below (by repeat (first | (with_reducible first | exact HB.out | apply below_alloc | apply pw_below_drewN | apply below_drew1) | exact HB.out))) k hL p hp HNO.out HYES.out _ HRR.out).mono ?_); rintro e w9 ⟨rfl, rfl⟩) | (go_at_call 36; (with_reducible refine (r_alloc (HA.out.below (by repeat (first | (with_reducible first | exact HB.out | apply below_alloc | apply pw_below_drewN | apply below_drew1) | exact HB.out))) HG.out s).mono ?_); rintro e w2 ⟨rfl, hA, hF⟩; rw [HE.out]; have HA2 := Aside0.mk hA; have Fr0 := Aside0.mk ((FR.of_below (Below.refl _ _)).trans hF); have F2 := Aside0.mk ((FR.of_below HB.out).trans hF); clear hA hF))
    have hBn : Below w2.heap.size w2 (w2.alloc (.cells #[.int .u32 sl, .int .u32 gn] 85)) := below_alloc (Below.refl _ _) _
    have HS1 := Aside0.mk (((H.out.below HB.out).fr Fr0.out).below hBn)
    have HA1 := Aside0.mk (HA2.out.below hBn)
    have HX1 := Aside0.mk (blk_new' (w := w2) (o := .cells #[.int .u32 sl, .int .u32 gn] 85) rfl)
    have HF1 := Aside0.mk ((FU.of_fr F2.out).mono hga |>.trans (FU.of_below hBn))
    have hsz1 : W.heap.size ≤ (w2.alloc (.cells #[.int .u32 sl, .int .u32 gn] 85)).heap.size := Nat.le_trans F2.out.size hBn.size
    clear q0 q1 hBn
    generalize w2.heap.size = B1 at *
    generalize w2.alloc (.cells #[.int .u32 sl, .int .u32 gn] 85) = W1 at *
    have q1 := blk_cell HS1.out.blk 1
    have p0 := blk_cell HX1.out 0
    have p1 := blk_cell HX1.out 1
    simp at q1 p0 p1
    refine start_ (n := 13) (S := fun w' => w'.cell? ⟨gr, 1, none⟩ = some (.slice A L.length c) ∧ w'.cell? ⟨B1, 0, none⟩ = some (.int .u32 (sl : Int)) ∧ w'.cell? ⟨B1, 1, none⟩ = some (.int .u32 gn)) (ds := [12]) #[false, false, false, false, false, false, false, false, false, false, false, false, false] (by kernel_rfl) rfl rfl ⟨q1, p0, p1⟩ (fun hHeld => ?_)
    refine pure_ (i := 0) (N := some 34) (v := ?_) (a' := ?_) #[true, false, false, false, false, false, false, false, false, false, false, false, false] rfl rfl (by kernel_rfl) (fun _ _ _ h => h) (Or.inl ⟨by rfl, ?_⟩) ?_ ?_
    rotate_left
    · intro w'
      go_simp
      with_reducible rfl
    rotate_left
    · simp only [Act.put, List.setIfInBounds_toArray, List.set_cons_zero, List.set_cons_succ, i64_w, i32_w]
      rfl
    refine pure_ (i := 1) (N := some 35) (v := ?_) (a' := ?_) #[true, true, false, false, false, false, false, false, false, false, false, false, false] rfl rfl (by kernel_rfl) (fun _ _ _ h => h) (Or.inl ⟨by rfl, ?_⟩) ?_ ?_
    rotate_left
    · intro w'
      go_simp
      with_reducible rfl
    rotate_left
    · simp only [Act.put, List.setIfInBounds_toArray, List.set_cons_zero, List.set_cons_succ, i64_w, i32_w]
      rfl
    refine pure_ (i := 2) (N := some 36) (v := ?_) (a' := ?_) #[true, true, true, false, false, false, false, false, false, false, false, false, false] rfl rfl (by kernel_rfl) (fun _ _ _ h => h) (Or.inl ⟨by rfl, ?_⟩) ?_ ?_
    rotate_left
    · intro w'
      go_simp
      with_reducible rfl
    rotate_left
    · simp only [Act.put, List.setIfInBounds_toArray, List.set_cons_zero, List.set_cons_succ, i64_w, i32_w]
      rfl
    refine pure_ (i := 3) (N := some 37) (v := ?_) (a' := ?_) #[true, true, true, true, false, false, false, false, false, false, false, false, false] rfl rfl (by kernel_rfl) (fun _ _ _ h => h) (Or.inl ⟨by rfl, ?_⟩) ?_ ?_
    rotate_left
    · intro w'
      go_simp
      with_reducible rfl
    rotate_left
    · simp only [Act.put, List.setIfInBounds_toArray, List.set_cons_zero, List.set_cons_succ, i64_w, i32_w]
      rfl
    refine pure_ (i := 5) (N := some 39) (v := ?_) (a' := ?_) #[true, true, true, true, false, true, false, false, false, false, false, false, false] rfl rfl (by kernel_rfl) (fun _ _ _ h => h) (Or.inl ⟨by rfl, ?_⟩) ?_ ?_
    rotate_left
    · intro w'
      go_simp
      with_reducible rfl
    rotate_left
    · simp only [Act.put, List.setIfInBounds_toArray, List.set_cons_zero, List.set_cons_succ, i64_w, i32_w]
      rfl
    refine take_ (i := 4) (N := some 38) (v := ?_) (a' := ?_) #[true, true, true, true, true, true, false, false, false, false, false, false, false] rfl rfl (by kernel_rfl) (fun _ _ _ h => h) (Or.inl ⟨by rfl, ?_⟩) hHeld ?_ ?_
    rotate_left
    · rintro w' ⟨s0, s1, s2⟩
      go_simp
      with_reducible rfl
    rotate_left
    · simp only [Act.put, List.setIfInBounds_toArray, List.set_cons_zero, List.set_cons_succ, i64_w, i32_w]
      rfl
    refine take_ (i := 6) (N := some 40) (v := ?_) (a' := ?_) #[true, true, true, true, true, true, true, false, false, false, false, false, false] rfl rfl (by kernel_rfl) (fun _ _ _ h => h) (Or.inl ⟨by rfl, ?_⟩) hHeld ?_ ?_
    rotate_left
    · rintro w' ⟨s0, s1, s2⟩
      go_simp
      with_reducible rfl
    rotate_left
    · simp only [Act.put, List.setIfInBounds_toArray, List.set_cons_zero, List.set_cons_succ, i64_w, i32_w]
      rfl
    refine pure_ (i := 7) (N := some 41) (v := ?_) (a' := ?_) #[true, true, true, true, true, true, true, true, false, false, false, false, false] rfl rfl (by kernel_rfl) (fun _ _ _ h => h) (Or.inl ⟨by rfl, ?_⟩) ?_ ?_
    rotate_left
    · intro w'
      go_simp
      with_reducible rfl
    rotate_left
    · simp only [Act.put, List.setIfInBounds_toArray, List.set_cons_zero, List.set_cons_succ, i64_w, i32_w]
      rfl
    refine one_ (i := 8) (N := some 42) #[true, true, true, true, true, true, true, true, true, false, false, false, false] rfl rfl (by kernel_rfl) (by decide) (fun Kc hKc => ?_)
    refine value_ (w1 := ?_) (v := ?_) (by rfl) rfl ?_ ?_
    rotate_left 2
    · go_simp
      constructor
      · rfl
      · rfl
    have u0 := pw_cell_below (show Below W1.heap.size W1 ((W1.alloc (.cells #[.int .i64 k, .int .i64 1, .int .u32 (sl : Int), .int .u32 gn] 89)).drew) by repeat (first | (with_reducible first | exact Below.refl _ _ | apply below_drew1 | apply below_alloc | apply pw_below_drewN) | exact Below.refl _ _)) q1
    have u1 := pw_cell_below (show Below W1.heap.size W1 ((W1.alloc (.cells #[.int .i64 k, .int .i64 1, .int .u32 (sl : Int), .int .u32 gn] 89)).drew) by repeat (first | (with_reducible first | exact Below.refl _ _ | apply below_drew1 | apply below_alloc | apply pw_below_drewN) | exact Below.refl _ _)) p0
    have u2 := pw_cell_below (show Below W1.heap.size W1 ((W1.alloc (.cells #[.int .i64 k, .int .i64 1, .int .u32 (sl : Int), .int .u32 gn] 89)).drew) by repeat (first | (with_reducible first | exact Below.refl _ _ | apply below_drew1 | apply below_alloc | apply pw_below_drewN) | exact Below.refl _ _)) p1
    refine hKc.out _ _ ⟨u0, u1, u2⟩ (fun hHeld => ?_)
    clear hKc Kc
    refine norm_ (a' := ?_) ?_ ?_
    rotate_left
    · show Act.put _ (some 42) _ = _
      simp only [Act.put, List.setIfInBounds_toArray, List.set_cons_zero, List.set_cons_succ, i64_w, i32_w]
      rfl
    refine one_ (i := 9) (N := some 43) #[true, true, true, true, true, true, true, true, true, true, false, false, false] rfl rfl (by kernel_rfl) (by decide) (fun Kc hKc => ?_)
    refine Kd.R_append_step kK (w0 := W1.drew) (W := W1.drew) base (by rfl) (.tmp 38) (.tmp 42) 70 89 (.agg #[.int .i64 0, .int .i64 0, .int .u32 0, .int .u32 0]) 24 (by rfl) Try.underlying70 infoK rfl (by decide) (by decide) (.slice A L.length c) (L.map kt4) (k, 1, (sl : Int), gn) [.int .i64 k, .int .i64 1, .int .u32 (sl : Int), .int .u32 gn] (fun _ => True) (fun _ => False) (by rfl) (by rfl) ⟨[.int .i64 k], [.int .i64 1, .int .u32 (sl : Int), .int .u32 gn], rfl, rfl, [.int .i64 1], [.int .u32 (sl : Int), .int .u32 gn], rfl, rfl, [.int .u32 (sl : Int)], [.int .u32 gn], rfl, rfl, rfl⟩ (fun _ hk => hk.elim) (fun _ _ => trivial) (HS1.out.below (show Below W1.heap.size W1 W1.drew from below_drew (Below.refl _ _))).row (Below.refl _ _) (Nat.le_trans hgr (Nat.le_of_lt (blk_lt (HS1.out.below (show Below W1.heap.size W1 W1.drew from below_drew (Below.refl _ _))).blk))) (by rw [List.length_map]; omega) ?_
    intro v4 w4 r4 _ g4 _
    have HKR := Aside0.mk (show KRow w4 base v4 (L ++ [⟨k, 0, sl, gn, 1⟩]) from (by unfold KRow; rw [List.map_append]; exact r4))
    obtain ⟨A4, c4, e4⟩ := HKR.out.slice
    subst e4
    have HSD := Aside0.mk (HS1.out.below (show Below W1.heap.size W1 W1.drew from below_drew (Below.refl _ _)))
    have HXD := Aside0.mk (blk_below HX1.out (show Below W1.heap.size W1 W1.drew from below_drew (Below.refl _ _)))
    have HS4 := Aside0.mk (blk_grown HSD.out.blk g4 (Kd.R_ne HSD.out.row HSD.out.blk (by decide)))
    have HX4 := Aside0.mk (blk_grown HXD.out g4 (Kd.R_ne HSD.out.row HXD.out (by decide)))
    have HA4 := Aside0.mk ((HA1.out.below (show Below W1.heap.size W1 W1.drew from below_drew (Below.refl _ _))).over HSD.out.row.typed (by unfold RT; decide) g4)
    have HF4 := Aside0.mk (((HF1.out.trans (FU.of_below (show Below W1.heap.size W1 W1.drew from below_drew (Below.refl _ _))))).trans (FU.grown g4 (fun b hb => ⟨own_base (Kd.R_own HSD.out.row).choose_spec b hb, (HSD.out.row.typed b hb).choose, _, (HSD.out.row.typed b hb).choose_spec, .inr (.inr rfl)⟩)))
    have u0 := blk_cell HS4.out 1
    have u1 := blk_cell HX4.out 0
    have u2 := blk_cell HX4.out 1
    have uf := blk_frozen HS4.out 1
    simp only [List.getElem?_toArray, List.getElem?_cons_zero, List.getElem?_cons_succ] at u0 u1 u2
    clear r4 g4
    refine hKc.out _ _ ⟨u0, u1, u2⟩ (fun hHeld => ?_)
    clear hKc Kc
    refine norm_ (a' := ?_) ?_ ?_
    rotate_left
    · show Act.put _ (some 43) _ = _
      simp only [Act.put, List.setIfInBounds_toArray, List.set_cons_zero, List.set_cons_succ, i64_w, i32_w]
      rfl
    refine pure_ (i := 10) (N := some 44) (v := ?_) (a' := ?_) #[true, true, true, true, true, true, true, true, true, true, true, false, false] rfl rfl (by kernel_rfl) (fun _ _ _ h => h) (Or.inl ⟨by rfl, ?_⟩) ?_ ?_
    rotate_left
    · intro w'
      go_simp
      with_reducible rfl
    rotate_left
    · simp only [Act.put, List.setIfInBounds_toArray, List.set_cons_zero, List.set_cons_succ, i64_w, i32_w]
      rfl
    refine pure_ (i := 11) (N := some 45) (v := ?_) (a' := ?_) #[true, true, true, true, true, true, true, true, true, true, true, true, false] rfl rfl (by kernel_rfl) (fun _ _ _ h => h) (Or.inl ⟨by rfl, ?_⟩) ?_ ?_
    rotate_left
    · intro w'
      go_simp
      with_reducible rfl
    rotate_left
    · simp only [Act.put, List.setIfInBounds_toArray, List.set_cons_zero, List.set_cons_succ, i64_w, i32_w]
      rfl
    refine last_ (i := 12) (N := none) #[true, true, true, true, true, true, true, true, true, true, true, true, true] rfl rfl (by kernel_rfl) (by decide) (fun Kc hKc => ?_)
    refine skip_ (w1 := ?_) (by rfl) rfl ?_ ?_
    rotate_left
    · go_simp
      rfl
    refine hKc.out _ _ ?_
    clear hKc Kc
    refine done_ (by kernel_rfl) ?_
    clear q1 p0 p1 u0 u1 u2 uf hHeld
    go_wp2
    go_ret
    have hKR := HKR.out
    simp only [List.length_append, List.length_singleton, List.length_cons, List.length_nil, Nat.zero_add] at hKR
    exact ⟨rfl, ⟨_, blk_put HS4.out 1 _ rfl, hKR.set HS4.out (by decide) 1 _⟩, HA4.out.other HS4.out (by unfold RT; decide) 1 _, HF4.out.trans (FU.set HS4.out (.inr (.inl rfl)) hgr 1 _)⟩
end Go.Proofs.Ytibcbeibehaeeaa.Hand
