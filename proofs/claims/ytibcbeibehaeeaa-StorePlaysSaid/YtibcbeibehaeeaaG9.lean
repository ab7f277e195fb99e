/- Joined: JA, JB, JC, JD, JE, JF. -/
import Derived.Test.YtibcbeibehaeeaaG8
/- Stores: the reference gets. -/
set_option linter.unusedVariables false
set_option linter.unusedSimpArgs false
namespace Go.Proofs.Ytibcbeibehaeeaa.Hand
open Go.RowKit Go.Proofs.Ytibcbeibehaeeaa.PStorePlays Go.Proofs.YtibcbeibehaeeaaW.PrintWords Go.Proofs.YtibcbeibehaeeaaW.PrintLast Go.Proofs.YtibcbeibehaeeaaW.PrintMore
set_option maxHeartbeats 1000000 in
set_option maxRecDepth 100000 in
theorem f_get_no {W : World} {gr ga base : Nat} {v : Value} {L : List Kt} (h : RS W gr ga base v L) (k : Int) (hL : L.length ≤ 1000000) (hf0 : findK L k = none) : Calls Try.prog 19 #[.pointer (some ⟨gr, 0, none⟩), .int .i64 k] W fun e w' => e = .returned (.tuple #[.agg #[.int .i64 0, .int .i64 0, .slice none 0 0], .bool false]) ∧ Below W.heap.size W w' := by
  obtain ⟨p, hp, hno, hyes, hf⟩ := pos_of L k
  have q0 := blk_cell h.blk 0
  have q1 := blk_cell h.blk 1
  have hlt := blk_lt h.blk
  simp only [List.getElem?_toArray, List.getElem?_cons_zero, List.getElem?_cons_succ] at q0 q1
  obtain ⟨A, c, rfl⟩ := h.row.slice
  have H := Aside0.mk h
  have HNO := Aside0.mk hno
  have HYES := Aside0.mk hyes
  have HF := Aside0.mk hf
  obtain ⟨r, hrr⟩ : ∃ r : Int, r = if p < L.length then (p : Int) else -1 := ⟨_, rfl⟩
  have HRR := Aside0.mk hrr
  clear h hno hyes hf hrr
  have HB := Aside0.mk (Below.refl W.heap.size W)
  by_cases hlt2 : p < L.length
  · obtain ⟨x, hx⟩ : ∃ x, L[p]? = some x := ⟨L[p], List.getElem?_eq_getElem hlt2⟩
    have hr0 : r = (p : Int) := by rw [HRR.out, if_pos hlt2]
    subst hr0
    obtain ⟨gb, cb, e⟩ := H.out.row.addr (by omega)
    injection e with e1 e2 e3
    subst e1
    subst e3
    obtain ⟨k0, k1, k2, k3, kl⟩ := H.out.row.at_ p hlt2 x hx
    have hfx : findK L k = some x := by rw [HF.out, hx]
    rw [hf0] at hfx
    cases hfx
  · have hr0 : r = -1 := by rw [HRR.out, if_neg hlt2]
    subst hr0
    have hfx : findK L k = none := by rw [HF.out]; exact List.getElem?_eq_none (by omega)
    go_enter Try.func19, Try.ntmps19
    go_wp2_with (first | (go_at_call 35; (with_reducible refine (f_find (H.out.below (by repeat (first | (with_reducible first | exact HB.out | apply below_alloc | apply pw_below_drewN | apply below_drew1) | exact HB.out))) k hL p hp HNO.out HYES.out _ HRR.out).mono ?_); rintro e w1 ⟨rfl, rfl⟩))
    all_goals exact bodyPost_ret (v := .tuple #[.agg #[.int .i64 0, .int .i64 0, .slice none 0 0], .bool false]) (by simp [results, Try.results19, go_sem]) rfl ⟨rfl, (show Below W.heap.size W _ by repeat (first | (with_reducible first | exact HB.out | apply below_alloc | apply pw_below_drewN | apply below_drew1) | (refine below_set ?_ (Nat.le_refl W.heap.size)) | exact HB.out))⟩
end Go.Proofs.Ytibcbeibehaeeaa.Hand

/- Stores: the reference gets. -/
set_option linter.unusedVariables false
set_option linter.unusedSimpArgs false
namespace Go.Proofs.Ytibcbeibehaeeaa.Hand
open Go.RowKit Go.Proofs.Ytibcbeibehaeeaa.PStorePlays Go.Proofs.YtibcbeibehaeeaaW.PrintWords Go.Proofs.YtibcbeibehaeeaaW.PrintLast Go.Proofs.YtibcbeibehaeeaaW.PrintMore
set_option maxHeartbeats 1000000 in
set_option maxRecDepth 100000 in
theorem f_get_no_ {W : World} {gr ga base : Nat} {v : Value} {L : List Kt} (h : RS W gr ga base v L) (k : Int) (hL : L.length ≤ 1000000) (hf0 : findK L k = none) : Calls Try.prog 19 #[.pointer (some ⟨gr, 0, none⟩), .int .i64 k] W fun e w' => e = .returned (.tuple #[.agg #[.int .i64 0, .int .i64 0, .slice none 0 0], .bool false]) ∧ Below W.heap.size W w' := by
  obtain ⟨p, hp, hno, hyes, hf⟩ := pos_of L k
  have q0 := blk_cell h.blk 0
  have q1 := blk_cell h.blk 1
  have hlt := blk_lt h.blk
  simp only [List.getElem?_toArray, List.getElem?_cons_zero, List.getElem?_cons_succ] at q0 q1
  obtain ⟨A, c, rfl⟩ := h.row.slice
  have H := Aside0.mk h
  have HNO := Aside0.mk hno
  have HYES := Aside0.mk hyes
  have HF := Aside0.mk hf
  obtain ⟨r, hrr⟩ : ∃ r : Int, r = if p < L.length then (p : Int) else -1 := ⟨_, rfl⟩
  have HRR := Aside0.mk hrr
  clear h hno hyes hf hrr
  have HB := Aside0.mk (Below.refl W.heap.size W)
  by_cases hlt2 : p < L.length
  · obtain ⟨x, hx⟩ : ∃ x, L[p]? = some x := ⟨L[p], List.getElem?_eq_getElem hlt2⟩
    have hr0 : r = (p : Int) := by rw [HRR.out, if_pos hlt2]
    subst hr0
    obtain ⟨gb, cb, e⟩ := H.out.row.addr (by omega)
    injection e with e1 e2 e3
    subst e1
    subst e3
    obtain ⟨k0, k1, k2, k3, kl⟩ := H.out.row.at_ p hlt2 x hx
    have hfx : findK L k = some x := by rw [HF.out, hx]
    rw [hf0] at hfx
    cases hfx
  · have hr0 : r = -1 := by rw [HRR.out, if_neg hlt2]
    subst hr0
    have hfx : findK L k = none := by rw [HF.out]; exact List.getElem?_eq_none (by omega)
    go_enter Try.func19, Try.ntmps19
    go_wp2_with (first | (go_at_call 35; (with_reducible refine (f_find (H.out.below (by repeat (first | (with_reducible first | exact HB.out | apply below_alloc | apply pw_below_drewN | apply below_drew1) | exact HB.out))) k hL p hp HNO.out HYES.out _ HRR.out).mono ?_); rintro e w1 ⟨rfl, rfl⟩))
    all_goals exact bodyPost_ret (v := .tuple #[.agg #[.int .i64 0, .int .i64 0, .slice none 0 0], .bool false]) (by simp [results, Try.results19, go_sem]) rfl ⟨rfl, (show Below W.heap.size W _ by repeat (first | (with_reducible first | exact HB.out | apply below_alloc | apply pw_below_drewN | apply below_drew1) | (refine below_set ?_ (Nat.le_refl W.heap.size)) | exact HB.out))⟩
set_option maxHeartbeats 2000000 in
set_option maxRecDepth 100000 in
theorem f_get_yes {W : World} {gr ga base : Nat} {v : Value} {L : List Kt} (h : RS W gr ga base v L) (k : Int) (hL : L.length ≤ 1000000) {cap lim : Int} {bs : List S114} (ha : RX W ga cap lim bs) (hg : Good bs) (x0 : Kt) (hf0 : findK L k = some x0) (hsl : x0.sl ≤ 4294967295) (s : ByteArray) (hs : getE bs x0.sl x0.gn = s) (hsz : s.size ≤ 1000000000000000) (ek et ex : Int) (el : List Int) (he : wgetE s = (ek, et, el, ex)) : Calls Try.prog 19 #[.pointer (some ⟨gr, 0, none⟩), .int .i64 k] W fun e w' => ∃ v : Value, e = .returned (.tuple #[.agg #[.int .i64 ek, .int .i64 et, v], .bool (ex == 0)]) ∧ Kd.R (Kd.int .i64) 2 w' W.heap.size (fun _ => True) v el ∧ Below W.heap.size W w' := by
  obtain ⟨p, hp, hno, hyes, hf⟩ := pos_of L k
  have q0 := blk_cell h.blk 0
  have q1 := blk_cell h.blk 1
  have hlt := blk_lt h.blk
  simp only [List.getElem?_toArray, List.getElem?_cons_zero, List.getElem?_cons_succ] at q0 q1
  obtain ⟨A, c, rfl⟩ := h.row.slice
  have H := Aside0.mk h
  have HNO := Aside0.mk hno
  have HYES := Aside0.mk hyes
  have HF := Aside0.mk hf
  obtain ⟨r, hrr⟩ : ∃ r : Int, r = if p < L.length then (p : Int) else -1 := ⟨_, rfl⟩
  have HRR := Aside0.mk hrr
  clear h hno hyes hf hrr
  have HB := Aside0.mk (Below.refl W.heap.size W)
  by_cases hlt2 : p < L.length
  · obtain ⟨x, hx⟩ : ∃ x, L[p]? = some x := ⟨L[p], List.getElem?_eq_getElem hlt2⟩
    have hr0 : r = (p : Int) := by rw [HRR.out, if_pos hlt2]
    subst hr0
    obtain ⟨gb, cb, e⟩ := H.out.row.addr (by omega)
    injection e with e1 e2 e3
    subst e1
    subst e3
    obtain ⟨k0, k1, k2, k3, kl⟩ := H.out.row.at_ p hlt2 x hx
    have hfx : findK L k = some x := by rw [HF.out, hx]
    rw [hf0] at hfx
    obtain rfl := Option.some.inj hfx
    have HA := Aside0.mk ha
    have HG := Aside0.mk hg
    have HS := Aside0.mk hs
    have HE := Aside0.mk he
    clear ha hg hs he hfx hf0
    go_enter Try.func19, Try.ntmps19
    go_upto_region 4 with (first | (go_at_call 35; (with_reducible refine (f_find (H.out.below (by repeat (first | (with_reducible first | exact HB.out | apply below_alloc | apply pw_below_drewN | apply below_drew1) | exact HB.out))) k hL p hp HNO.out HYES.out _ HRR.out).mono ?_); rintro e w1 ⟨rfl, rfl⟩))
    refine start_ (n := 18) (S := fun w' => w'.cell? ⟨gr, 0, none⟩ = some (.pointer (some ⟨ga, 0, none⟩)) ∧ w'.cell? ⟨gr, 1, none⟩ = some (.slice (some ⟨gb, 0, none⟩) L.length c) ∧ w'.cell? ⟨gb, p * 4 + 2, none⟩ = some (.int .u32 (x0.sl : Int)) ∧ w'.cell? ⟨gb, p * 4 + 3, none⟩ = some (.int .u32 x0.gn)) (ds := []) #[false, false, false, false, false, false, false, false, false, false, false, false, false, false, false, false, false, false] (by kernel_rfl) rfl rfl ⟨(pw_cell_below (by repeat (first | (with_reducible first | exact HB.out | apply below_alloc | apply pw_below_drewN | apply below_drew1) | exact HB.out)) q0), (pw_cell_below (by repeat (first | (with_reducible first | exact HB.out | apply below_alloc | apply pw_below_drewN | apply below_drew1) | exact HB.out)) q1), (pw_cell_below (by repeat (first | (with_reducible first | exact HB.out | apply below_alloc | apply pw_below_drewN | apply below_drew1) | exact HB.out)) k2), (pw_cell_below (by repeat (first | (with_reducible first | exact HB.out | apply below_alloc | apply pw_below_drewN | apply below_drew1) | exact HB.out)) k3)⟩ (fun hHeld => ?_)
    refine pure_ (i := 0) (N := some 18) (v := ?_) (a' := ?_) #[true, false, false, false, false, false, false, false, false, false, false, false, false, false, false, false, false, false] rfl rfl (by kernel_rfl) (fun _ _ _ h => h) (Or.inl ⟨by rfl, ?_⟩) ?_ ?_
    rotate_left
    · intro w'
      go_simp
      with_reducible rfl
    rotate_left
    · simp only [Act.put, List.setIfInBounds_toArray, List.set_cons_zero, List.set_cons_succ, i64_w, i32_w]
      rfl
    refine pure_ (i := 1) (N := some 19) (v := ?_) (a' := ?_) #[true, true, false, false, false, false, false, false, false, false, false, false, false, false, false, false, false, false] rfl rfl (by kernel_rfl) (fun _ _ _ h => h) (Or.inl ⟨by rfl, ?_⟩) ?_ ?_
    rotate_left
    · intro w'
      go_simp
      with_reducible rfl
    rotate_left
    · simp only [Act.put, List.setIfInBounds_toArray, List.set_cons_zero, List.set_cons_succ, i64_w, i32_w]
      rfl
    refine pure_ (i := 2) (N := some 20) (v := ?_) (a' := ?_) #[true, true, true, false, false, false, false, false, false, false, false, false, false, false, false, false, false, false] rfl rfl (by kernel_rfl) (fun _ _ _ h => h) (Or.inl ⟨by rfl, ?_⟩) ?_ ?_
    rotate_left
    · intro w'
      go_simp
      with_reducible rfl
    rotate_left
    · simp only [Act.put, List.setIfInBounds_toArray, List.set_cons_zero, List.set_cons_succ, i64_w, i32_w]
      rfl
    refine pure_ (i := 4) (N := some 22) (v := ?_) (a' := ?_) #[true, true, true, false, true, false, false, false, false, false, false, false, false, false, false, false, false, false] rfl rfl (by kernel_rfl) (fun _ _ _ h => h) (Or.inl ⟨by rfl, ?_⟩) ?_ ?_
    rotate_left
    · intro w'
      go_simp
      with_reducible rfl
    rotate_left
    · simp only [Act.put, List.setIfInBounds_toArray, List.set_cons_zero, List.set_cons_succ, i64_w, i32_w]
      rfl
    refine pure_ (i := 5) (N := some 23) (v := ?_) (a' := ?_) #[true, true, true, false, true, true, false, false, false, false, false, false, false, false, false, false, false, false] rfl rfl (by kernel_rfl) (fun _ _ _ h => h) (Or.inl ⟨by rfl, ?_⟩) ?_ ?_
    rotate_left
    · intro w'
      go_simp
      with_reducible rfl
    rotate_left
    · simp only [Act.put, List.setIfInBounds_toArray, List.set_cons_zero, List.set_cons_succ, i64_w, i32_w]
      rfl
    refine pure_ (i := 6) (N := some 24) (v := ?_) (a' := ?_) #[true, true, true, false, true, true, true, false, false, false, false, false, false, false, false, false, false, false] rfl rfl (by kernel_rfl) (fun _ _ _ h => h) (Or.inl ⟨by rfl, ?_⟩) ?_ ?_
    rotate_left
    · intro w'
      go_simp
      with_reducible rfl
    rotate_left
    · simp only [Act.put, List.setIfInBounds_toArray, List.set_cons_zero, List.set_cons_succ, i64_w, i32_w]
      rfl
    refine pure_ (i := 8) (N := some 26) (v := ?_) (a' := ?_) #[true, true, true, false, true, true, true, false, true, false, false, false, false, false, false, false, false, false] rfl rfl (by kernel_rfl) (fun _ _ _ h => h) (Or.inl ⟨by rfl, ?_⟩) ?_ ?_
    rotate_left
    · intro w'
      go_simp
      with_reducible rfl
    rotate_left
    · simp only [Act.put, List.setIfInBounds_toArray, List.set_cons_zero, List.set_cons_succ, i64_w, i32_w]
      rfl
    refine take_ (i := 3) (N := some 21) (v := ?_) (a' := ?_) #[true, true, true, true, true, true, true, false, true, false, false, false, false, false, false, false, false, false] rfl rfl (by kernel_rfl) (fun _ _ _ h => h) (Or.inl ⟨by rfl, ?_⟩) hHeld ?_ ?_
    rotate_left
    · rintro w' ⟨s0, s1, s2, s3⟩
      go_simp
      with_reducible rfl
    rotate_left
    · simp only [Act.put, List.setIfInBounds_toArray, List.set_cons_zero, List.set_cons_succ, i64_w, i32_w]
      rfl
    refine take_ (i := 7) (N := some 25) (v := ?_) (a' := ?_) #[true, true, true, true, true, true, true, true, true, false, false, false, false, false, false, false, false, false] rfl rfl (by kernel_rfl) (fun _ _ _ h => h) (Or.inl ⟨by rfl, ?_⟩) hHeld ?_ ?_
    rotate_left
    · rintro w' ⟨s0, s1, s2, s3⟩
      go_simp
      with_reducible rfl
    rotate_left
    · simp only [Act.put, List.setIfInBounds_toArray, List.set_cons_zero, List.set_cons_succ, i64_w, i32_w]
      rfl
    refine pure_ (i := 9) (N := some 27) (v := ?_) (a' := ?_) #[true, true, true, true, true, true, true, true, true, true, false, false, false, false, false, false, false, false] rfl rfl (by kernel_rfl) (fun _ _ _ h => h) (Or.inl ⟨by rfl, ?_⟩) ?_ ?_
    rotate_left
    · intro w'
      go_simp
      with_reducible rfl
    rotate_left
    · simp only [Act.put, List.setIfInBounds_toArray, List.set_cons_zero, List.set_cons_succ, i64_w, i32_w]
      rfl
    refine pure_ (i := 10) (N := some 28) (v := ?_) (a' := ?_) #[true, true, true, true, true, true, true, true, true, true, true, false, false, false, false, false, false, false] rfl rfl (by kernel_rfl) (fun _ _ _ h => h) (Or.inl ⟨by rfl, ?_⟩) ?_ ?_
    rotate_left
    · intro w'
      go_simp
      with_reducible rfl
    rotate_left
    · simp only [Act.put, List.setIfInBounds_toArray, List.set_cons_zero, List.set_cons_succ, i64_w, i32_w]
      rfl
    refine take_ (i := 11) (N := some 29) (v := ?_) (a' := ?_) #[true, true, true, true, true, true, true, true, true, true, true, true, false, false, false, false, false, false] rfl rfl (by kernel_rfl) (fun _ _ _ h => h) (Or.inl ⟨by rfl, ?_⟩) hHeld ?_ ?_
    rotate_left
    · rintro w' ⟨s0, s1, s2, s3⟩
      go_simp
      with_reducible rfl
    rotate_left
    · simp only [Act.put, List.setIfInBounds_toArray, List.set_cons_zero, List.set_cons_succ, i64_w, i32_w]
      rfl
    refine one_ (i := 12) (N := some 30) #[true, true, true, true, true, true, true, true, true, true, true, true, true, false, false, false, false, false] rfl rfl (by kernel_rfl) (by decide) (fun Kc hKc => ?_)
    refine goes_ Try.func41 (by kernel_rfl) rfl #[.pointer (some ⟨ga, 0, none⟩), .agg #[.int .u32 (x0.sl : Int), .int .u32 x0.gn]] (by rfl) rfl rfl (by simp only [List.map_toArray, List.map_cons, List.map_nil]; rfl) ?_
    with_reducible refine (r_get (HA.out.below (by repeat (first | (with_reducible first | exact HB.out | apply below_alloc | apply pw_below_drewN | apply below_drew1) | exact HB.out))) HG.out x0.sl x0.gn hsl).mono ?_
    rintro e w1 ⟨rfl, hb⟩
    rw [HS.out]
    refine ⟨_, rfl, ?_⟩
    have B4 := Aside0.mk (blk_below (o := .cells #[.int .i64 0, .int .i64 0, .slice none 0 0] 42 (0, 0)) (g := W.heap.size) (by repeat (first | (with_reducible refine blk_drewN ?_ _) | (with_reducible refine blk_drew ?_) | exact blk_new' (by first | rfl | simp) | (with_reducible refine blk_alloc ?_ _))) hb)
    have n0_ := Aside0.mk (below_step (by repeat (first | (with_reducible first | exact HB.out | apply below_alloc | apply pw_below_drewN | apply below_drew1) | exact HB.out)) hb)
    clear HB
    have HB := n0_
    clear n0_
    refine hKc.out _ _ ⟨pw_cell_below hb hHeld.1, pw_cell_below hb hHeld.2.1, pw_cell_below hb hHeld.2.2.1, pw_cell_below hb hHeld.2.2.2⟩ (fun hHeld => ?_)
    clear hKc Kc
    refine norm_ (a' := ?_) ?_ ?_
    rotate_left
    · show Act.put _ (some 30) _ = _
      simp only [Act.put, List.setIfInBounds_toArray, List.set_cons_zero, List.set_cons_succ, i64_w, i32_w]
      rfl
    refine pure_ (i := 13) (N := some 17) (v := ?_) (a' := ?_) #[true, true, true, true, true, true, true, true, true, true, true, true, true, true, false, false, false, false] rfl rfl (by kernel_rfl) (fun _ _ _ h => h) (Or.inl ⟨by rfl, ?_⟩) ?_ ?_
    rotate_left
    · intro w'
      go_simp
      with_reducible rfl
    rotate_left
    · simp only [Act.put, List.setIfInBounds_toArray, List.set_cons_zero, List.set_cons_succ, i64_w, i32_w]
      rfl
    refine pure_ (i := 14) (N := some 31) (v := ?_) (a' := ?_) #[true, true, true, true, true, true, true, true, true, true, true, true, true, true, true, false, false, false] rfl rfl (by kernel_rfl) (fun _ _ _ h => h) (Or.inl ⟨by rfl, ?_⟩) ?_ ?_
    rotate_left
    · intro w'
      go_simp
      with_reducible rfl
    rotate_left
    · simp only [Act.put, List.setIfInBounds_toArray, List.set_cons_zero, List.set_cons_succ, i64_w, i32_w]
      rfl
    refine pure_ (i := 15) (N := some 32) (v := ?_) (a' := ?_) #[true, true, true, true, true, true, true, true, true, true, true, true, true, true, true, true, false, false] rfl rfl (by kernel_rfl) (fun _ _ _ h => h) (Or.inl ⟨by rfl, ?_⟩) ?_ ?_
    rotate_left
    · intro w'
      go_simp
      with_reducible rfl
    rotate_left
    · simp only [Act.put, List.setIfInBounds_toArray, List.set_cons_zero, List.set_cons_succ, i64_w, i32_w]
      rfl
    refine pure_ (i := 16) (N := some 7) (v := ?_) (a' := ?_) #[true, true, true, true, true, true, true, true, true, true, true, true, true, true, true, true, true, false] rfl rfl (by kernel_rfl) (fun _ _ _ h => h) (Or.inl ⟨by rfl, ?_⟩) ?_ ?_
    rotate_left
    · intro w'
      go_simp
      with_reducible rfl
    rotate_left
    · simp only [Act.put, List.setIfInBounds_toArray, List.set_cons_zero, List.set_cons_succ, i64_w, i32_w]
      rfl
    refine pure_ (i := 17) (N := some 8) (v := ?_) (a' := ?_) #[true, true, true, true, true, true, true, true, true, true, true, true, true, true, true, true, true, true] rfl rfl (by kernel_rfl) (fun _ _ _ h => h) (Or.inl ⟨by rfl, ?_⟩) ?_ ?_
    rotate_left
    · intro w'
      go_simp
      with_reducible rfl
    rotate_left
    · simp only [Act.put, List.setIfInBounds_toArray, List.set_cons_zero, List.set_cons_succ, i64_w, i32_w]
      rfl
    refine done_ (by kernel_rfl) ?_
    go_wp2_with (first | (go_at_call 42; (with_reducible refine (rget05_c s _ hsz ek et ex el HE.out).mono ?_); rintro e w2 ⟨v, rfl, hR, hb⟩; obtain ⟨A2, c2, e2⟩ := Kd.R_slice hR; subst e2; have R2 := Aside0.mk (Kd.R_lower hR (below_size HB.out)); have b4_ := Aside0.mk (blk_below B4.out (by repeat (first | (with_reducible first | exact Below.refl _ _ | apply below_alloc | apply pw_below_drewN | apply below_drew1) | exact Below.refl _ _))); have B5 := Aside0.mk (blk_below b4_.out hb); have n0_ := Aside0.mk (below_step (by repeat (first | (with_reducible first | exact HB.out | apply below_alloc | apply pw_below_drewN | apply below_drew1) | exact HB.out)) hb); clear HB B4 b4_; have HB := n0_; clear n0_; have y0 := blk_cell B5.out 0; have y1 := blk_cell B5.out 1; have y2 := blk_cell B5.out 2; have yf0 := blk_frozen B5.out 0; have yf1 := blk_frozen B5.out 1; have yf2 := blk_frozen B5.out 2; have yl := blk_lt B5.out; simp only [List.getElem?_toArray, List.getElem?_cons_zero, List.getElem?_cons_succ] at y0 y1 y2; clear hR hb))
    have b7 := blk_set B5.out 0 (.int .i64 ek)
    have b8 := blk_set b7 1 (.int .i64 et)
    have b9 := blk_set b8 2 (.slice A2 el.length c2)
    have bA := blk_alloc b9 (.cells #[.int .i64 ek, .int .i64 et, .slice A2 el.length c2] 42)
    have yr0 := blk_cell bA 0
    have yr1 := blk_cell bA 1
    have yr2 := blk_cell bA 2
    simp at yr0 yr1 yr2
    have R4 := Kd.R_set R2.out B5.out (by intro q hq e; subst e; exact absurd hq (by simp [Kd.int, Kd.scalar])) 0 (.int .i64 ek)
    have R5 := Kd.R_set R4 b7 (by intro q hq e; subst e; exact absurd hq (by simp [Kd.int, Kd.scalar])) 1 (.int .i64 et)
    have R6 := Kd.R_set R5 b8 (by intro q hq e; subst e; exact absurd hq (by simp [Kd.int, Kd.scalar])) 2 (.slice A2 el.length c2)
    have R7 := Kd.R_below R6 (below_alloc (Below.refl _ _) (.cells #[.int .i64 ek, .int .i64 et, .slice A2 el.length c2] 42))
    exact bodyPost_ret (v := .tuple #[.agg #[.int .i64 ek, .int .i64 et, .slice A2 el.length c2], .bool (ex == 0)]) (by simp [results, Try.results19, go_sem, yr0, yr1, yr2]) rfl ⟨_, rfl, R7, (show Below W.heap.size W _ by repeat (first | (with_reducible first | exact HB.out | apply below_alloc | apply pw_below_drewN | apply below_drew1) | (refine below_set ?_ (Nat.le_refl W.heap.size)) | exact HB.out))⟩
  · have hr0 : r = -1 := by rw [HRR.out, if_neg hlt2]
    subst hr0
    have hfx : findK L k = none := by rw [HF.out]; exact List.getElem?_eq_none (by omega)
    rw [hf0] at hfx
    cases hfx
end Go.Proofs.Ytibcbeibehaeeaa.Hand

/- Stores: the reference's store, new. -/
set_option linter.unusedVariables false
set_option linter.unusedSimpArgs false
namespace Go.Proofs.Ytibcbeibehaeeaa.Hand
open Go.RowKit Go.Proofs.Ytibcbeibehaeeaa.PStorePlays Go.Proofs.YtibcbeibehaeeaaW.PrintWords Go.Proofs.YtibcbeibehaeeaaW.PrintLast Go.Proofs.YtibcbeibehaeeaaW.PrintMore
theorem f_new {W : World} (ga base : Nat) (hga : ga < W.heap.size) : Calls Try.prog 11 #[.pointer (some ⟨ga, 0, none⟩)] W fun e w' => ∃ gr v, e = .returned (.pointer (some ⟨gr, 0, none⟩)) ∧ RS w' gr ga base v [] ∧ W.heap.size ≤ gr ∧ Below W.heap.size W w' := by
  have HB := Aside0.mk (Below.refl W.heap.size W)
  go_enter Try.func11, Try.ntmps11
  go_wp2
  go_ret
  exact ⟨W.heap.size, .slice none 0 0, rfl, ⟨blk_new' rfl, KRow.none_ _ _⟩, Nat.le_refl _, (by repeat (first | (with_reducible first | exact HB.out | apply below_alloc | apply pw_below_drewN | apply below_drew1) | exact HB.out))⟩
end Go.Proofs.Ytibcbeibehaeeaa.Hand

/- Stores: the reference puts. -/
set_option linter.unusedVariables false
set_option linter.unusedSimpArgs false
namespace Go.Proofs.Ytibcbeibehaeeaa.Hand
open Go.RowKit Go.Proofs.Ytibcbeibehaeeaa.PStorePlays Go.Proofs.YtibcbeibehaeeaaW.PrintWords Go.Proofs.YtibcbeibehaeeaaW.PrintLast Go.Proofs.YtibcbeibehaeeaaW.PrintMore
set_option maxHeartbeats 1000000 in
set_option maxRecDepth 100000 in
theorem f_put_form {W : World} {gr ga base : Nat} {v : Value} {L : List Kt} (h : RS W gr ga base v L) (k : Int) (hL : L.length ≤ 1000000) (ek et : Int) (el : List Int) (A0 : Option Addr) (c0 : Nat) (hr : Kd.C (Kd.int .i64) W A0 el.length el) (hc0 : el.length ≤ c0) (s : ByteArray) (hp0 : putE ek et el = (s, false)) : Calls Try.prog 13 #[.pointer (some ⟨gr, 0, none⟩), .int .i64 k, .agg #[.int .i64 ek, .int .i64 et, .slice A0 el.length c0]] W fun e w' => e = .returned (.int .i64 7) ∧ Below W.heap.size W w' := by
  obtain ⟨p, hp, hno, hyes, hf⟩ := pos_of L k
  have q0 := blk_cell h.blk 0
  have q1 := blk_cell h.blk 1
  have hlt := blk_lt h.blk
  simp only [List.getElem?_toArray, List.getElem?_cons_zero, List.getElem?_cons_succ] at q0 q1
  obtain ⟨A, c, rfl⟩ := h.row.slice
  have H := Aside0.mk h
  have HNO := Aside0.mk hno
  have HYES := Aside0.mk hyes
  have HF := Aside0.mk hf
  obtain ⟨r, hrr⟩ : ∃ r : Int, r = if p < L.length then (p : Int) else -1 := ⟨_, rfl⟩
  have HRR := Aside0.mk hrr
  clear h hno hyes hf hrr
  have HB := Aside0.mk (Below.refl W.heap.size W)
  have HR := Aside0.mk hr
  have HP := Aside0.mk hp0
  clear hr hp0
  go_enter Try.func13, Try.ntmps13
  go_wp2_with (first | (go_at_call 34; (with_reducible refine (rput05_c ek et A0 c0 el s false _ (Kd.C_below HR.out (by repeat (first | (with_reducible first | exact HB.out | apply below_alloc | apply pw_below_drewN | apply below_drew1) | exact HB.out))) hc0 HP.out).mono ?_); rintro e w1 ⟨rfl, hb⟩; have n0_ := Aside0.mk (below_step (by repeat (first | (with_reducible first | exact HB.out | apply below_alloc | apply pw_below_drewN | apply below_drew1) | exact HB.out)) hb); clear HB; have HB := n0_; clear n0_; clear q0 q1 hlt; have H1 := Aside0.mk (H.out.below HB.out); have q0 := blk_cell H1.out.blk 0; have q1 := blk_cell H1.out.blk 1; have hlt := blk_lt H1.out.blk; simp only [List.getElem?_toArray, List.getElem?_cons_zero, List.getElem?_cons_succ] at q0 q1; clear hb))
  all_goals go_ret
  all_goals exact ⟨rfl, (by repeat (first | (with_reducible first | exact HB.out | apply below_alloc | apply pw_below_drewN | apply below_drew1) | exact HB.out))⟩
set_option maxHeartbeats 1000000 in
set_option maxRecDepth 100000 in
theorem f_put_arg {W : World} {gr ga base : Nat} {v : Value} {L : List Kt} (h : RS W gr ga base v L) (k : Int) (hL : L.length ≤ 1000000) (ek et : Int) (el : List Int) (A0 : Option Addr) (c0 : Nat) (hr : Kd.C (Kd.int .i64) W A0 el.length el) (hc0 : el.length ≤ c0) (s : ByteArray) (hp0 : putE ek et el = (s, true)) (x0 : Kt) (hf0 : findK L k = some x0) : Calls Try.prog 13 #[.pointer (some ⟨gr, 0, none⟩), .int .i64 k, .agg #[.int .i64 ek, .int .i64 et, .slice A0 el.length c0]] W fun e w' => e = .returned (.int .i64 1) ∧ Below W.heap.size W w' := by
  obtain ⟨p, hp, hno, hyes, hf⟩ := pos_of L k
  have q0 := blk_cell h.blk 0
  have q1 := blk_cell h.blk 1
  have hlt := blk_lt h.blk
  simp only [List.getElem?_toArray, List.getElem?_cons_zero, List.getElem?_cons_succ] at q0 q1
  obtain ⟨A, c, rfl⟩ := h.row.slice
  have H := Aside0.mk h
  have HNO := Aside0.mk hno
  have HYES := Aside0.mk hyes
  have HF := Aside0.mk hf
  obtain ⟨r, hrr⟩ : ∃ r : Int, r = if p < L.length then (p : Int) else -1 := ⟨_, rfl⟩
  have HRR := Aside0.mk hrr
  clear h hno hyes hf hrr
  have HB := Aside0.mk (Below.refl W.heap.size W)
  have HR := Aside0.mk hr
  have HP := Aside0.mk hp0
  clear hr hp0
  by_cases hlt2 : p < L.length
  · obtain ⟨x, hx⟩ : ∃ x, L[p]? = some x := ⟨L[p], List.getElem?_eq_getElem hlt2⟩
    have hr0 : r = (p : Int) := by rw [HRR.out, if_pos hlt2]
    subst hr0
    obtain ⟨gb, cb, e⟩ := H.out.row.addr (by omega)
    injection e with e1 e2 e3
    subst e1
    subst e3
    obtain ⟨k0, k1, k2, k3, kl⟩ := H.out.row.at_ p hlt2 x hx
    have hfx : findK L k = some x := by rw [HF.out, hx]
    go_enter Try.func13, Try.ntmps13
    go_wp2_with (first | (go_at_call 34; (with_reducible refine (rput05_c ek et A0 c0 el s true _ (Kd.C_below HR.out (by repeat (first | (with_reducible first | exact HB.out | apply below_alloc | apply pw_below_drewN | apply below_drew1) | exact HB.out))) hc0 HP.out).mono ?_); rintro e w1 ⟨rfl, hb⟩; have n0_ := Aside0.mk (below_step (by repeat (first | (with_reducible first | exact HB.out | apply below_alloc | apply pw_below_drewN | apply below_drew1) | exact HB.out)) hb); clear HB; have HB := n0_; clear n0_; clear q0 q1 hlt; have H1 := Aside0.mk (H.out.below HB.out); have q0 := blk_cell H1.out.blk 0; have q1 := blk_cell H1.out.blk 1; have hlt := blk_lt H1.out.blk; simp only [List.getElem?_toArray, List.getElem?_cons_zero, List.getElem?_cons_succ] at q0 q1; clear hb) | (go_at_call 35; (with_reducible refine (f_find (H.out.below (by repeat (first | (with_reducible first | exact HB.out | apply below_alloc | apply pw_below_drewN | apply below_drew1) | exact HB.out))) k hL p hp HNO.out HYES.out _ HRR.out).mono ?_); rintro e w9 ⟨rfl, rfl⟩))
    all_goals go_ret
    all_goals exact ⟨rfl, (by repeat (first | (with_reducible first | exact HB.out | apply below_alloc | apply pw_below_drewN | apply below_drew1) | exact HB.out))⟩
  · have hr0 : r = -1 := by rw [HRR.out, if_neg hlt2]
    subst hr0
    have hfx : findK L k = none := by rw [HF.out]; exact List.getElem?_eq_none (by omega)
    rw [hf0] at hfx
    cases hfx
end Go.Proofs.Ytibcbeibehaeeaa.Hand

/- Stores: the reference puts, no room. -/
set_option linter.unusedVariables false
set_option linter.unusedSimpArgs false
namespace Go.Proofs.Ytibcbeibehaeeaa.Hand
open Go.RowKit Go.Proofs.Ytibcbeibehaeeaa.PStorePlays Go.Proofs.YtibcbeibehaeeaaW.PrintWords Go.Proofs.YtibcbeibehaeeaaW.PrintLast Go.Proofs.YtibcbeibehaeeaaW.PrintMore
theorem RS.fr {W W1 : World} {g gr ga base : Nat} {v : Value} {L : List Kt} (h : RS W gr ga base v L) (hF : FR g W W1) : RS W1 gr ga base v L := ⟨hF.blk h.blk (by unfold RT; decide), hF.row h.row (by
  intro q hq
  have : q = 89 := by simpa [kK, Kd.pair, Kd.int, Kd.scalar] using hq
  subst this
  unfold RT; decide)⟩
set_option maxHeartbeats 1000000 in
set_option maxRecDepth 100000 in
theorem f_put_err {W : World} {gr ga base : Nat} {v : Value} {L : List Kt} (h : RS W gr ga base v L) (k : Int) (hL : L.length ≤ 1000000) (ek et : Int) (el : List Int) (A0 : Option Addr) (c0 : Nat) (hr : Kd.C (Kd.int .i64) W A0 el.length el) (hc0 : el.length ≤ c0) (s : ByteArray) (hp0 : putE ek et el = (s, true)) (hf0 : findK L k = none) {cap lim : Int} {bs : List S114} (ha : RX W ga cap lim bs) (hg : Good bs) (sl gn er : Int) (he : allocE lim bs s.size = (sl, gn, er)) (her : (er == 0) = false) : Calls Try.prog 13 #[.pointer (some ⟨gr, 0, none⟩), .int .i64 k, .agg #[.int .i64 ek, .int .i64 et, .slice A0 el.length c0]] W fun e w' => e = .returned (.int .i64 er) ∧ RS w' gr ga base v L ∧ RX w' ga cap lim (allocB lim bs s) ∧ FR ga W w' := by
  obtain ⟨p, hp, hno, hyes, hf⟩ := pos_of L k
  have q0 := blk_cell h.blk 0
  have q1 := blk_cell h.blk 1
  have hlt := blk_lt h.blk
  simp only [List.getElem?_toArray, List.getElem?_cons_zero, List.getElem?_cons_succ] at q0 q1
  obtain ⟨A, c, rfl⟩ := h.row.slice
  have H := Aside0.mk h
  have HNO := Aside0.mk hno
  have HYES := Aside0.mk hyes
  have HF := Aside0.mk hf
  obtain ⟨r, hrr⟩ : ∃ r : Int, r = if p < L.length then (p : Int) else -1 := ⟨_, rfl⟩
  have HRR := Aside0.mk hrr
  clear h hno hyes hf hrr
  have HB := Aside0.mk (Below.refl W.heap.size W)
  have HR := Aside0.mk hr
  have HP := Aside0.mk hp0
  clear hr hp0
  have HA := Aside0.mk ha
  have HG := Aside0.mk hg
  have HE := Aside0.mk he
  clear ha hg he
  by_cases hlt2 : p < L.length
  · obtain ⟨x, hx⟩ : ∃ x, L[p]? = some x := ⟨L[p], List.getElem?_eq_getElem hlt2⟩
    have hr0 : r = (p : Int) := by rw [HRR.out, if_pos hlt2]
    subst hr0
    obtain ⟨gb, cb, e⟩ := H.out.row.addr (by omega)
    injection e with e1 e2 e3
    subst e1
    subst e3
    obtain ⟨k0, k1, k2, k3, kl⟩ := H.out.row.at_ p hlt2 x hx
    have hfx : findK L k = some x := by rw [HF.out, hx]
    rw [hf0] at hfx
    cases hfx
  · have hr0 : r = -1 := by rw [HRR.out, if_neg hlt2]
    subst hr0
    have hfx : findK L k = none := by rw [HF.out]; exact List.getElem?_eq_none (by omega)
    go_enter Try.func13, Try.ntmps13
    go_wp2_with (first | (go_at_call 34; (with_reducible refine (rput05_c ek et A0 c0 el s true _ (Kd.C_below HR.out (by repeat (first | (with_reducible first | exact HB.out | apply below_alloc | apply pw_below_drewN | apply below_drew1) | exact HB.out))) hc0 HP.out).mono ?_); rintro e w1 ⟨rfl, hb⟩; have n0_ := Aside0.mk (below_step (by repeat (first | (with_reducible first | exact HB.out | apply below_alloc | apply pw_below_drewN | apply below_drew1) | exact HB.out)) hb); clear HB; have HB := n0_; clear n0_; clear q0 q1 hlt; have H1 := Aside0.mk (H.out.below HB.out); have q0 := blk_cell H1.out.blk 0; have q1 := blk_cell H1.out.blk 1; have hlt := blk_lt H1.out.blk; simp only [List.getElem?_toArray, List.getElem?_cons_zero, List.getElem?_cons_succ] at q0 q1; clear hb) | (go_at_call 35; (with_reducible refine (f_find (H.out.below (by repeat (first | (with_reducible first | exact HB.out | apply below_alloc | apply pw_below_drewN | apply below_drew1) | exact HB.out))) k hL p hp HNO.out HYES.out _ HRR.out).mono ?_); rintro e w9 ⟨rfl, rfl⟩) | (go_at_call 36; (with_reducible refine (r_alloc (HA.out.below (by repeat (first | (with_reducible first | exact HB.out | apply below_alloc | apply pw_below_drewN | apply below_drew1) | exact HB.out))) HG.out s).mono ?_); rintro e w2 ⟨rfl, hA, hF⟩; rw [HE.out]; have HA2 := Aside0.mk hA; have Fr0 := Aside0.mk ((FR.of_below (Below.refl _ _)).trans hF); have F2 := Aside0.mk ((FR.of_below HB.out).trans hF); clear hA hF))
    all_goals go_ret
    all_goals exact ⟨rfl, ((H.out.below HB.out).fr (Fr0.out)).below (show Below w2.heap.size w2 _ by repeat (first | (with_reducible first | exact Below.refl _ _ | apply below_alloc | apply pw_below_drewN | apply below_drew1) | exact Below.refl _ _)), HA2.out.below (show Below w2.heap.size w2 _ by repeat (first | (with_reducible first | exact Below.refl _ _ | apply below_alloc | apply pw_below_drewN | apply below_drew1) | exact Below.refl _ _)), F2.out.trans (FR.of_below (show Below w2.heap.size w2 _ by repeat (first | (with_reducible first | exact Below.refl _ _ | apply below_alloc | apply pw_below_drewN | apply below_drew1) | exact Below.refl _ _)))⟩
end Go.Proofs.Ytibcbeibehaeeaa.Hand

/- Stores: a row of what is kept, one more. -/
set_option linter.unusedVariables false
set_option linter.unusedSimpArgs false
namespace Go.Proofs.Ytibcbeibehaeeaa.Hand
open Go.RowKit Go.Proofs.Ytibcbeibehaeeaa.PStorePlays Go.Proofs.YtibcbeibehaeeaaW.PrintWords Go.Proofs.YtibcbeibehaeeaaW.PrintLast Go.Proofs.YtibcbeibehaeeaaW.PrintMore
theorem infoK : (Try.prog.info? 89).map (fun i => (i.zero, i.size, i.bytes)) = some (some (.agg #[.int .i64 0, .int .i64 0, .int .u32 0, .int .u32 0]), 4, 24) := by kernel_rfl
theorem k_append {ops : Array Oper} {o : Oper} {rest : List Oper} {a : Act} {Q : Exit → Act → World → Prop} {w0 W : World} {z : Nat} (base : Nat) (hgd : o.guard = none) (s x : Operand)
    (ho : o.op = .call { callee := .builtin .append, args := #[s, x], argTypes := #[70, 70] }) (v : Value) (L : List Kt) (y : Kt) (hs : a.eval s = v) (hx : a.eval x = .slice (some ⟨z, 0, none⟩) 1 1) (hz : W.heap.size = z)
    (HO : KRow W base v L) (HB : Below base w0 W) (hbase : base ≤ W.heap.size) (hl : (L.length + 1) * 24 ≤ 140737488355328)
    (h : ∀ v1 w1, KRow w1 base v1 (L ++ [y]) → Below base w0 w1 → W.grownBy w1 v.ownBlock → wpList Try.prog ops Q rest (a.put o.dst v1) w1) :
    wpList Try.prog ops Q (o :: rest) a (W.alloc (.cells #[.int .i64 y.key, .int .i64 y.many, .int .u32 (y.sl : Int), .int .u32 y.gn] 89)) := by
  subst hz
  exact Kd.R_append kK base hgd s x 70 89 (.agg #[.int .i64 0, .int .i64 0, .int .u32 0, .int .u32 0]) 24 ho Try.underlying70 infoK rfl (by decide) (by decide) v (L.map kt4) (kt4 y) [.int .i64 y.key, .int .i64 y.many, .int .u32 (y.sl : Int), .int .u32 y.gn] (fun _ => True) (fun _ => False) hs hx ⟨[.int .i64 y.key], [.int .i64 y.many, .int .u32 (y.sl : Int), .int .u32 y.gn], rfl, rfl, [.int .i64 y.many], [.int .u32 (y.sl : Int), .int .u32 y.gn], rfl, rfl, [.int .u32 (y.sl : Int)], [.int .u32 y.gn], rfl, rfl, rfl⟩ (fun _ hk => hk.elim) (fun _ _ => trivial) HO HB hbase (by rw [List.length_map]; exact hl) (fun v1 w1 r1 b1 g1 _ => h v1 w1 (by unfold KRow; rw [List.map_append]; exact r1) b1 g1)
end Go.Proofs.Ytibcbeibehaeeaa.Hand
