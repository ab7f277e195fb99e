/- The reference's arena: Put, Free, Alloc. -/
import Derived.Test.YtdnpfnoobjbanaaI2
set_option linter.unusedVariables false
set_option linter.unusedSimpArgs false
namespace Go.Proofs.Ytdnpfnoobjbanaa.Hand
open Go.RowKit Go.Proofs.Ytdnpfnoobjbanaa.PArenaPlays Go.Proofs.YtdnpfnoobjbanaaW.PrintWords Go.Proofs.YtdnpfnoobjbanaaW.PrintLast Go.Proofs.YtdnpfnoobjbanaaW.PrintMore
theorem RX.of' {W : World} {g : Nat} {cap lim : Int} {v : Value} {rs : List S82} {bs : List S77} (h : RV' W g cap lim v rs) (e : rs = bs.map toR) : RX W g cap lim bs := by
  subst e
  exact ⟨v, h⟩
theorem bel_drew (W : World) : Below W.heap.size W W.drew := by first | exact below_drew1 (Below.refl _ _) | exact below_drew (Below.refl _ _)
theorem FR.drew {g : Nat} {W W1 : World} (h : FR g W W1) : FR g W W1.drew := h.trans (FR.of_below (bel_drew W1))
theorem RX.drew {W : World} {g : Nat} {cap lim : Int} {bs : List S77} (h : RX W g cap lim bs) : RX W.drew g cap lim bs := h.below (bel_drew W)
theorem mapR_set (bs : List S77) (i : Nat) (b : S77) : (bs.map toR).set i (toR b) = (bs.set i b).map toR := by rw [List.map_set]
theorem mapR_get (bs : List S77) (i : Nat) (hi : i < bs.length) : (bs.map toR)[i]? = some (toR (bk bs i)) := by simp [bk, hi]
theorem keep3 {W W1 : World} {a b c : Addr} {x y z : Value} (hb : Below W.heap.size W W1) (h : W.cell? a = some x ∧ W.cell? b = some y ∧ W.cell? c = some z) : W1.cell? a = some x ∧ W1.cell? b = some y ∧ W1.cell? c = some z := ⟨pw_cell_below hb h.1, pw_cell_below hb h.2.1, pw_cell_below hb h.2.2⟩
theorem keep4 {W W1 : World} {a b c d : Addr} {x y z u : Value} (hb : Below W.heap.size W W1) (h : W.cell? a = some x ∧ W.cell? b = some y ∧ W.cell? c = some z ∧ W.cell? d = some u) : W1.cell? a = some x ∧ W1.cell? b = some y ∧ W1.cell? c = some z ∧ W1.cell? d = some u := ⟨pw_cell_below hb h.1, pw_cell_below hb h.2.1, pw_cell_below hb h.2.2.1, pw_cell_below hb h.2.2.2⟩
set_option maxHeartbeats 1000000 in
set_option maxRecDepth 100000 in
theorem rp_no {W : World} {g : Nat} {cap lim : Int} {bs : List S77} (h : RX W g cap lim bs) (hg : Good bs) (i : Nat) (gen : Int) (hi2 : i ≤ 4294967295) (s : ByteArray) (hlb : livesB bs i gen = false) : Calls Try.prog 24 #[.pointer (some ⟨g, 0, none⟩), .agg #[.int .u32 (i : Int), .int .u32 gen], .string s] W fun e w' => e = .returned (.bool false) ∧ Below W.heap.size W w' := by
  have HB := Aside0.mk (Below.refl W.heap.size W)
  obtain ⟨v, h⟩ := h
  have h5 := h.1
  obtain ⟨A, c, rfl⟩ := h.val
  have q0 := blk_cell h5 0
  have q1 := blk_cell h5 1
  have q2 := blk_cell h5 2
  have f1 := blk_frozen h5 1
  have f2 := blk_frozen h5 2
  have hlt := h.lt
  simp only [List.getElem?_toArray, List.getElem?_cons_zero, List.getElem?_cons_succ] at q0 q1 q2
  have hlen := hg.len
  have H := Aside0.mk h
  have HG := Aside0.mk hg
  have HLB := Aside0.mk hlb
  clear h h5 hg hlb
  go_enter Try.func24, Try.ntmps24
  go_wp2
  refine start_ (n := 18) (S := fun w' => w'.cell? ⟨W.heap.size, 0, none⟩ = some (.int .u32 (i : Int)) ∧ w'.cell? ⟨W.heap.size, 1, none⟩ = some (.int .u32 gen)) (ds := []) #[false, false, false, false, false, false, false, false, false, false, false, false, false, false, false, false, false, false] (by kernel_rfl) rfl rfl ⟨(blk_cell (cs := #[.int .u32 (i : Int), .int .u32 gen]) (t := 54) (by repeat (first | (with_reducible refine blk_drewN ?_ _) | (with_reducible refine blk_drew ?_) | exact blk_new' (by first | rfl | simp) | (with_reducible refine blk_alloc ?_ _))) 0), (blk_cell (cs := #[.int .u32 (i : Int), .int .u32 gen]) (t := 54) (by repeat (first | (with_reducible refine blk_drewN ?_ _) | (with_reducible refine blk_drew ?_) | exact blk_new' (by first | rfl | simp) | (with_reducible refine blk_alloc ?_ _))) 1)⟩ (fun hHeld => ?_)
  refine pure_ (i := 0) (N := some 7) (v := ?_) (a' := ?_) #[true, false, false, false, false, false, false, false, false, false, false, false, false, false, false, false, false, false] rfl rfl (by kernel_rfl) (fun _ _ _ h => h) (Or.inl ⟨by rfl, ?_⟩) ?_ ?_
  rotate_left
  · intro w'
    go_simp
    with_reducible rfl
  rotate_left
  · simp only [Act.put, List.setIfInBounds_toArray, List.set_cons_zero, List.set_cons_succ, i64_w, i32_w]
    rfl
  refine take_ (i := 1) (N := some 8) (v := ?_) (a' := ?_) #[true, true, false, false, false, false, false, false, false, false, false, false, false, false, false, false, false, false] rfl rfl (by kernel_rfl) (fun _ _ _ h => h) (Or.inl ⟨by rfl, ?_⟩) hHeld ?_ ?_
  rotate_left
  · rintro w' ⟨s0, s1⟩
    go_simp
    with_reducible rfl
  rotate_left
  · simp only [Act.put, List.setIfInBounds_toArray, List.set_cons_zero, List.set_cons_succ, i64_w, i32_w]
    rfl
  refine one_ (i := 2) (N := some 9) #[true, true, true, false, false, false, false, false, false, false, false, false, false, false, false, false, false, false] rfl rfl (by kernel_rfl) (by decide) (fun Kc hKc => ?_)
  refine goes_ Try.func39 (by kernel_rfl) rfl #[.pointer (some ⟨g, 0, none⟩), .agg #[.int .u32 (i : Int), .int .u32 gen]] (by rfl) rfl rfl (by simp only [List.map_toArray, List.map_cons, List.map_nil]; rfl) ?_
  with_reducible refine (rc_lives (RV.rx (H.out.below (by repeat (first | (with_reducible first | exact HB.out | apply below_alloc | apply pw_below_drewN | apply below_drew1) | exact HB.out)))) HG.out i gen hi2).mono ?_
  rintro e w9 ⟨rfl, hb⟩
  rw [HLB.out]
  refine ⟨_, rfl, ?_⟩
  have n0_ := Aside0.mk (below_step (by repeat (first | (with_reducible first | exact HB.out | apply below_alloc | apply pw_below_drewN | apply below_drew1) | exact HB.out)) hb)
  clear HB
  have HB := n0_
  clear n0_
  refine hKc.out _ _ ⟨pw_cell_below hb hHeld.1, pw_cell_below hb hHeld.2⟩ (fun hHeld => ?_)
  clear hKc Kc
  refine norm_ (a' := ?_) ?_ ?_
  rotate_left
  · show Act.put _ (some 9) _ = _
    simp only [Act.put, List.setIfInBounds_toArray, List.set_cons_zero, List.set_cons_succ, i64_w, i32_w]
    rfl
  refine pure_ (i := 3) (N := some 10) (v := ?_) (a' := ?_) #[true, true, true, true, false, false, false, false, false, false, false, false, false, false, false, false, false, false] rfl rfl (by kernel_rfl) (fun _ _ _ h => h) (Or.inl ⟨by rfl, ?_⟩) ?_ ?_
  rotate_left
  · intro w'
    go_simp
    with_reducible rfl
  rotate_left
  · simp only [Act.put, List.setIfInBounds_toArray, List.set_cons_zero, List.set_cons_succ, i64_w, i32_w]
    rfl
  refine pure_ (i := 4) (N := some 11) (v := ?_) (a' := ?_) #[true, true, true, true, true, false, false, false, false, false, false, false, false, false, false, false, false, false] rfl rfl (by kernel_rfl) (fun _ _ _ h => h) (Or.inl ⟨by rfl, ?_⟩) ?_ ?_
  rotate_left
  · intro w'
    go_simp
    with_reducible rfl
  rotate_left
  · simp only [Act.put, List.setIfInBounds_toArray, List.set_cons_zero, List.set_cons_succ, i64_w, i32_w]
    rfl
  refine pure_ (i := 5) (N := some 12) (v := undef) (a' := ?_) #[true, true, true, true, true, true, false, false, false, false, false, false, false, false, false, false, false, false] rfl rfl (by kernel_rfl) (fun _ _ _ h => h) (Or.inr ⟨by rfl, rfl⟩) ?_ ?_
  rotate_left
  · simp only [Act.put, List.setIfInBounds_toArray, List.set_cons_zero, List.set_cons_succ, i64_w, i32_w]
    rfl
  refine pure_ (i := 6) (N := some 13) (v := undef) (a' := ?_) #[true, true, true, true, true, true, true, false, false, false, false, false, false, false, false, false, false, false] rfl rfl (by kernel_rfl) (fun _ _ _ h => h) (Or.inr ⟨by rfl, rfl⟩) ?_ ?_
  rotate_left
  · simp only [Act.put, List.setIfInBounds_toArray, List.set_cons_zero, List.set_cons_succ, i64_w, i32_w]
    rfl
  refine pure_ (i := 7) (N := some 14) (v := undef) (a' := ?_) #[true, true, true, true, true, true, true, true, false, false, false, false, false, false, false, false, false, false] rfl rfl (by kernel_rfl) (fun _ _ _ h => h) (Or.inr ⟨by rfl, rfl⟩) ?_ ?_
  rotate_left
  · simp only [Act.put, List.setIfInBounds_toArray, List.set_cons_zero, List.set_cons_succ, i64_w, i32_w]
    rfl
  refine pure_ (i := 8) (N := some 15) (v := undef) (a' := ?_) #[true, true, true, true, true, true, true, true, true, false, false, false, false, false, false, false, false, false] rfl rfl (by kernel_rfl) (fun _ _ _ h => h) (Or.inr ⟨by rfl, rfl⟩) ?_ ?_
  rotate_left
  · simp only [Act.put, List.setIfInBounds_toArray, List.set_cons_zero, List.set_cons_succ, i64_w, i32_w]
    rfl
  refine pure_ (i := 9) (N := some 16) (v := undef) (a' := ?_) #[true, true, true, true, true, true, true, true, true, true, false, false, false, false, false, false, false, false] rfl rfl (by kernel_rfl) (fun _ _ _ h => h) (Or.inr ⟨by rfl, rfl⟩) ?_ ?_
  rotate_left
  · simp only [Act.put, List.setIfInBounds_toArray, List.set_cons_zero, List.set_cons_succ, i64_w, i32_w]
    rfl
  refine pure_ (i := 10) (N := some 17) (v := undef) (a' := ?_) #[true, true, true, true, true, true, true, true, true, true, true, false, false, false, false, false, false, false] rfl rfl (by kernel_rfl) (fun _ _ _ h => h) (Or.inr ⟨by rfl, rfl⟩) ?_ ?_
  rotate_left
  · simp only [Act.put, List.setIfInBounds_toArray, List.set_cons_zero, List.set_cons_succ, i64_w, i32_w]
    rfl
  refine pure_ (i := 11) (N := some 18) (v := undef) (a' := ?_) #[true, true, true, true, true, true, true, true, true, true, true, true, false, false, false, false, false, false] rfl rfl (by kernel_rfl) (fun _ _ _ h => h) (Or.inr ⟨by rfl, rfl⟩) ?_ ?_
  rotate_left
  · simp only [Act.put, List.setIfInBounds_toArray, List.set_cons_zero, List.set_cons_succ, i64_w, i32_w]
    rfl
  refine pure_ (i := 12) (N := some 19) (v := undef) (a' := ?_) #[true, true, true, true, true, true, true, true, true, true, true, true, true, false, false, false, false, false] rfl rfl (by kernel_rfl) (fun _ _ _ h => h) (Or.inr ⟨by rfl, rfl⟩) ?_ ?_
  rotate_left
  · simp only [Act.put, List.setIfInBounds_toArray, List.set_cons_zero, List.set_cons_succ, i64_w, i32_w]
    rfl
  refine pure_ (i := 13) (N := some 20) (v := undef) (a' := ?_) #[true, true, true, true, true, true, true, true, true, true, true, true, true, true, false, false, false, false] rfl rfl (by kernel_rfl) (fun _ _ _ h => h) (Or.inr ⟨by rfl, rfl⟩) ?_ ?_
  rotate_left
  · simp only [Act.put, List.setIfInBounds_toArray, List.set_cons_zero, List.set_cons_succ, i64_w, i32_w]
    rfl
  refine pure_ (i := 14) (N := some 21) (v := undef) (a' := ?_) #[true, true, true, true, true, true, true, true, true, true, true, true, true, true, true, false, false, false] rfl rfl (by kernel_rfl) (fun _ _ _ h => h) (Or.inr ⟨by rfl, rfl⟩) ?_ ?_
  rotate_left
  · simp only [Act.put, List.setIfInBounds_toArray, List.set_cons_zero, List.set_cons_succ, i64_w, i32_w]
    rfl
  refine pure_ (i := 15) (N := some 22) (v := undef) (a' := ?_) #[true, true, true, true, true, true, true, true, true, true, true, true, true, true, true, true, false, false] rfl rfl (by kernel_rfl) (fun _ _ _ h => h) (Or.inr ⟨by rfl, rfl⟩) ?_ ?_
  rotate_left
  · simp only [Act.put, List.setIfInBounds_toArray, List.set_cons_zero, List.set_cons_succ, i64_w, i32_w]
    rfl
  refine pure_ (i := 16) (N := some 23) (v := undef) (a' := ?_) #[true, true, true, true, true, true, true, true, true, true, true, true, true, true, true, true, true, false] rfl rfl (by kernel_rfl) (fun _ _ _ h => h) (Or.inr ⟨by rfl, rfl⟩) ?_ ?_
  rotate_left
  · simp only [Act.put, List.setIfInBounds_toArray, List.set_cons_zero, List.set_cons_succ, i64_w, i32_w]
    rfl
  refine pure_ (i := 17) (N := some 24) (v := ?_) (a' := ?_) #[true, true, true, true, true, true, true, true, true, true, true, true, true, true, true, true, true, true] rfl rfl (by kernel_rfl) (fun _ _ _ h => h) (Or.inl ⟨by rfl, ?_⟩) ?_ ?_
  rotate_left
  · intro w'
    go_simp
    with_reducible rfl
  rotate_left
  · simp only [Act.put, List.setIfInBounds_toArray, List.set_cons_zero, List.set_cons_succ, i64_w, i32_w]
    rfl
  refine done_ (by kernel_rfl) ?_
  go_wp2
  go_ret
  exact ⟨rfl, (by repeat (first | (with_reducible first | exact HB.out | apply below_alloc | apply pw_below_drewN | apply below_drew1) | exact HB.out))⟩
set_option maxHeartbeats 1000000 in
set_option maxRecDepth 100000 in
theorem rp_big {W : World} {g : Nat} {cap lim : Int} {bs : List S77} (h : RX W g cap lim bs) (hg : Good bs) (i : Nat) (gen : Int) (hi2 : i ≤ 4294967295) (s : ByteArray) (hlb : livesB bs i gen = true) (x : Int) (hx : (bk bs i).f1 = x) (hs : x < (s.size : Int)) : Calls Try.prog 24 #[.pointer (some ⟨g, 0, none⟩), .agg #[.int .u32 (i : Int), .int .u32 gen], .string s] W fun e w' => e = .returned (.bool false) ∧ Below W.heap.size W w' := by
  obtain ⟨hi, hL⟩ : i < bs.length ∧ 0 < (bk bs i).f1 := by have := (lives_iff _ _ _).1 hlb; exact ⟨this.1, this.2.1⟩
  have hgn : (bk bs i).f0 = gen := ((lives_iff _ _ _).1 hlb).2.2
  have HB := Aside0.mk (Below.refl W.heap.size W)
  obtain ⟨v, h⟩ := h
  have h5 := h.1
  have q0 := blk_cell h5 0
  have q1 := blk_cell h5 1
  have q2 := blk_cell h5 2
  have f1 := blk_frozen h5 1
  have f2 := blk_frozen h5 2
  have hlt := h.lt
  simp only [List.getElem?_toArray, List.getElem?_cons_zero, List.getElem?_cons_succ] at q0 q1 q2
  have hlen := hg.len
  obtain ⟨gb, cb, hbv, hcc, hff, hne, hlt2, hge, csb, hcb⟩ := h.elem i hi
  have e0 := hcc 0 _ rfl
  have e1 := hcc 1 _ rfl
  have e2 := hcc 2 _ rfl
  have e3 := hcc 3 _ rfl
  rw [Nat.add_zero] at e0
  rw [hgn] at e0
  have hdb : decide (0 < (bk bs i).f1) = true := by simp; omega
  rw [hdb] at e1
  subst hbv
  have H := Aside0.mk h
  have HG := Aside0.mk hg
  have HLB := Aside0.mk hlb
  have HCB := Aside0.mk hcb
  have il : (i : Int) ≤ 4096 := by omega
  rw [hx] at e2
  clear hx
  clear h h5 hg hlb hcc hff hcb hdb hgn hL
  have zs : decide (x < (s.size : Int)) = true := by simp; omega
  go_enter Try.func24, Try.ntmps24
  go_wp2
  refine start_ (n := 18) (S := fun w' => w'.cell? ⟨W.heap.size, 0, none⟩ = some (.int .u32 (i : Int)) ∧ w'.cell? ⟨W.heap.size, 1, none⟩ = some (.int .u32 gen) ∧ w'.cell? ⟨g, 2, none⟩ = some (.slice (some ⟨gb, 0, none⟩) bs.length cb) ∧ w'.cell? ⟨gb, i * 4 + 2, none⟩ = some (.int .i64 x)) (ds := []) #[false, false, false, false, false, false, false, false, false, false, false, false, false, false, false, false, false, false] (by kernel_rfl) rfl rfl ⟨(blk_cell (cs := #[.int .u32 (i : Int), .int .u32 gen]) (t := 54) (by repeat (first | (with_reducible refine blk_drewN ?_ _) | (with_reducible refine blk_drew ?_) | exact blk_new' (by first | rfl | simp) | (with_reducible refine blk_alloc ?_ _))) 0), (blk_cell (cs := #[.int .u32 (i : Int), .int .u32 gen]) (t := 54) (by repeat (first | (with_reducible refine blk_drewN ?_ _) | (with_reducible refine blk_drew ?_) | exact blk_new' (by first | rfl | simp) | (with_reducible refine blk_alloc ?_ _))) 1), (pw_cell_below (by repeat (first | (with_reducible first | exact HB.out | apply below_alloc | apply pw_below_drewN | apply below_drew1) | exact HB.out)) q2), (pw_cell_below (by repeat (first | (with_reducible first | exact HB.out | apply below_alloc | apply pw_below_drewN | apply below_drew1) | exact HB.out)) e2)⟩ (fun hHeld => ?_)
  refine pure_ (i := 0) (N := some 7) (v := ?_) (a' := ?_) #[true, false, false, false, false, false, false, false, false, false, false, false, false, false, false, false, false, false] rfl rfl (by kernel_rfl) (fun _ _ _ h => h) (Or.inl ⟨by rfl, ?_⟩) ?_ ?_
  rotate_left
  · intro w'
    go_simp
    with_reducible rfl
  rotate_left
  · simp only [Act.put, List.setIfInBounds_toArray, List.set_cons_zero, List.set_cons_succ, i64_w, i32_w]
    rfl
  refine take_ (i := 1) (N := some 8) (v := ?_) (a' := ?_) #[true, true, false, false, false, false, false, false, false, false, false, false, false, false, false, false, false, false] rfl rfl (by kernel_rfl) (fun _ _ _ h => h) (Or.inl ⟨by rfl, ?_⟩) hHeld ?_ ?_
  rotate_left
  · rintro w' ⟨s0, s1, s2, s3⟩
    go_simp
    with_reducible rfl
  rotate_left
  · simp only [Act.put, List.setIfInBounds_toArray, List.set_cons_zero, List.set_cons_succ, i64_w, i32_w]
    rfl
  refine one_ (i := 2) (N := some 9) #[true, true, true, false, false, false, false, false, false, false, false, false, false, false, false, false, false, false] rfl rfl (by kernel_rfl) (by decide) (fun Kc hKc => ?_)
  refine goes_ Try.func39 (by kernel_rfl) rfl #[.pointer (some ⟨g, 0, none⟩), .agg #[.int .u32 (i : Int), .int .u32 gen]] (by rfl) rfl rfl (by simp only [List.map_toArray, List.map_cons, List.map_nil]; rfl) ?_
  with_reducible refine (rc_lives (RV.rx (H.out.below (by repeat (first | (with_reducible first | exact HB.out | apply below_alloc | apply pw_below_drewN | apply below_drew1) | exact HB.out)))) HG.out i gen hi2).mono ?_
  rintro e w9 ⟨rfl, hb⟩
  rw [HLB.out]
  refine ⟨_, rfl, ?_⟩
  have n0_ := Aside0.mk (below_step (by repeat (first | (with_reducible first | exact HB.out | apply below_alloc | apply pw_below_drewN | apply below_drew1) | exact HB.out)) hb)
  clear HB
  have HB := n0_
  clear n0_
  refine hKc.out _ _ ⟨pw_cell_below hb hHeld.1, pw_cell_below hb hHeld.2.1, pw_cell_below hb hHeld.2.2.1, pw_cell_below hb hHeld.2.2.2⟩ (fun hHeld => ?_)
  clear hKc Kc
  refine norm_ (a' := ?_) ?_ ?_
  rotate_left
  · show Act.put _ (some 9) _ = _
    simp only [Act.put, List.setIfInBounds_toArray, List.set_cons_zero, List.set_cons_succ, i64_w, i32_w]
    rfl
  refine pure_ (i := 3) (N := some 10) (v := ?_) (a' := ?_) #[true, true, true, true, false, false, false, false, false, false, false, false, false, false, false, false, false, false] rfl rfl (by kernel_rfl) (fun _ _ _ h => h) (Or.inl ⟨by rfl, ?_⟩) ?_ ?_
  rotate_left
  · intro w'
    go_simp
    with_reducible rfl
  rotate_left
  · simp only [Act.put, List.setIfInBounds_toArray, List.set_cons_zero, List.set_cons_succ, i64_w, i32_w]
    rfl
  refine pure_ (i := 4) (N := some 11) (v := ?_) (a' := ?_) #[true, true, true, true, true, false, false, false, false, false, false, false, false, false, false, false, false, false] rfl rfl (by kernel_rfl) (fun _ _ _ h => h) (Or.inl ⟨by rfl, ?_⟩) ?_ ?_
  rotate_left
  · intro w'
    go_simp
    with_reducible rfl
  rotate_left
  · simp only [Act.put, List.setIfInBounds_toArray, List.set_cons_zero, List.set_cons_succ, i64_w, i32_w]
    rfl
  refine pure_ (i := 5) (N := some 12) (v := ?_) (a' := ?_) #[true, true, true, true, true, true, false, false, false, false, false, false, false, false, false, false, false, false] rfl rfl (by kernel_rfl) (fun _ _ _ h => h) (Or.inl ⟨by rfl, ?_⟩) ?_ ?_
  rotate_left
  · intro w'
    go_simp
    with_reducible rfl
  rotate_left
  · simp only [Act.put, List.setIfInBounds_toArray, List.set_cons_zero, List.set_cons_succ, i64_w, i32_w]
    rfl
  refine pure_ (i := 6) (N := some 13) (v := ?_) (a' := ?_) #[true, true, true, true, true, true, true, false, false, false, false, false, false, false, false, false, false, false] rfl rfl (by kernel_rfl) (fun _ _ _ h => h) (Or.inl ⟨by rfl, ?_⟩) ?_ ?_
  rotate_left
  · intro w'
    go_simp
    with_reducible rfl
  rotate_left
  · simp only [Act.put, List.setIfInBounds_toArray, List.set_cons_zero, List.set_cons_succ, i64_w, i32_w]
    rfl
  refine pure_ (i := 7) (N := some 14) (v := ?_) (a' := ?_) #[true, true, true, true, true, true, true, true, false, false, false, false, false, false, false, false, false, false] rfl rfl (by kernel_rfl) (fun _ _ _ h => h) (Or.inl ⟨by rfl, ?_⟩) ?_ ?_
  rotate_left
  · intro w'
    go_simp
    with_reducible rfl
  rotate_left
  · simp only [Act.put, List.setIfInBounds_toArray, List.set_cons_zero, List.set_cons_succ, i64_w, i32_w]
    rfl
  refine pure_ (i := 8) (N := some 15) (v := ?_) (a' := ?_) #[true, true, true, true, true, true, true, true, true, false, false, false, false, false, false, false, false, false] rfl rfl (by kernel_rfl) (fun _ _ _ h => h) (Or.inl ⟨by rfl, ?_⟩) ?_ ?_
  rotate_left
  · intro w'
    go_simp
    with_reducible rfl
  rotate_left
  · simp only [Act.put, List.setIfInBounds_toArray, List.set_cons_zero, List.set_cons_succ, i64_w, i32_w]
    rfl
  refine pure_ (i := 9) (N := some 16) (v := ?_) (a' := ?_) #[true, true, true, true, true, true, true, true, true, true, false, false, false, false, false, false, false, false] rfl rfl (by kernel_rfl) (fun _ _ _ h => h) (Or.inl ⟨by rfl, ?_⟩) ?_ ?_
  rotate_left
  · intro w'
    go_simp
    with_reducible rfl
  rotate_left
  · simp only [Act.put, List.setIfInBounds_toArray, List.set_cons_zero, List.set_cons_succ, i64_w, i32_w]
    rfl
  refine pure_ (i := 11) (N := some 18) (v := ?_) (a' := ?_) #[true, true, true, true, true, true, true, true, true, true, false, true, false, false, false, false, false, false] rfl rfl (by kernel_rfl) (fun _ _ _ h => h) (Or.inl ⟨by rfl, ?_⟩) ?_ ?_
  rotate_left
  · intro w'
    go_simp
    with_reducible rfl
  rotate_left
  · simp only [Act.put, List.setIfInBounds_toArray, List.set_cons_zero, List.set_cons_succ, i64_w, i32_w]
    rfl
  refine take_ (i := 10) (N := some 17) (v := ?_) (a' := ?_) #[true, true, true, true, true, true, true, true, true, true, true, true, false, false, false, false, false, false] rfl rfl (by kernel_rfl) (fun _ _ _ h => h) (Or.inl ⟨by rfl, ?_⟩) hHeld ?_ ?_
  rotate_left
  · rintro w' ⟨s0, s1, s2, s3⟩
    go_simp
    with_reducible rfl
  rotate_left
  · simp only [Act.put, List.setIfInBounds_toArray, List.set_cons_zero, List.set_cons_succ, i64_w, i32_w]
    rfl
  refine take_ (i := 12) (N := some 19) (v := ?_) (a' := ?_) #[true, true, true, true, true, true, true, true, true, true, true, true, true, false, false, false, false, false] rfl rfl (by kernel_rfl) (fun _ _ _ h => h) (Or.inl ⟨by rfl, ?_⟩) hHeld ?_ ?_
  rotate_left
  · rintro w' ⟨s0, s1, s2, s3⟩
    go_simp
    with_reducible rfl
  rotate_left
  · simp only [Act.put, List.setIfInBounds_toArray, List.set_cons_zero, List.set_cons_succ, i64_w, i32_w]
    rfl
  refine pure_ (i := 13) (N := some 20) (v := ?_) (a' := ?_) #[true, true, true, true, true, true, true, true, true, true, true, true, true, true, false, false, false, false] rfl rfl (by kernel_rfl) (fun _ _ _ h => h) (Or.inl ⟨by rfl, ?_⟩) ?_ ?_
  rotate_left
  · intro w'
    go_simp
    with_reducible rfl
  rotate_left
  · simp only [Act.put, List.setIfInBounds_toArray, List.set_cons_zero, List.set_cons_succ, i64_w, i32_w]
    rfl
  refine pure_ (i := 14) (N := some 21) (v := ?_) (a' := ?_) #[true, true, true, true, true, true, true, true, true, true, true, true, true, true, true, false, false, false] rfl rfl (by kernel_rfl) (fun _ _ _ h => h) (Or.inl ⟨by rfl, ?_⟩) ?_ ?_
  rotate_left
  · intro w'
    go_simp
    with_reducible rfl
  rotate_left
  · simp only [Act.put, List.setIfInBounds_toArray, List.set_cons_zero, List.set_cons_succ, i64_w, i32_w]
    rfl
  refine take_ (i := 15) (N := some 22) (v := ?_) (a' := ?_) #[true, true, true, true, true, true, true, true, true, true, true, true, true, true, true, true, false, false] rfl rfl (by kernel_rfl) (fun _ _ _ h => h) (Or.inl ⟨by rfl, ?_⟩) hHeld ?_ ?_
  rotate_left
  · rintro w' ⟨s0, s1, s2, s3⟩
    go_simp
    with_reducible rfl
  rotate_left
  · simp only [Act.put, List.setIfInBounds_toArray, List.set_cons_zero, List.set_cons_succ, i64_w, i32_w]
    rfl
  refine pure_ (i := 16) (N := some 23) (v := ?_) (a' := ?_) #[true, true, true, true, true, true, true, true, true, true, true, true, true, true, true, true, true, false] rfl rfl (by kernel_rfl) (fun _ _ _ h => h) (Or.inl ⟨by rfl, ?_⟩) ?_ ?_
  rotate_left
  · intro w'
    go_simp
    with_reducible rfl
  rotate_left
  · simp only [Act.put, List.setIfInBounds_toArray, List.set_cons_zero, List.set_cons_succ, i64_w, i32_w]
    rfl
  refine pure_ (i := 17) (N := some 24) (v := ?_) (a' := ?_) #[true, true, true, true, true, true, true, true, true, true, true, true, true, true, true, true, true, true] rfl rfl (by kernel_rfl) (fun _ _ _ h => h) (Or.inl ⟨by rfl, ?_⟩) ?_ ?_
  rotate_left
  · intro w'
    go_simp
    with_reducible rfl
  rotate_left
  · simp only [Act.put, List.setIfInBounds_toArray, List.set_cons_zero, List.set_cons_succ, i64_w, i32_w]
    rfl
  refine done_ (by kernel_rfl) ?_
  go_wp2
  go_ret
  exact ⟨rfl, (by repeat (first | (with_reducible first | exact HB.out | apply below_alloc | apply pw_below_drewN | apply below_drew1) | exact HB.out))⟩
set_option maxHeartbeats 1000000 in
set_option maxRecDepth 100000 in
theorem rp_yes {W : World} {g : Nat} {cap lim : Int} {bs : List S77} (h : RX W g cap lim bs) (hg : Good bs) (i : Nat) (gen : Int) (hi2 : i ≤ 4294967295) (s : ByteArray) (hlb : livesB bs i gen = true) (x : Int) (hx : (bk bs i).f1 = x) (hs : (s.size : Int) ≤ x) : Calls Try.prog 24 #[.pointer (some ⟨g, 0, none⟩), .agg #[.int .u32 (i : Int), .int .u32 gen], .string s] W fun e w' => e = .returned (.bool true) ∧ RX w' g cap lim (bs.set i ⟨(bk bs i).f0, (bk bs i).f1, s⟩) ∧ FR g W w' := by
  obtain ⟨hi, hL⟩ : i < bs.length ∧ 0 < (bk bs i).f1 := by have := (lives_iff _ _ _).1 hlb; exact ⟨this.1, this.2.1⟩
  have hgn : (bk bs i).f0 = gen := ((lives_iff _ _ _).1 hlb).2.2
  have HB := Aside0.mk (Below.refl W.heap.size W)
  obtain ⟨v, h⟩ := h
  have h5 := h.1
  have q0 := blk_cell h5 0
  have q1 := blk_cell h5 1
  have q2 := blk_cell h5 2
  have f1 := blk_frozen h5 1
  have f2 := blk_frozen h5 2
  have hlt := h.lt
  simp only [List.getElem?_toArray, List.getElem?_cons_zero, List.getElem?_cons_succ] at q0 q1 q2
  have hlen := hg.len
  obtain ⟨gb, cb, hbv, hcc, hff, hne, hlt2, hge, csb, hcb⟩ := h.elem i hi
  have e0 := hcc 0 _ rfl
  have e1 := hcc 1 _ rfl
  have e2 := hcc 2 _ rfl
  have e3 := hcc 3 _ rfl
  rw [Nat.add_zero] at e0
  rw [hgn] at e0
  have hdb : decide (0 < (bk bs i).f1) = true := by simp; omega
  rw [hdb] at e1
  subst hbv
  have H := Aside0.mk h
  have HG := Aside0.mk hg
  have HLB := Aside0.mk hlb
  have HCB := Aside0.mk hcb
  have il : (i : Int) ≤ 4096 := by omega
  rw [hx] at e2
  clear hx
  clear h h5 hg hlb hcc hff hcb hdb hgn hL
  have zs : decide (x < (s.size : Int)) = false := by simp; omega
  go_enter Try.func24, Try.ntmps24
  go_wp2
  refine start_ (n := 18) (S := fun w' => w'.cell? ⟨W.heap.size, 0, none⟩ = some (.int .u32 (i : Int)) ∧ w'.cell? ⟨W.heap.size, 1, none⟩ = some (.int .u32 gen) ∧ w'.cell? ⟨g, 2, none⟩ = some (.slice (some ⟨gb, 0, none⟩) bs.length cb) ∧ w'.cell? ⟨gb, i * 4 + 2, none⟩ = some (.int .i64 x)) (ds := []) #[false, false, false, false, false, false, false, false, false, false, false, false, false, false, false, false, false, false] (by kernel_rfl) rfl rfl ⟨(blk_cell (cs := #[.int .u32 (i : Int), .int .u32 gen]) (t := 54) (by repeat (first | (with_reducible refine blk_drewN ?_ _) | (with_reducible refine blk_drew ?_) | exact blk_new' (by first | rfl | simp) | (with_reducible refine blk_alloc ?_ _))) 0), (blk_cell (cs := #[.int .u32 (i : Int), .int .u32 gen]) (t := 54) (by repeat (first | (with_reducible refine blk_drewN ?_ _) | (with_reducible refine blk_drew ?_) | exact blk_new' (by first | rfl | simp) | (with_reducible refine blk_alloc ?_ _))) 1), (pw_cell_below (by repeat (first | (with_reducible first | exact HB.out | apply below_alloc | apply pw_below_drewN | apply below_drew1) | exact HB.out)) q2), (pw_cell_below (by repeat (first | (with_reducible first | exact HB.out | apply below_alloc | apply pw_below_drewN | apply below_drew1) | exact HB.out)) e2)⟩ (fun hHeld => ?_)
  refine pure_ (i := 0) (N := some 7) (v := ?_) (a' := ?_) #[true, false, false, false, false, false, false, false, false, false, false, false, false, false, false, false, false, false] rfl rfl (by kernel_rfl) (fun _ _ _ h => h) (Or.inl ⟨by rfl, ?_⟩) ?_ ?_
  rotate_left
  · intro w'
    go_simp
    with_reducible rfl
  rotate_left
  · simp only [Act.put, List.setIfInBounds_toArray, List.set_cons_zero, List.set_cons_succ, i64_w, i32_w]
    rfl
  refine take_ (i := 1) (N := some 8) (v := ?_) (a' := ?_) #[true, true, false, false, false, false, false, false, false, false, false, false, false, false, false, false, false, false] rfl rfl (by kernel_rfl) (fun _ _ _ h => h) (Or.inl ⟨by rfl, ?_⟩) hHeld ?_ ?_
  rotate_left
  · rintro w' ⟨s0, s1, s2, s3⟩
    go_simp
    with_reducible rfl
  rotate_left
  · simp only [Act.put, List.setIfInBounds_toArray, List.set_cons_zero, List.set_cons_succ, i64_w, i32_w]
    rfl
  refine one_ (i := 2) (N := some 9) #[true, true, true, false, false, false, false, false, false, false, false, false, false, false, false, false, false, false] rfl rfl (by kernel_rfl) (by decide) (fun Kc hKc => ?_)
  refine goes_ Try.func39 (by kernel_rfl) rfl #[.pointer (some ⟨g, 0, none⟩), .agg #[.int .u32 (i : Int), .int .u32 gen]] (by rfl) rfl rfl (by simp only [List.map_toArray, List.map_cons, List.map_nil]; rfl) ?_
  with_reducible refine (rc_lives (RV.rx (H.out.below (by repeat (first | (with_reducible first | exact HB.out | apply below_alloc | apply pw_below_drewN | apply below_drew1) | exact HB.out)))) HG.out i gen hi2).mono ?_
  rintro e w9 ⟨rfl, hb⟩
  rw [HLB.out]
  refine ⟨_, rfl, ?_⟩
  have n0_ := Aside0.mk (below_step (by repeat (first | (with_reducible first | exact HB.out | apply below_alloc | apply pw_below_drewN | apply below_drew1) | exact HB.out)) hb)
  clear HB
  have HB := n0_
  clear n0_
  refine hKc.out _ _ ⟨pw_cell_below hb hHeld.1, pw_cell_below hb hHeld.2.1, pw_cell_below hb hHeld.2.2.1, pw_cell_below hb hHeld.2.2.2⟩ (fun hHeld => ?_)
  clear hKc Kc
  refine norm_ (a' := ?_) ?_ ?_
  rotate_left
  · show Act.put _ (some 9) _ = _
    simp only [Act.put, List.setIfInBounds_toArray, List.set_cons_zero, List.set_cons_succ, i64_w, i32_w]
    rfl
  refine pure_ (i := 3) (N := some 10) (v := ?_) (a' := ?_) #[true, true, true, true, false, false, false, false, false, false, false, false, false, false, false, false, false, false] rfl rfl (by kernel_rfl) (fun _ _ _ h => h) (Or.inl ⟨by rfl, ?_⟩) ?_ ?_
  rotate_left
  · intro w'
    go_simp
    with_reducible rfl
  rotate_left
  · simp only [Act.put, List.setIfInBounds_toArray, List.set_cons_zero, List.set_cons_succ, i64_w, i32_w]
    rfl
  refine pure_ (i := 4) (N := some 11) (v := ?_) (a' := ?_) #[true, true, true, true, true, false, false, false, false, false, false, false, false, false, false, false, false, false] rfl rfl (by kernel_rfl) (fun _ _ _ h => h) (Or.inl ⟨by rfl, ?_⟩) ?_ ?_
  rotate_left
  · intro w'
    go_simp
    with_reducible rfl
  rotate_left
  · simp only [Act.put, List.setIfInBounds_toArray, List.set_cons_zero, List.set_cons_succ, i64_w, i32_w]
    rfl
  refine pure_ (i := 5) (N := some 12) (v := ?_) (a' := ?_) #[true, true, true, true, true, true, false, false, false, false, false, false, false, false, false, false, false, false] rfl rfl (by kernel_rfl) (fun _ _ _ h => h) (Or.inl ⟨by rfl, ?_⟩) ?_ ?_
  rotate_left
  · intro w'
    go_simp
    with_reducible rfl
  rotate_left
  · simp only [Act.put, List.setIfInBounds_toArray, List.set_cons_zero, List.set_cons_succ, i64_w, i32_w]
    rfl
  refine pure_ (i := 6) (N := some 13) (v := ?_) (a' := ?_) #[true, true, true, true, true, true, true, false, false, false, false, false, false, false, false, false, false, false] rfl rfl (by kernel_rfl) (fun _ _ _ h => h) (Or.inl ⟨by rfl, ?_⟩) ?_ ?_
  rotate_left
  · intro w'
    go_simp
    with_reducible rfl
  rotate_left
  · simp only [Act.put, List.setIfInBounds_toArray, List.set_cons_zero, List.set_cons_succ, i64_w, i32_w]
    rfl
  refine pure_ (i := 7) (N := some 14) (v := ?_) (a' := ?_) #[true, true, true, true, true, true, true, true, false, false, false, false, false, false, false, false, false, false] rfl rfl (by kernel_rfl) (fun _ _ _ h => h) (Or.inl ⟨by rfl, ?_⟩) ?_ ?_
  rotate_left
  · intro w'
    go_simp
    with_reducible rfl
  rotate_left
  · simp only [Act.put, List.setIfInBounds_toArray, List.set_cons_zero, List.set_cons_succ, i64_w, i32_w]
    rfl
  refine pure_ (i := 8) (N := some 15) (v := ?_) (a' := ?_) #[true, true, true, true, true, true, true, true, true, false, false, false, false, false, false, false, false, false] rfl rfl (by kernel_rfl) (fun _ _ _ h => h) (Or.inl ⟨by rfl, ?_⟩) ?_ ?_
  rotate_left
  · intro w'
    go_simp
    with_reducible rfl
  rotate_left
  · simp only [Act.put, List.setIfInBounds_toArray, List.set_cons_zero, List.set_cons_succ, i64_w, i32_w]
    rfl
  refine pure_ (i := 9) (N := some 16) (v := ?_) (a' := ?_) #[true, true, true, true, true, true, true, true, true, true, false, false, false, false, false, false, false, false] rfl rfl (by kernel_rfl) (fun _ _ _ h => h) (Or.inl ⟨by rfl, ?_⟩) ?_ ?_
  rotate_left
  · intro w'
    go_simp
    with_reducible rfl
  rotate_left
  · simp only [Act.put, List.setIfInBounds_toArray, List.set_cons_zero, List.set_cons_succ, i64_w, i32_w]
    rfl
  refine pure_ (i := 11) (N := some 18) (v := ?_) (a' := ?_) #[true, true, true, true, true, true, true, true, true, true, false, true, false, false, false, false, false, false] rfl rfl (by kernel_rfl) (fun _ _ _ h => h) (Or.inl ⟨by rfl, ?_⟩) ?_ ?_
  rotate_left
  · intro w'
    go_simp
    with_reducible rfl
  rotate_left
  · simp only [Act.put, List.setIfInBounds_toArray, List.set_cons_zero, List.set_cons_succ, i64_w, i32_w]
    rfl
  refine take_ (i := 10) (N := some 17) (v := ?_) (a' := ?_) #[true, true, true, true, true, true, true, true, true, true, true, true, false, false, false, false, false, false] rfl rfl (by kernel_rfl) (fun _ _ _ h => h) (Or.inl ⟨by rfl, ?_⟩) hHeld ?_ ?_
  rotate_left
  · rintro w' ⟨s0, s1, s2, s3⟩
    go_simp
    with_reducible rfl
  rotate_left
  · simp only [Act.put, List.setIfInBounds_toArray, List.set_cons_zero, List.set_cons_succ, i64_w, i32_w]
    rfl
  refine take_ (i := 12) (N := some 19) (v := ?_) (a' := ?_) #[true, true, true, true, true, true, true, true, true, true, true, true, true, false, false, false, false, false] rfl rfl (by kernel_rfl) (fun _ _ _ h => h) (Or.inl ⟨by rfl, ?_⟩) hHeld ?_ ?_
  rotate_left
  · rintro w' ⟨s0, s1, s2, s3⟩
    go_simp
    with_reducible rfl
  rotate_left
  · simp only [Act.put, List.setIfInBounds_toArray, List.set_cons_zero, List.set_cons_succ, i64_w, i32_w]
    rfl
  refine pure_ (i := 13) (N := some 20) (v := ?_) (a' := ?_) #[true, true, true, true, true, true, true, true, true, true, true, true, true, true, false, false, false, false] rfl rfl (by kernel_rfl) (fun _ _ _ h => h) (Or.inl ⟨by rfl, ?_⟩) ?_ ?_
  rotate_left
  · intro w'
    go_simp
    with_reducible rfl
  rotate_left
  · simp only [Act.put, List.setIfInBounds_toArray, List.set_cons_zero, List.set_cons_succ, i64_w, i32_w]
    rfl
  refine pure_ (i := 14) (N := some 21) (v := ?_) (a' := ?_) #[true, true, true, true, true, true, true, true, true, true, true, true, true, true, true, false, false, false] rfl rfl (by kernel_rfl) (fun _ _ _ h => h) (Or.inl ⟨by rfl, ?_⟩) ?_ ?_
  rotate_left
  · intro w'
    go_simp
    with_reducible rfl
  rotate_left
  · simp only [Act.put, List.setIfInBounds_toArray, List.set_cons_zero, List.set_cons_succ, i64_w, i32_w]
    rfl
  refine take_ (i := 15) (N := some 22) (v := ?_) (a' := ?_) #[true, true, true, true, true, true, true, true, true, true, true, true, true, true, true, true, false, false] rfl rfl (by kernel_rfl) (fun _ _ _ h => h) (Or.inl ⟨by rfl, ?_⟩) hHeld ?_ ?_
  rotate_left
  · rintro w' ⟨s0, s1, s2, s3⟩
    go_simp
    with_reducible rfl
  rotate_left
  · simp only [Act.put, List.setIfInBounds_toArray, List.set_cons_zero, List.set_cons_succ, i64_w, i32_w]
    rfl
  refine pure_ (i := 16) (N := some 23) (v := ?_) (a' := ?_) #[true, true, true, true, true, true, true, true, true, true, true, true, true, true, true, true, true, false] rfl rfl (by kernel_rfl) (fun _ _ _ h => h) (Or.inl ⟨by rfl, ?_⟩) ?_ ?_
  rotate_left
  · intro w'
    go_simp
    with_reducible rfl
  rotate_left
  · simp only [Act.put, List.setIfInBounds_toArray, List.set_cons_zero, List.set_cons_succ, i64_w, i32_w]
    rfl
  refine pure_ (i := 17) (N := some 24) (v := ?_) (a' := ?_) #[true, true, true, true, true, true, true, true, true, true, true, true, true, true, true, true, true, true] rfl rfl (by kernel_rfl) (fun _ _ _ h => h) (Or.inl ⟨by rfl, ?_⟩) ?_ ?_
  rotate_left
  · intro w'
    go_simp
    with_reducible rfl
  rotate_left
  · simp only [Act.put, List.setIfInBounds_toArray, List.set_cons_zero, List.set_cons_succ, i64_w, i32_w]
    rfl
  refine done_ (by kernel_rfl) ?_
  obtain ⟨y0, y1, q2', z2⟩ := hHeld
  have HA := Aside0.mk (H.out.below HB.out)
  have BB := Aside0.mk (blk_below HCB.out HB.out)
  have zf3 := blk_frozen BB.out (i * 4 + 3)
  have lb := blk_lt BB.out
  have hlt' := HA.out.lt
  have hbs := below_size HB.out
  have z3 := pw_cell_below HB.out e3
  clear q0 q1 q2 f1 f2 hlt e0 e1 e2 e3
  go_wp2
  go_region_law (fail)
  all_goals go_wp2
  all_goals go_ret
  all_goals have A2 := RV'.bput (rs := bs.map toR) HA.out i (mapR_get bs i hi) (by rw [List.length_map]) 3 (by decide) (.string s) (b' := toR ⟨(bk bs i).f0, (bk bs i).f1, s⟩) rfl
  all_goals exact ⟨rfl, (by first | exact RX.of' A2.1 (mapR_set bs i _) | exact RX.drew (RX.of' A2.1 (mapR_set bs i _))), (by first | exact (FR.of_below HB.out).trans A2.2 | exact FR.drew ((FR.of_below HB.out).trans A2.2))⟩
theorem r_put {W : World} {g : Nat} {cap lim : Int} {bs : List S77} (h : RX W g cap lim bs) (hg : Good bs) (i : Nat) (gen : Int) (hi2 : i ≤ 4294967295) (s : ByteArray) : Calls Try.prog 24 #[.pointer (some ⟨g, 0, none⟩), .agg #[.int .u32 (i : Int), .int .u32 gen], .string s] W fun e w' => e = .returned (.bool (putO bs i gen s)) ∧ RX w' g cap lim (putB bs i gen s) ∧ FR g W w' := by
  unfold putB putO
  cases hlb : livesB bs i gen
  · refine (rp_no h hg i gen hi2 s hlb).mono ?_
    rintro e w' ⟨rfl, hb⟩
    exact ⟨rfl, h.below hb, FR.of_below hb⟩
  · by_cases hs : (s.size : Int) ≤ (bk bs i).f1
    · refine (rp_yes h hg i gen hi2 s hlb _ rfl hs).mono ?_
      rintro e w' ⟨rfl, hA, hF⟩
      simp only [hs, decide_true, Bool.and_self, if_true]
      exact ⟨trivial, hA, hF⟩
    · refine (rp_big h hg i gen hi2 s hlb _ rfl (by omega)).mono ?_
      rintro e w' ⟨rfl, hb⟩
      simp only [hs, decide_false, Bool.and_false, Bool.false_eq_true, if_false]
      exact ⟨trivial, h.below hb, FR.of_below hb⟩
set_option maxHeartbeats 1000000 in
set_option maxRecDepth 100000 in
theorem rr_no {W : World} {g : Nat} {cap lim : Int} {bs : List S77} (h : RX W g cap lim bs) (hg : Good bs) (i : Nat) (gen : Int) (hi2 : i ≤ 4294967295) (hlb : livesB bs i gen = false) : Calls Try.prog 25 #[.pointer (some ⟨g, 0, none⟩), .agg #[.int .u32 (i : Int), .int .u32 gen]] W fun e w' => e = .returned (.bool false) ∧ Below W.heap.size W w' := by
  have HB := Aside0.mk (Below.refl W.heap.size W)
  obtain ⟨v, h⟩ := h
  have h5 := h.1
  obtain ⟨A, c, rfl⟩ := h.val
  have q0 := blk_cell h5 0
  have q1 := blk_cell h5 1
  have q2 := blk_cell h5 2
  have f1 := blk_frozen h5 1
  have f2 := blk_frozen h5 2
  have hlt := h.lt
  simp only [List.getElem?_toArray, List.getElem?_cons_zero, List.getElem?_cons_succ] at q0 q1 q2
  have hlen := hg.len
  have H := Aside0.mk h
  have HG := Aside0.mk hg
  have HLB := Aside0.mk hlb
  clear h h5 hg hlb
  go_enter Try.func25, Try.ntmps25
  go_wp2_with (first | (go_at_call 39; (with_reducible refine (rc_lives (RV.rx (H.out.below (by repeat (first | (with_reducible first | exact HB.out | apply below_alloc | apply pw_below_drewN | apply below_drew1) | exact HB.out)))) HG.out i gen hi2).mono ?_); rintro e w1 ⟨rfl, hb⟩; rw [HLB.out]; have B4 := Aside0.mk (blk_below (o := .cells #[.int .u32 (i : Int), .int .u32 gen] 54 (0, 0)) (g := W.heap.size) (by repeat (first | (with_reducible refine blk_drewN ?_ _) | (with_reducible refine blk_drew ?_) | exact blk_new' (by first | rfl | simp) | (with_reducible refine blk_alloc ?_ _))) hb); have n0_ := Aside0.mk (below_step (by repeat (first | (with_reducible first | exact HB.out | apply below_alloc | apply pw_below_drewN | apply below_drew1) | exact HB.out)) hb); clear HB; have HB := n0_; clear n0_; clear q0 q1 q2 f1 f2 hlt; have HA := Aside0.mk (H.out.below HB.out); have q0 := blk_cell HA.out.1 0; have q1 := blk_cell HA.out.1 1; have q2 := blk_cell HA.out.1 2; have f2 := blk_frozen HA.out.1 2; have hlt := HA.out.lt; have y0 := blk_cell B4.out 0; have y1 := blk_cell B4.out 1; have y4 := blk_lt B4.out; simp only [List.getElem?_toArray, List.getElem?_cons_zero, List.getElem?_cons_succ] at q0 q1 q2 y0 y1; clear hb))
  go_ret
  exact ⟨rfl, (by repeat (first | (with_reducible first | exact HB.out | apply below_alloc | apply pw_below_drewN | apply below_drew1) | exact HB.out))⟩
set_option maxHeartbeats 1000000 in
set_option maxRecDepth 100000 in
theorem rr_yes {W : World} {g : Nat} {cap lim : Int} {bs : List S77} (h : RX W g cap lim bs) (hg : Good bs) (i : Nat) (gen : Int) (hi2 : i ≤ 4294967295) (hlb : livesB bs i gen = true) (gen' : Int) (hgen' : IntKind.u32.wrap (gen + 1) = gen') : Calls Try.prog 25 #[.pointer (some ⟨g, 0, none⟩), .agg #[.int .u32 (i : Int), .int .u32 gen]] W fun e w' => e = .returned (.bool true) ∧ RX w' g cap lim (bs.set i ⟨gen', 0, ⟨#[]⟩⟩) ∧ FR g W w' := by
  obtain ⟨hi, hL⟩ : i < bs.length ∧ 0 < (bk bs i).f1 := by have := (lives_iff _ _ _).1 hlb; exact ⟨this.1, this.2.1⟩
  have hgn : (bk bs i).f0 = gen := ((lives_iff _ _ _).1 hlb).2.2
  have HB := Aside0.mk (Below.refl W.heap.size W)
  obtain ⟨v, h⟩ := h
  have h5 := h.1
  have q0 := blk_cell h5 0
  have q1 := blk_cell h5 1
  have q2 := blk_cell h5 2
  have f1 := blk_frozen h5 1
  have f2 := blk_frozen h5 2
  have hlt := h.lt
  simp only [List.getElem?_toArray, List.getElem?_cons_zero, List.getElem?_cons_succ] at q0 q1 q2
  have hlen := hg.len
  obtain ⟨gb, cb, hbv, hcc, hff, hne, hlt2, hge, csb, hcb⟩ := h.elem i hi
  have e0 := hcc 0 _ rfl
  have e1 := hcc 1 _ rfl
  have e2 := hcc 2 _ rfl
  have e3 := hcc 3 _ rfl
  rw [Nat.add_zero] at e0
  rw [hgn] at e0
  have hdb : decide (0 < (bk bs i).f1) = true := by simp; omega
  rw [hdb] at e1
  subst hbv
  have H := Aside0.mk h
  have HG := Aside0.mk hg
  have HLB := Aside0.mk hlb
  have HCB := Aside0.mk hcb
  have il : (i : Int) ≤ 4096 := by omega
  clear h h5 hg hlb hcc hff hcb hdb hgn hL
  go_enter Try.func25, Try.ntmps25
  go_wp2_with (first | (go_at_call 39; (with_reducible refine (rc_lives (RV.rx (H.out.below (by repeat (first | (with_reducible first | exact HB.out | apply below_alloc | apply pw_below_drewN | apply below_drew1) | exact HB.out)))) HG.out i gen hi2).mono ?_); rintro e w1 ⟨rfl, hb⟩; rw [HLB.out]; have B4 := Aside0.mk (blk_below (o := .cells #[.int .u32 (i : Int), .int .u32 gen] 54 (0, 0)) (g := W.heap.size) (by repeat (first | (with_reducible refine blk_drewN ?_ _) | (with_reducible refine blk_drew ?_) | exact blk_new' (by first | rfl | simp) | (with_reducible refine blk_alloc ?_ _))) hb); have n0_ := Aside0.mk (below_step (by repeat (first | (with_reducible first | exact HB.out | apply below_alloc | apply pw_below_drewN | apply below_drew1) | exact HB.out)) hb); clear HB; have HB := n0_; clear n0_; clear q0 q1 q2 f1 f2 hlt; have HA := Aside0.mk (H.out.below HB.out); have q0 := blk_cell HA.out.1 0; have q1 := blk_cell HA.out.1 1; have q2 := blk_cell HA.out.1 2; have f2 := blk_frozen HA.out.1 2; have hlt := HA.out.lt; have y0 := blk_cell B4.out 0; have y1 := blk_cell B4.out 1; have y4 := blk_lt B4.out; simp only [List.getElem?_toArray, List.getElem?_cons_zero, List.getElem?_cons_succ] at q0 q1 q2 y0 y1; have z0 := pw_cell_below HB.out e0; have z1 := pw_cell_below HB.out e1; have z2 := pw_cell_below HB.out e2; have z3 := pw_cell_below HB.out e3; have BB := Aside0.mk (blk_below HCB.out HB.out); have zf0 := blk_frozen BB.out (i * 4); have zf1 := blk_frozen BB.out (i * 4 + 1); have zf2 := blk_frozen BB.out (i * 4 + 2); have zf3 := blk_frozen BB.out (i * 4 + 3); have lb := blk_lt BB.out; have x1 : W.heap.size ≠ g := blk_ne B4.out HA.out.1 (by decide); have x2 : W.heap.size ≠ gb := blk_ne B4.out BB.out (by decide); have x3 : gb ≠ g := blk_ne BB.out HA.out.1 (by decide); have x4 : g ≠ gb := (fun e => x3 e.symm); have x5 : g ≠ W.heap.size := (fun e => x1 e.symm); have x6 : gb ≠ W.heap.size := (fun e => x2 e.symm); clear e0 e1 e2 e3; clear hb))
  go_region_law (fail)
  all_goals go_wp2
  all_goals go_ret
  all_goals have A2 := RV'.bput (rs := bs.map toR) HA.out i (mapR_get bs i hi) (gb := gb) (cb := cb) (by rw [List.length_map]) 0 (by decide) (.int .u32 gen') (b' := ⟨gen', decide (0 < (bk bs i).f1), (bk bs i).f1, (bk bs i).f2⟩) rfl
  all_goals have A3 := RV'.bput A2.1 i (b := ⟨gen', decide (0 < (bk bs i).f1), (bk bs i).f1, (bk bs i).f2⟩) (by simp [hi]) (gb := gb) (cb := cb) (by rw [List.length_set, List.length_map]) 1 (by decide) (.bool false) (b' := ⟨gen', false, (bk bs i).f1, (bk bs i).f2⟩) rfl
  all_goals have A4 := RV'.bput A3.1 i (b := ⟨gen', false, (bk bs i).f1, (bk bs i).f2⟩) (by simp [hi]) (gb := gb) (cb := cb) (by rw [List.length_set, List.length_set, List.length_map]) 2 (by decide) (.int .i64 0) (b' := ⟨gen', false, 0, (bk bs i).f2⟩) rfl
  all_goals have A5 := RV'.bput A4.1 i (b := ⟨gen', false, 0, (bk bs i).f2⟩) (by simp [hi]) (gb := gb) (cb := cb) (by rw [List.length_set, List.length_set, List.length_set, List.length_map]) 3 (by decide) (.string ⟨#[]⟩) (b' := ⟨gen', false, 0, ⟨#[]⟩⟩) rfl
  all_goals simp only [Nat.add_zero] at A2 A3 A4 A5
  all_goals have A6 := RX.of' A5.1 (by rw [List.set_set, List.set_set, List.set_set]; exact mapR_set bs i ⟨gen', 0, ⟨#[]⟩⟩)
  all_goals have F6 := ((((FR.of_below HB.out).trans A2.2).trans A3.2).trans A4.2).trans A5.2
  all_goals exact ⟨rfl, (by first | exact A6 | exact A6.drew), (by first | exact F6 | exact F6.drew)⟩
theorem r_free {W : World} {g : Nat} {cap lim : Int} {bs : List S77} (h : RX W g cap lim bs) (hg : Good bs) (i : Nat) (gen : Int) (hi2 : i ≤ 4294967295) : Calls Try.prog 25 #[.pointer (some ⟨g, 0, none⟩), .agg #[.int .u32 (i : Int), .int .u32 gen]] W fun e w' => e = .returned (.bool (livesB bs i gen)) ∧ RX w' g cap lim (freeB bs i gen) ∧ FR g W w' := by
  unfold freeB
  cases hlb : livesB bs i gen
  · refine (rr_no h hg i gen hi2 hlb).mono ?_
    rintro e w' ⟨rfl, hb⟩
    exact ⟨rfl, h.below hb, FR.of_below hb⟩
  · rw [if_pos rfl]
    exact rr_yes h hg i gen hi2 hlb _ rfl
end Go.Proofs.Ytdnpfnoobjbanaa.Hand
