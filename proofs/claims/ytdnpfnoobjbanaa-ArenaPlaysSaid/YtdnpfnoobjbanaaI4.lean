/- The reference's arena: Alloc. -/
import Derived.Test.YtdnpfnoobjbanaaI3
set_option linter.unusedVariables false
set_option linter.unusedSimpArgs false
namespace Go.Proofs.Ytdnpfnoobjbanaa.Hand
open Go.RowKit Go.Proofs.Ytdnpfnoobjbanaa.PArenaPlays Go.Proofs.YtdnpfnoobjbanaaW.PrintWords Go.Proofs.YtdnpfnoobjbanaaW.PrintLast Go.Proofs.YtdnpfnoobjbanaaW.PrintMore
theorem infoBlkR : (Try.prog.info? 82).map (fun i => (i.zero, i.size, i.bytes)) = some (some (.agg #[.int .u32 0, .bool false, .int .i64 0, .string ⟨#[]⟩]), 4, 32) := by kernel_rfl
theorem toR_new (f : Int) (n : Int) (s : ByteArray) (h : 0 < n) : (⟨f, true, n, s⟩ : S82) = toR ⟨f, n, s⟩ := by simp [toR, h]
theorem lo_succ {P : Nat → Prop} {k : Nat} (h : ∀ j, j < k → P j) (hk : P k) : ∀ j, j < k + 1 → P j := by
  intro j hj
  rcases Nat.lt_or_ge j k with h1 | h1
  · exact h j h1
  · obtain rfl : j = k := by omega
    exact hk
/-- What Alloc comes to, by the first slot that is free. -/
theorem alloc_eval {lim : Int} {bs : List S77} (n k : Nat) (hf : fit (n : Int) = true) (hb : ¬ lim < sumOf bs + rnd (n : Int)) (hlen : bs.length ≤ 4096) (hk : k ≤ bs.length) (hlo : ∀ j, j < k → 0 < (bk bs j).f1) (hat : k = bs.length ∨ (bk bs k).f1 ≤ 0) :
    allocE lim bs n = (if k = 4096 then (0, 0, 11) else if k = bs.length then ((k : Int), 1, 0) else ((k : Int), (bk bs k).f0, 0)) ∧
    ∀ s : ByteArray, s.size = n → allocB lim bs s = (if k = 4096 then bs else if k = bs.length then bs ++ [⟨1, rnd (n : Int), s⟩] else bs.set k ⟨(bk bs k).f0, rnd (n : Int), s⟩) := by
  have hn1 : ¬ (true = false) := by simp
  have key : (freeOf bs = [] ∧ k = bs.length) ∨ (∃ r, freeOf bs = (k : Int) :: r) ∧ k < bs.length := by
    cases hq : freeOf bs with
    | nil =>
      left
      refine ⟨rfl, ?_⟩
      rcases hat with h | h
      · exact h
      · rcases Nat.lt_or_ge k bs.length with h2 | h2
        · have := free_nil hq k h2; omega
        · omega
    | cons i r =>
      right
      obtain ⟨m, rfl, hm, hz, hl, _⟩ := free_head hq
      have hkm : k = m := by
        rcases Nat.lt_trichotomy k m with h2 | h2 | h2
        · have := hl k h2
          rcases hat with h | h <;> omega
        · exact h2
        · have := hlo m h2; omega
      subst hkm
      exact ⟨⟨r, rfl⟩, hm⟩
  constructor
  · unfold allocE
    rw [hf, if_neg hn1, if_neg hb]
    rcases key with ⟨h1, h2⟩ | ⟨⟨r, h1⟩, h2⟩
    · rw [h1]
      simp only [← h2]
      split <;> rfl
    · rw [h1]
      simp only [Int.toNat_natCast]
      rw [if_neg (by omega), if_neg (by omega)]
  · intro s hs
    unfold allocB
    rw [hs, hf, if_neg hn1, if_neg hb]
    rcases key with ⟨h1, h2⟩ | ⟨⟨r, h1⟩, h2⟩
    · rw [h1]
      simp only [← h2]
      split <;> rfl
    · rw [h1]
      simp only [Int.toNat_natCast]
      rw [if_neg (by omega), if_neg (by omega)]
theorem RV'.elem {W : World} {g : Nat} {cap lim : Int} {gb n cb : Nat} {rs : List S82} (h : RV' W g cap lim (.slice (some ⟨gb, 0, none⟩) n cb) rs) (i : Nat) (hi : i < n) (b : S82) (hb : rs[i]? = some b) : (∀ j u, (cellsS b)[j]? = some u → W.cell? ⟨gb, i * 4 + j, none⟩ = some u) ∧ ∃ cs, W.heap[gb]? = some (.cells cs 82 (0, 0)) := by
  obtain ⟨c, hc, hM, hcc, hff⟩ := Kd.R_elem h.2 b (i : Int) (by omega) (by omega)
  rw [Int.toNat_natCast, show rs.getD i b = b by simp [hb]] at hM
  rw [Int.toNat_natCast] at hcc
  obtain rfl := k82_openM hM
  obtain ⟨inner, ho⟩ := Kd.R_own h.2
  obtain ⟨cells, hcl⟩ := own_typed ho gb rfl
  exact ⟨hcc, cells, hcl⟩
theorem bel_drewN (W : World) (n : Nat) : Below W.heap.size W (W.drewN n) := pw_below_drewN (Below.refl _ _) n
theorem RX.drewN {W : World} {g : Nat} {cap lim : Int} {bs : List S77} (h : RX W g cap lim bs) (n : Nat) : RX (W.drewN n) g cap lim bs := h.below (bel_drewN W n)
theorem FR.drewN {g : Nat} {W W1 : World} (h : FR g W W1) (n : Nat) : FR g W (W1.drewN n) := h.trans (FR.of_below (bel_drewN W1 n))
theorem RX.otherR {W : World} {g : Nat} {cap lim : Int} {bs : List S77} {b : Nat} {cs : Array Value} (h : RX W g cap lim bs) (hb : W.heap[b]? = some (.cells cs 54 (0, 0))) (j : Nat) (u : Value) : RX (W.setCell ⟨b, j, none⟩ u) g cap lim bs := h.other hb (by unfold RT; decide) j u
set_option maxHeartbeats 2000000 in
set_option maxRecDepth 100000 in
theorem ra_arg {W : World} {g : Nat} {cap lim : Int} {bs : List S77} (h : RX W g cap lim bs) (hg : Good bs) (s : ByteArray) (n : Int) (ft : Bool) (hr : rnd (s.size : Int) = n) (hft : fit (s.size : Int) = ft) (hf : ft = false) : Calls Try.prog 22 #[.pointer (some ⟨g, 0, none⟩), .string s] W fun e w' => e = .returned (.tuple #[.agg #[.int .u32 0, .int .u32 0], .int .i64 1]) ∧ Below W.heap.size W w' := by
  have hS := hg.sum
  have HR := Aside0.mk hr
  have HFT := Aside0.mk hft
  clear hr hft
  have HB := Aside0.mk (Below.refl W.heap.size W)
  obtain ⟨v, h⟩ := h
  have h5 := h.1
  obtain ⟨A, c, rfl⟩ := h.val
  have q0 := blk_cell h5 0
  have q1 := blk_cell h5 1
  have q2 := blk_cell h5 2
  have f1 := blk_frozen h5 1
  have f2 := blk_frozen h5 2
  have hlt := h.lt
  simp only [List.getElem?_toArray, List.getElem?_cons_zero, List.getElem?_cons_succ] at q0 q1 q2
  have hlen := hg.len
  have H := Aside0.mk h
  have HG := Aside0.mk hg
  clear h h5 hg
  subst hf
  go_enter Try.func22, Try.ntmps22
  go_wp2_with (first | (go_at_call 38; (with_reducible refine (rround_c _ _).mono ?_); rintro e w1 ⟨rfl, hb⟩; rw [HR.out, HFT.out]; have B4 := Aside0.mk (blk_below (o := .cells #[.int .u32 0, .int .u32 0] 54 (0, 0)) (g := W.heap.size) (by repeat (first | (with_reducible refine blk_drewN ?_ _) | (with_reducible refine blk_drew ?_) | exact blk_new' (by first | rfl | simp) | (with_reducible refine blk_alloc ?_ _))) hb); have n0_ := Aside0.mk (below_step (by repeat (first | (with_reducible first | exact HB.out | apply below_alloc | apply pw_below_drewN | apply below_drew1) | exact HB.out)) hb); clear HB; have HB := n0_; clear n0_; clear q0 q1 q2 f1 f2 hlt; have HA := Aside0.mk (H.out.below HB.out); have q0 := blk_cell HA.out.1 0; have q1 := blk_cell HA.out.1 1; have q2 := blk_cell HA.out.1 2; have f2 := blk_frozen HA.out.1 2; have hlt := HA.out.lt; have y0 := blk_cell B4.out 0; have y1 := blk_cell B4.out 1; have yf0 := blk_frozen B4.out 0; have yf1 := blk_frozen B4.out 1; have y4 := blk_lt B4.out; simp only [List.getElem?_toArray, List.getElem?_cons_zero, List.getElem?_cons_succ] at q0 q1 q2 y0 y1; clear hb))
  have b6 := blk_set B4.out 0 (.int .u32 0)
  have b7 := blk_set b6 1 (.int .u32 0)
  have yr0 := blk_cell b6 0
  have yr1 := blk_cell b7 1
  have yr2 := blk_cell b7 0
  simp at yr0 yr1 yr2
  exact bodyPost_ret (v := .tuple #[.agg #[.int .u32 0, .int .u32 0], .int .i64 1]) (by simp [results, Try.results22, go_sem, yr0, yr1, yr2]) rfl ⟨rfl, (show Below W.heap.size W _ by repeat (first | (with_reducible first | exact HB.out | apply below_alloc | apply pw_below_drewN | apply below_drew1 | apply below_drew) | (refine below_set ?_ (Nat.le_refl W.heap.size)) | exact HB.out))⟩
set_option maxHeartbeats 2000000 in
set_option maxRecDepth 100000 in
theorem ra_budget {W : World} {g : Nat} {cap lim : Int} {bs : List S77} (h : RX W g cap lim bs) (hg : Good bs) (s : ByteArray) (n : Int) (ft : Bool) (hr : rnd (s.size : Int) = n) (hft : fit (s.size : Int) = ft) (hf : ft = true) (hn0 : 0 ≤ n) (hn1 : n ≤ 1024) (hb : lim < sumOf bs + n) : Calls Try.prog 22 #[.pointer (some ⟨g, 0, none⟩), .string s] W fun e w' => e = .returned (.tuple #[.agg #[.int .u32 0, .int .u32 0], .int .i64 9]) ∧ Below W.heap.size W w' := by
  have hS := hg.sum
  have HR := Aside0.mk hr
  have HFT := Aside0.mk hft
  clear hr hft
  have HB := Aside0.mk (Below.refl W.heap.size W)
  obtain ⟨v, h⟩ := h
  have h5 := h.1
  obtain ⟨A, c, rfl⟩ := h.val
  have q0 := blk_cell h5 0
  have q1 := blk_cell h5 1
  have q2 := blk_cell h5 2
  have f1 := blk_frozen h5 1
  have f2 := blk_frozen h5 2
  have hlt := h.lt
  simp only [List.getElem?_toArray, List.getElem?_cons_zero, List.getElem?_cons_succ] at q0 q1 q2
  have hlen := hg.len
  have H := Aside0.mk h
  have HG := Aside0.mk hg
  clear h h5 hg
  subst hf
  have z1 : decide (lim < sumOf bs + n) = true := by simp; omega
  have hwr : IntKind.i64.wrap (sumOf bs + n) = sumOf bs + n := IntWalk.i64_in _ (by omega)
  go_enter Try.func22, Try.ntmps22
  go_wp2_with (first | (go_at_call 38; (with_reducible refine (rround_c _ _).mono ?_); rintro e w1 ⟨rfl, hb⟩; rw [HR.out, HFT.out]; have B4 := Aside0.mk (blk_below (o := .cells #[.int .u32 0, .int .u32 0] 54 (0, 0)) (g := W.heap.size) (by repeat (first | (with_reducible refine blk_drewN ?_ _) | (with_reducible refine blk_drew ?_) | exact blk_new' (by first | rfl | simp) | (with_reducible refine blk_alloc ?_ _))) hb); have n0_ := Aside0.mk (below_step (by repeat (first | (with_reducible first | exact HB.out | apply below_alloc | apply pw_below_drewN | apply below_drew1) | exact HB.out)) hb); clear HB; have HB := n0_; clear n0_; clear q0 q1 q2 f1 f2 hlt; have HA := Aside0.mk (H.out.below HB.out); have q0 := blk_cell HA.out.1 0; have q1 := blk_cell HA.out.1 1; have q2 := blk_cell HA.out.1 2; have f2 := blk_frozen HA.out.1 2; have hlt := HA.out.lt; have y0 := blk_cell B4.out 0; have y1 := blk_cell B4.out 1; have yf0 := blk_frozen B4.out 0; have yf1 := blk_frozen B4.out 1; have y4 := blk_lt B4.out; simp only [List.getElem?_toArray, List.getElem?_cons_zero, List.getElem?_cons_succ] at q0 q1 q2 y0 y1; clear hb))
  go_quiet ((go_at_call 30; exact (Calls.mono (rc_charged (RV.rx (HA.out.below (by repeat (first | (with_reducible first | exact Below.refl _ _ | apply pw_below_drewN | apply below_drew1 | apply below_drew) | exact Below.refl _ _)))) HG.out) (by rintro e w8 ⟨rfl, rfl⟩; first | exact ⟨rfl, 0, rfl⟩ | exact ⟨rfl, _, rfl⟩))))
  go_wp2
  have b6 := blk_set (blk_drewN B4.out nq) 0 (.int .u32 0)
  have b7 := blk_set b6 1 (.int .u32 0)
  have yr0 := blk_cell b6 0
  have yr1 := blk_cell b7 1
  have yr2 := blk_cell b7 0
  simp at yr0 yr1 yr2
  exact bodyPost_ret (v := .tuple #[.agg #[.int .u32 0, .int .u32 0], .int .i64 9]) (by simp [results, Try.results22, go_sem, yr0, yr1, yr2]) rfl ⟨rfl, (show Below W.heap.size W _ by repeat (first | (with_reducible first | exact HB.out | apply below_alloc | apply pw_below_drewN | apply below_drew1 | apply below_drew) | (refine below_set ?_ (Nat.le_refl W.heap.size)) | exact HB.out))⟩
/-- What a fitting Alloc comes to. -/
def AOk (W : World) (g : Nat) (cap lim : Int) (bs : List S77) (s : ByteArray) (n : Int) (e : Ending) (w' : World) : Prop := ∃ k : Nat, k ≤ bs.length ∧ (∀ j, j < k → 0 < (bk bs j).f1) ∧ ((k = 4096 ∧ bs.length = 4096 ∧ e = .returned (.tuple #[.agg #[.int .u32 0, .int .u32 0], .int .i64 11]) ∧ RX w' g cap lim bs ∧ FR g W w') ∨ (k < 4096 ∧ k = bs.length ∧ e = .returned (.tuple #[.agg #[.int .u32 (k : Int), .int .u32 1], .int .i64 0]) ∧ RX w' g cap lim (bs ++ [⟨1, n, s⟩]) ∧ FR g W w') ∨ (k < bs.length ∧ (bk bs k).f1 ≤ 0 ∧ e = .returned (.tuple #[.agg #[.int .u32 (k : Int), .int .u32 (bk bs k).f0], .int .i64 0]) ∧ RX w' g cap lim (bs.set k ⟨(bk bs k).f0, n, s⟩) ∧ FR g W w'))
set_option maxHeartbeats 2000000 in
set_option maxRecDepth 100000 in
theorem ra_ok {W : World} {g : Nat} {cap lim : Int} {bs : List S77} (h : RX W g cap lim bs) (hg : Good bs) (s : ByteArray) (n : Int) (ft : Bool) (hr : rnd (s.size : Int) = n) (hft : fit (s.size : Int) = ft) (hf : ft = true) (hn00 : 0 < n) (hn0 : 0 ≤ n) (hn1 : n ≤ 1024) (hb : sumOf bs + n ≤ lim) : Calls Try.prog 22 #[.pointer (some ⟨g, 0, none⟩), .string s] W fun e w' => AOk W g cap lim bs s n e w' := by
  have hS := hg.sum
  have HR := Aside0.mk hr
  have HFT := Aside0.mk hft
  clear hr hft
  have HB := Aside0.mk (Below.refl W.heap.size W)
  obtain ⟨v, h⟩ := h
  have h5 := h.1
  obtain ⟨A, c, rfl⟩ := h.val
  have q0 := blk_cell h5 0
  have q1 := blk_cell h5 1
  have q2 := blk_cell h5 2
  have f1 := blk_frozen h5 1
  have f2 := blk_frozen h5 2
  have hlt := h.lt
  simp only [List.getElem?_toArray, List.getElem?_cons_zero, List.getElem?_cons_succ] at q0 q1 q2
  have hlen := hg.len
  have H := Aside0.mk h
  have HG := Aside0.mk hg
  clear h h5 hg
  subst hf
  have z1 : decide (lim < sumOf bs + n) = false := by simp; omega
  have hwr : IntKind.i64.wrap (sumOf bs + n) = sumOf bs + n := IntWalk.i64_in _ (by omega)
  go_enter Try.func22, Try.ntmps22
  go_wp2_with (first | (go_at_call 38; (with_reducible refine (rround_c _ _).mono ?_); rintro e w1 ⟨rfl, hb⟩; rw [HR.out, HFT.out]; have B4 := Aside0.mk (blk_below (o := .cells #[.int .u32 0, .int .u32 0] 54 (0, 0)) (g := W.heap.size) (by repeat (first | (with_reducible refine blk_drewN ?_ _) | (with_reducible refine blk_drew ?_) | exact blk_new' (by first | rfl | simp) | (with_reducible refine blk_alloc ?_ _))) hb); have n0_ := Aside0.mk (below_step (by repeat (first | (with_reducible first | exact HB.out | apply below_alloc | apply pw_below_drewN | apply below_drew1) | exact HB.out)) hb); clear HB; have HB := n0_; clear n0_; clear q0 q1 q2 f1 f2 hlt; have HA := Aside0.mk (H.out.below HB.out); have q0 := blk_cell HA.out.1 0; have q1 := blk_cell HA.out.1 1; have q2 := blk_cell HA.out.1 2; have f2 := blk_frozen HA.out.1 2; have hlt := HA.out.lt; have y0 := blk_cell B4.out 0; have y1 := blk_cell B4.out 1; have yf0 := blk_frozen B4.out 0; have yf1 := blk_frozen B4.out 1; have y4 := blk_lt B4.out; simp only [List.getElem?_toArray, List.getElem?_cons_zero, List.getElem?_cons_succ] at q0 q1 q2 y0 y1; clear hb))
  go_quiet ((go_at_call 30; exact (Calls.mono (rc_charged (RV.rx (HA.out.below (by repeat (first | (with_reducible first | exact Below.refl _ _ | apply pw_below_drewN | apply below_drew1 | apply below_drew) | exact Below.refl _ _)))) HG.out) (by rintro e w8 ⟨rfl, rfl⟩; first | exact ⟨rfl, 0, rfl⟩ | exact ⟨rfl, _, rfl⟩))))
  clear hwr
  go_wp2
  have HBq := Aside0.mk (show Below W.heap.size W _ from HB.out)
  have HAq := HA
  clear HBq
  go_loop [8] (fun v => ∃ k : Nat, v = .int .i64 k ∧ k ≤ bs.length ∧ Aside0 (∀ j, j < k → 0 < (bk bs j).f1)) (fun v => bs.length - (intOf v).toNat)
  case atStart => exact ⟨0, rfl, Nat.zero_le _, ⟨fun j hj => by omega⟩⟩
  case round =>
    obtain ⟨k, rfl, hk, HLO⟩ := hrel
    by_cases hkl : k < bs.length
    · obtain ⟨gb, cb, hbv, hcc, hff, hne, hlt2, hge, csb, hcb⟩ := HAq.out.elem k hkl
      injection hbv with z1_ z2_ z3_
      subst z1_ z3_
      clear z2_
      have HE := Aside0.mk hcc
      have HCB := Aside0.mk hcb
      have e1 := hcc 1 _ rfl
      clear hcc hff hcb
      by_cases hb : 0 < (bk bs k).f1
      · have hdb : decide (0 < (bk bs k).f1) = true := by simp; omega
        go_wp2
        all_goals go_round
        all_goals (try (case rel => exact ⟨k + 1, by go_num, by omega, ⟨lo_succ HLO.out hb⟩⟩))
        all_goals (try (case measure => (simp [intOf] <;> omega)))
      · have hdb : decide (0 < (bk bs k).f1) = false := by simp; omega
        have hk4 : ((k : Int) == 4096) = false := by simp; omega
        have hkn : (k == bs.length) = false := by simp; omega
        have hki : ((k : Int) == (bs.length : Int)) = false := by simp; omega
        go_upto_region 13 with fail
        generalize hWX : w1.drewN nq = WX
        have HX := Aside0.mk (show RV' WX g cap lim (.slice (some ⟨gb, 0, none⟩) bs.length c) (bs.map toR) from hWX ▸ HAq.out.below (bel_drewN w1 nq))
        have BX4 := Aside0.mk (show WX.heap[W.heap.size]? = some (.cells #[.int .u32 0, .int .u32 0] 54 (0, 0)) from hWX ▸ blk_drewN B4.out nq)
        have FX := Aside0.mk (show FR g W WX from hWX ▸ FR.drewN (FR.of_below HB.out) nq)
        have HRK := Aside0.mk (show (bs.map toR)[k]? = some (⟨(bk bs k).f0, decide (0 < (bk bs k).f1), (bk bs k).f1, (bk bs k).f2⟩ : S82) from mapR_get bs k hkl)
        have HLN := Aside0.mk (show (bs.map toR).length = bs.length from List.length_map _)
        have HKL := Aside0.mk hkl
        have HBS := Aside0.mk (show (bs.map toR).set k ⟨(bk bs k).f0, true, n, s⟩ = (bs.set k ⟨(bk bs k).f0, n, s⟩).map toR by rw [← mapR_set, toR_new _ _ _ hn00])
        clear hWX HB HA HAq B4 q0 q1 q2 f2 hlt y0 y1 yf0 yf1 y4 e1 HE HCB
        have ⟨HE_, HCB_⟩ := HX.out.elem k HKL.out _ HRK.out
        obtain ⟨csb, hcb⟩ := HCB_
        have HCB := Aside0.mk hcb
        have e0 := HE_ 0 _ rfl
        have e1 := HE_ 1 _ rfl
        have e2 := HE_ 2 _ rfl
        have e3 := HE_ 3 _ rfl
        clear HE_ hcb
        rw [Nat.add_zero] at e0
        have q2 := blk_cell HX.out.1 2
        have hlt := blk_lt HX.out.1
        have zf0 := blk_frozen HCB.out (k * 4)
        have zf1 := blk_frozen HCB.out (k * 4 + 1)
        have zf2 := blk_frozen HCB.out (k * 4 + 2)
        have zf3 := blk_frozen HCB.out (k * 4 + 3)
        have lb := blk_lt HCB.out
        have x1 : W.heap.size ≠ g := blk_ne BX4.out HX.out.1 (by decide)
        have x2 : W.heap.size ≠ gb := blk_ne BX4.out HCB.out (by decide)
        have x3 : gb ≠ g := blk_ne HCB.out HX.out.1 (by decide)
        have x4 : g ≠ gb := fun e => x3 e.symm
        have x5 : g ≠ W.heap.size := fun e => x1 e.symm
        have x6 : gb ≠ W.heap.size := fun e => x2 e.symm
        have y0 := blk_cell BX4.out 0
        have y1 := blk_cell BX4.out 1
        have yf0 := blk_frozen BX4.out 0
        have yf1 := blk_frozen BX4.out 1
        have y4 := blk_lt BX4.out
        simp only [List.getElem?_toArray, List.getElem?_cons_zero, List.getElem?_cons_succ] at q2 y0 y1
        have hkl0 := HKL.out
        rw [← HLN.out] at hkl0
        have A2 := RV'.bput HX.out k HRK.out (gb := gb) (cb := c) (by rw [HLN.out]) 0 (by decide) (.int .u32 (bk bs k).f0) (b' := ⟨(bk bs k).f0, (⟨(bk bs k).f0, decide (0 < (bk bs k).f1), (bk bs k).f1, (bk bs k).f2⟩ : S82).f1, (⟨(bk bs k).f0, decide (0 < (bk bs k).f1), (bk bs k).f1, (bk bs k).f2⟩ : S82).f2, (⟨(bk bs k).f0, decide (0 < (bk bs k).f1), (bk bs k).f1, (bk bs k).f2⟩ : S82).f3⟩) rfl
        have A3 := RV'.bput A2.1 k (b := ⟨(bk bs k).f0, (⟨(bk bs k).f0, decide (0 < (bk bs k).f1), (bk bs k).f1, (bk bs k).f2⟩ : S82).f1, (⟨(bk bs k).f0, decide (0 < (bk bs k).f1), (bk bs k).f1, (bk bs k).f2⟩ : S82).f2, (⟨(bk bs k).f0, decide (0 < (bk bs k).f1), (bk bs k).f1, (bk bs k).f2⟩ : S82).f3⟩) (by rw [List.getElem?_set_self hkl0]) (gb := gb) (cb := c) (by rw [List.length_set, HLN.out]) 1 (by decide) (.bool true) (b' := ⟨(bk bs k).f0, true, (⟨(bk bs k).f0, decide (0 < (bk bs k).f1), (bk bs k).f1, (bk bs k).f2⟩ : S82).f2, (⟨(bk bs k).f0, decide (0 < (bk bs k).f1), (bk bs k).f1, (bk bs k).f2⟩ : S82).f3⟩) rfl
        have A4 := RV'.bput A3.1 k (b := ⟨(bk bs k).f0, true, (⟨(bk bs k).f0, decide (0 < (bk bs k).f1), (bk bs k).f1, (bk bs k).f2⟩ : S82).f2, (⟨(bk bs k).f0, decide (0 < (bk bs k).f1), (bk bs k).f1, (bk bs k).f2⟩ : S82).f3⟩) (by rw [List.getElem?_set_self (by rw [List.length_set]; exact hkl0)]) (gb := gb) (cb := c) (by rw [List.length_set, List.length_set, HLN.out]) 2 (by decide) (.int .i64 n) (b' := ⟨(bk bs k).f0, true, n, (⟨(bk bs k).f0, decide (0 < (bk bs k).f1), (bk bs k).f1, (bk bs k).f2⟩ : S82).f3⟩) rfl
        have A5 := RV'.bput A4.1 k (b := ⟨(bk bs k).f0, true, n, (⟨(bk bs k).f0, decide (0 < (bk bs k).f1), (bk bs k).f1, (bk bs k).f2⟩ : S82).f3⟩) (by rw [List.getElem?_set_self (by rw [List.length_set, List.length_set]; exact hkl0)]) (gb := gb) (cb := c) (by rw [List.length_set, List.length_set, List.length_set, HLN.out]) 3 (by decide) (.string s) (b' := ⟨(bk bs k).f0, true, n, s⟩) rfl
        simp only [Nat.add_zero] at A2 A3 A4 A5
        have F5 := (((FX.out.trans A2.2).trans A3.2).trans A4.2).trans A5.2
        have R5 := RX.of' A5.1 (bs := bs.set k ⟨(bk bs k).f0, n, s⟩) (by rw [List.set_set, List.set_set, List.set_set]; exact HBS.out)
        have b5 := blk_far (p := ⟨gb, k * 4 + 3, none⟩) (blk_far (p := ⟨gb, k * 4 + 2, none⟩) (blk_far (p := ⟨gb, k * 4 + 1, none⟩) (blk_far (p := ⟨gb, k * 4, none⟩) BX4.out x2 (.int .u32 (bk bs k).f0)) x2 (.bool true)) x2 (.int .i64 n)) x2 (.string s)
        have b6 := blk_set b5 0 (.int .u32 (k : Int))
        have b7 := blk_set b6 1 (.int .u32 (bk bs k).f0)
        have yr0 := blk_cell b6 0
        have yr1 := blk_cell b7 1
        have yr2 := blk_cell b7 0
        simp at yr0 yr1 yr2
        have R7 := (R5.otherR b5 0 (.int .u32 (k : Int))).otherR b6 1 (.int .u32 (bk bs k).f0)
        have F7 := (F5.setNew (Nat.le_refl _) 0 (.int .u32 (k : Int))).setNew (Nat.le_refl _) 1 (.int .u32 (bk bs k).f0)
        have HR7 := Aside0.mk R7
        have HF7 := Aside0.mk F7
        have Hy0 := Aside0.mk yr0
        have Hy1 := Aside0.mk yr1
        have Hy2 := Aside0.mk yr2
        clear A2 A3 A4 A5 F5 R5 b5 b6 b7 yr0 yr1 yr2 R7 F7 hkl0
        go_region_law (fail)
        all_goals go_wp2
        all_goals have yr0 := Hy0.out
        all_goals have yr1 := Hy1.out
        all_goals have yr2 := Hy2.out
        all_goals exact bodyPost_ret (v := .tuple #[.agg #[.int .u32 (k : Int), .int .u32 (bk bs k).f0], .int .i64 0]) (by simp [results, Try.results22, go_sem, yr0, yr1, yr2]) rfl (⟨k, hk, HLO.out, Or.inr (Or.inr ⟨hkl, by omega, rfl, (by first | with_reducible exact HR7.out | with_reducible exact RX.drew HR7.out | with_reducible exact RX.drewN HR7.out _), (by first | with_reducible exact HF7.out | with_reducible exact FR.drew HF7.out | with_reducible exact FR.drewN HF7.out _)⟩)⟩)
    · have hke : k = bs.length := by omega
      have hHd := HAq.out.below (bel_drewN w1 nq)
      have HAd := Aside0.mk hHd
      clear hHd
      by_cases hfull : bs.length = 4096
      · subst hke
        have hk4 : ((bs.length : Int) == 4096) = true := by simp; omega
        go_wp2
        have b6 := blk_set (blk_drewN B4.out nq) 0 (.int .u32 0)
        have b7 := blk_set b6 1 (.int .u32 0)
        have yr0 := blk_cell b6 0
        have yr1 := blk_cell b7 1
        have yr2 := blk_cell b7 0
        simp at yr0 yr1 yr2
        have R7 := Aside0.mk (((RV.rx HAd.out).otherR (blk_drewN B4.out nq) 0 (.int .u32 0)).otherR b6 1 (.int .u32 0))
        have F7 := Aside0.mk (((FR.drewN (FR.of_below (g := g) HB.out) nq).setNew (Nat.le_refl _) 0 (.int .u32 0)).setNew (Nat.le_refl _) 1 (.int .u32 0))
        exact bodyPost_ret (v := .tuple #[.agg #[.int .u32 0, .int .u32 0], .int .i64 11]) (by simp [results, Try.results22, go_sem, yr0, yr1, yr2]) rfl ⟨bs.length, hk, HLO.out, Or.inl ⟨hfull, hfull, rfl, (by first | with_reducible exact R7.out | with_reducible exact RX.drew R7.out | with_reducible exact RX.drewN R7.out _), (by first | with_reducible exact F7.out | with_reducible exact FR.drew F7.out | with_reducible exact FR.drewN F7.out _)⟩⟩
      · have hk4 : ((bs.length : Int) == 4096) = false := by simp; omega
        have HSz : Aside0 (((bs.map toR).length + 1) * 32 ≤ 140737488355328) := ⟨by rw [List.length_map]; omega⟩
        have hl1 : (bs.map toR ++ [(⟨1, false, 0, ⟨#[]⟩⟩ : S82)]).length = bs.length + 1 := by simp
        have HL1 := Aside0.mk hl1
        have HKE := Aside0.mk hke
        clear hl1
        subst hke
        go_upto_region 13 with (first | ((with_reducible refine gate_builtin (b := .append) (xs := #[.tmp 61, .tmp 63]) rfl ?_); at_builtin; refine Kd.R_append k82 (w0 := w1.drewN nq) g rfl (.tmp 61) (.tmp 63) 64 82 (.agg #[.int .u32 0, .bool false, .int .i64 0, .string ⟨#[]⟩]) 32 rfl Try.underlying64 infoBlkR rfl (by decide) (by decide) (.slice A bs.length c) (bs.map toR) (⟨1, false, 0, ⟨#[]⟩⟩ : S82) [.int .u32 1, .bool false, .int .i64 0, .string ⟨#[]⟩] (fun _ => True) (fun _ => False) rfl rfl ?aP (fun _ hk => hk.elim) (fun _ _ => trivial) HAd.out.2 (Below.refl _ _) (Nat.le_of_lt HAd.out.lt) HSz.out ?_; (case aP => exact ⟨[.int .u32 1], [.bool false, .int .i64 0, .string ⟨#[]⟩], rfl, rfl, [.bool false], [.int .i64 0, .string ⟨#[]⟩], rfl, rfl, [.int .i64 0], [.string ⟨#[]⟩], rfl, rfl, rfl⟩); intro v1 w5 r1 b1 g1 e1; obtain ⟨inn_, ho_⟩ := Kd.R_own r1; rw [HL1.out] at ho_; obtain ⟨gb, cb, e2, _, _⟩ := ho_.form (Nat.succ_pos _); subst e2; have N5 := Aside0.mk (blk_grown HAd.out.1 g1 (Kd.R_ne HAd.out.2 HAd.out.1 (by decide))); have M5 := Aside0.mk (blk_grown (blk_drewN B4.out nq) g1 (Kd.R_ne HAd.out.2 (blk_drewN B4.out nq) (by decide))); have R1 := Aside0.mk r1; have FX5 := Aside0.mk ((FR.drewN (FR.of_below HB.out) nq).trans (FR.grown g1 (fun b hb_ => ⟨own_base (Kd.R_own HAd.out.2).choose_spec b hb_, by obtain ⟨cells, hc⟩ := Kd.R_typed HAd.out.2 b hb_; exact ⟨cells, _, hc, .inr rfl⟩⟩))); have p2 := blk_cell N5.out 2; have pf := blk_frozen N5.out 2; have pl := blk_lt N5.out; simp only [List.getElem?_toArray, List.getElem?_cons_zero, List.getElem?_cons_succ] at p2; clear r1 g1 e1 b1 ho_ q0 q1 q2 f2 hlt y0 y1 yf0 yf1 y4))
        generalize hWX : w5.setCell ⟨g, 2, none⟩ (.slice (some ⟨gb, 0, none⟩) (bs.length + 1) cb) = WX
        obtain ⟨k, hkk⟩ : ∃ k, bs.length = k := ⟨_, rfl⟩
        have HX := Aside0.mk (show RV' WX g cap lim (.slice (some ⟨gb, 0, none⟩) (k + 1) cb) (bs.map toR ++ [(⟨1, false, 0, ⟨#[]⟩⟩ : S82)]) from hkk ▸ hWX ▸ ⟨blk_put N5.out 2 _ rfl, Kd.R_mono (Kd.R_far (p := ⟨g, 2, none⟩) (Kd.R_types R1.out N5.out (fun q hq => by rw [k82E hq]; decide)) (fun _ hk => hk.2) _) (fun _ _ => trivial)⟩)
        have BX4 := Aside0.mk (show WX.heap[W.heap.size]? = some (.cells #[.int .u32 0, .int .u32 0] 54 (0, 0)) from hWX ▸ blk_far (p := ⟨g, 2, none⟩) M5.out (blk_ne M5.out N5.out (by decide)) _)
        have FX := Aside0.mk (show FR g W WX from hWX ▸ FX5.out.trans (FR.set N5.out (.inl rfl) (Nat.le_refl g) 2 _))
        have HRK := Aside0.mk (show (bs.map toR ++ [(⟨1, false, 0, ⟨#[]⟩⟩ : S82)])[k]? = some (⟨1, false, 0, ⟨#[]⟩⟩ : S82) by rw [← hkk]; simp)
        have HLN := Aside0.mk (show (bs.map toR ++ [(⟨1, false, 0, ⟨#[]⟩⟩ : S82)]).length = k + 1 by rw [← hkk]; simp)
        have HKL := Aside0.mk (show k < k + 1 by omega)
        have HBS := Aside0.mk (show (bs.map toR ++ [(⟨1, false, 0, ⟨#[]⟩⟩ : S82)]).set k ⟨1, true, n, s⟩ = (bs ++ [(⟨1, n, s⟩ : S77)]).map toR by rw [← hkk, toR_new _ _ _ hn00]; simp)
        have HKK := Aside0.mk hkk
        have hkl4 : k ≤ 4096 := by omega
        have hklt : (k : Int) < (k : Int) + 1 := by omega
        rw [hkk] at hk hlen hk4 ⊢
        clear hWX HB HA HAq HAd B4 N5 M5 R1 FX5
        have ⟨HE_, HCB_⟩ := HX.out.elem k HKL.out _ HRK.out
        obtain ⟨csb, hcb⟩ := HCB_
        have HCB := Aside0.mk hcb
        have e0 := HE_ 0 _ rfl
        have e1 := HE_ 1 _ rfl
        have e2 := HE_ 2 _ rfl
        have e3 := HE_ 3 _ rfl
        clear HE_ hcb
        rw [Nat.add_zero] at e0
        have q2 := blk_cell HX.out.1 2
        have hlt := blk_lt HX.out.1
        have zf0 := blk_frozen HCB.out (k * 4)
        have zf1 := blk_frozen HCB.out (k * 4 + 1)
        have zf2 := blk_frozen HCB.out (k * 4 + 2)
        have zf3 := blk_frozen HCB.out (k * 4 + 3)
        have lb := blk_lt HCB.out
        have x1 : W.heap.size ≠ g := blk_ne BX4.out HX.out.1 (by decide)
        have x2 : W.heap.size ≠ gb := blk_ne BX4.out HCB.out (by decide)
        have x3 : gb ≠ g := blk_ne HCB.out HX.out.1 (by decide)
        have x4 : g ≠ gb := fun e => x3 e.symm
        have x5 : g ≠ W.heap.size := fun e => x1 e.symm
        have x6 : gb ≠ W.heap.size := fun e => x2 e.symm
        have y0 := blk_cell BX4.out 0
        have y1 := blk_cell BX4.out 1
        have yf0 := blk_frozen BX4.out 0
        have yf1 := blk_frozen BX4.out 1
        have y4 := blk_lt BX4.out
        simp only [List.getElem?_toArray, List.getElem?_cons_zero, List.getElem?_cons_succ] at q2 y0 y1
        have hkl0 := HKL.out
        rw [← HLN.out] at hkl0
        have A2 := RV'.bput HX.out k HRK.out (gb := gb) (cb := cb) (by rw [HLN.out]) 0 (by decide) (.int .u32 1) (b' := ⟨1, (⟨1, false, 0, ⟨#[]⟩⟩ : S82).f1, (⟨1, false, 0, ⟨#[]⟩⟩ : S82).f2, (⟨1, false, 0, ⟨#[]⟩⟩ : S82).f3⟩) rfl
        have A3 := RV'.bput A2.1 k (b := ⟨1, (⟨1, false, 0, ⟨#[]⟩⟩ : S82).f1, (⟨1, false, 0, ⟨#[]⟩⟩ : S82).f2, (⟨1, false, 0, ⟨#[]⟩⟩ : S82).f3⟩) (by rw [List.getElem?_set_self hkl0]) (gb := gb) (cb := cb) (by rw [List.length_set, HLN.out]) 1 (by decide) (.bool true) (b' := ⟨1, true, (⟨1, false, 0, ⟨#[]⟩⟩ : S82).f2, (⟨1, false, 0, ⟨#[]⟩⟩ : S82).f3⟩) rfl
        have A4 := RV'.bput A3.1 k (b := ⟨1, true, (⟨1, false, 0, ⟨#[]⟩⟩ : S82).f2, (⟨1, false, 0, ⟨#[]⟩⟩ : S82).f3⟩) (by rw [List.getElem?_set_self (by rw [List.length_set]; exact hkl0)]) (gb := gb) (cb := cb) (by rw [List.length_set, List.length_set, HLN.out]) 2 (by decide) (.int .i64 n) (b' := ⟨1, true, n, (⟨1, false, 0, ⟨#[]⟩⟩ : S82).f3⟩) rfl
        have A5 := RV'.bput A4.1 k (b := ⟨1, true, n, (⟨1, false, 0, ⟨#[]⟩⟩ : S82).f3⟩) (by rw [List.getElem?_set_self (by rw [List.length_set, List.length_set]; exact hkl0)]) (gb := gb) (cb := cb) (by rw [List.length_set, List.length_set, List.length_set, HLN.out]) 3 (by decide) (.string s) (b' := ⟨1, true, n, s⟩) rfl
        simp only [Nat.add_zero] at A2 A3 A4 A5
        have F5 := (((FX.out.trans A2.2).trans A3.2).trans A4.2).trans A5.2
        have R5 := RX.of' A5.1 (bs := bs ++ [⟨1, n, s⟩]) (by rw [List.set_set, List.set_set, List.set_set]; exact HBS.out)
        have b5 := blk_far (p := ⟨gb, k * 4 + 3, none⟩) (blk_far (p := ⟨gb, k * 4 + 2, none⟩) (blk_far (p := ⟨gb, k * 4 + 1, none⟩) (blk_far (p := ⟨gb, k * 4, none⟩) BX4.out x2 (.int .u32 1)) x2 (.bool true)) x2 (.int .i64 n)) x2 (.string s)
        have b6 := blk_set b5 0 (.int .u32 (k : Int))
        have b7 := blk_set b6 1 (.int .u32 1)
        have yr0 := blk_cell b6 0
        have yr1 := blk_cell b7 1
        have yr2 := blk_cell b7 0
        simp at yr0 yr1 yr2
        have R7 := (R5.otherR b5 0 (.int .u32 (k : Int))).otherR b6 1 (.int .u32 1)
        have F7 := (F5.setNew (Nat.le_refl _) 0 (.int .u32 (k : Int))).setNew (Nat.le_refl _) 1 (.int .u32 1)
        have HR7 := Aside0.mk R7
        have HF7 := Aside0.mk F7
        have Hy0 := Aside0.mk yr0
        have Hy1 := Aside0.mk yr1
        have Hy2 := Aside0.mk yr2
        clear A2 A3 A4 A5 F5 R5 b5 b6 b7 yr0 yr1 yr2 R7 F7 hkl0
        go_region_law (fail)
        all_goals go_wp2
        all_goals have yr0 := Hy0.out
        all_goals have yr1 := Hy1.out
        all_goals have yr2 := Hy2.out
        all_goals exact bodyPost_ret (v := .tuple #[.agg #[.int .u32 (k : Int), .int .u32 1], .int .i64 0]) (by simp [results, Try.results22, go_sem, yr0, yr1, yr2]) rfl (⟨k, (by rw [HKK.out]; exact Nat.le_refl _), (by rw [← HKK.out]; exact HLO.out), Or.inr (Or.inl ⟨by omega, HKK.out.symm, rfl, (by first | with_reducible exact HR7.out | with_reducible exact RX.drew HR7.out | with_reducible exact RX.drewN HR7.out _), (by first | with_reducible exact HF7.out | with_reducible exact FR.drew HF7.out | with_reducible exact FR.drewN HF7.out _)⟩)⟩)
theorem r_alloc {W : World} {g : Nat} {cap lim : Int} {bs : List S77} (h : RX W g cap lim bs) (hg : Good bs) (s : ByteArray) : Calls Try.prog 22 #[.pointer (some ⟨g, 0, none⟩), .string s] W fun e w' => e = .returned (.tuple #[.agg #[.int .u32 (allocE lim bs s.size).1, .int .u32 (allocE lim bs s.size).2.1], .int .i64 (allocE lim bs s.size).2.2]) ∧ RX w' g cap lim (allocB lim bs s) ∧ FR g W w' := by
  have hr := rnd_le (s.size : Int)
  have hn1 : ¬ (true = false) := by simp
  cases hf : fit (s.size : Int)
  · refine (ra_arg h hg s _ _ rfl hf rfl).mono ?_
    rintro e w' ⟨rfl, hb⟩
    unfold allocE allocB
    rw [hf, if_pos rfl, if_pos rfl]
    exact ⟨rfl, h.below hb, FR.of_below hb⟩
  · have hr16 : 0 < rnd (s.size : Int) := by
      unfold fit at hf
      simp at hf
      have := rnd_facts (s.size : Int) (by omega) (by omega)
      omega
    by_cases hl : lim < sumOf bs + rnd (s.size : Int)
    · refine (ra_budget h hg s _ _ rfl hf rfl hr.1 hr.2 hl).mono ?_
      rintro e w' ⟨rfl, hb⟩
      unfold allocE allocB
      rw [hf, if_neg hn1, if_neg hn1, if_pos hl, if_pos hl]
      exact ⟨rfl, h.below hb, FR.of_below hb⟩
    · refine (ra_ok h hg s _ _ rfl hf rfl hr16 hr.1 hr.2 (by omega)).mono ?_
      rintro e w' ⟨k, hk, hlo, hx⟩
      have hlen := hg.len
      rcases hx with ⟨h1, h2, rfl, hR, hF⟩ | ⟨h1, h2, rfl, hR, hF⟩ | ⟨h1, h2, rfl, hR, hF⟩
      · obtain ⟨e1, e2⟩ := alloc_eval s.size k hf hl hlen hk hlo (.inl (by omega))
        rw [e1, e2 s rfl, if_pos h1, if_pos h1]
        exact ⟨rfl, hR, hF⟩
      · obtain ⟨e1, e2⟩ := alloc_eval s.size k hf hl hlen hk hlo (.inl h2)
        have n4 : ¬ k = 4096 := by omega
        rw [e1, e2 s rfl, if_neg n4, if_neg n4, if_pos h2, if_pos h2]
        exact ⟨rfl, hR, hF⟩
      · obtain ⟨e1, e2⟩ := alloc_eval s.size k hf hl hlen hk hlo (.inr h2)
        have n4 : ¬ k = 4096 := by omega
        have n5 : ¬ k = bs.length := by omega
        rw [e1, e2 s rfl, if_neg n4, if_neg n4, if_neg n5, if_neg n5]
        exact ⟨rfl, hR, hF⟩
end Go.Proofs.Ytdnpfnoobjbanaa.Hand
