/- Package arena: Alloc. -/
import Derived.Test.YtdnpfnoobjbanaaH3
set_option linter.unusedVariables false
set_option linter.unusedSimpArgs false
namespace Go.Proofs.Ytdnpfnoobjbanaa.Hand
open Go.RowKit Go.Proofs.Ytdnpfnoobjbanaa.PArenaPlays Go.Proofs.YtdnpfnoobjbanaaW.PrintWords Go.Proofs.YtdnpfnoobjbanaaW.PrintLast Go.Proofs.YtdnpfnoobjbanaaW.PrintMore
theorem blk_new' {w : World} {o : Obj} {g : Nat} (h : g = w.heap.size) : (w.alloc o).heap[g]? = some o := by subst h; exact blk_new w o
set_option maxHeartbeats 1000000 in
set_option maxRecDepth 100000 in
theorem alloc_arg {W : World} {g : Nat} {cap lim chg : Int} {bv fv : Value} {bs : List S77} {fs : List Int} (h : Ar W g cap lim chg bv bs fv fs) (s : ByteArray) (n : Int) (ft : Bool) (hr : rnd (s.size : Int) = n) (hft : fit (s.size : Int) = ft) (hf : ft = false) :
    Calls Try.prog 12 #[.pointer (some ⟨g, 0, none⟩), .string s] W fun e w' => e = .returned (.tuple #[.agg #[.int .u32 0, .int .u32 0], .int .i64 1]) ∧ Below W.heap.size W w' := by
  have HR := Aside0.mk hr
  have HFT := Aside0.mk hft
  clear hr hft
  have HB := Aside0.mk (Below.refl W.heap.size W)
  have h5 := h.1
  obtain ⟨Ab, cb, rfl⟩ := h.bval
  obtain ⟨Af, cf, rfl, hfl⟩ := h.fval
  have q0 := blk_cell h5 0
  have q1 := blk_cell h5 1
  have q2 := blk_cell h5 2
  have q3 := blk_cell h5 3
  have q4 := blk_cell h5 4
  have f1 := blk_frozen h5 1
  have f2 := blk_frozen h5 2
  have f3 := blk_frozen h5 3
  have f4 := blk_frozen h5 4
  have hlt := h.lt
  simp only [List.getElem?_toArray, List.getElem?_cons_zero, List.getElem?_cons_succ] at q0 q1 q2 q3 q4
  have H := Aside0.mk h
  clear h h5
  subst hf
  go_enter Try.func12, Try.ntmps12
  go_wp2_with (first | (go_at_call 19; (with_reducible refine (round_c _ _).mono ?_); rintro e w9 ⟨rfl, ⟨nd, rfl⟩⟩; rw [HR.out, HFT.out]))
  exact bodyPost_ret (v := .tuple #[.agg #[.int .u32 0, .int .u32 0], .int .i64 1]) (by simp [results, Try.results12, go_sem]) rfl ⟨rfl, (show Below W.heap.size W _ by repeat (first | (with_reducible first | exact HB.out | apply below_alloc | apply pw_below_drewN | apply below_drew1) | (refine below_set ?_ (Nat.le_refl W.heap.size)) | exact HB.out))⟩
set_option maxHeartbeats 1000000 in
set_option maxRecDepth 100000 in
theorem alloc_budget {W : World} {g : Nat} {cap lim chg : Int} {bv fv : Value} {bs : List S77} {fs : List Int} (h : Ar W g cap lim chg bv bs fv fs) (s : ByteArray) (n : Int) (ft : Bool) (hr : rnd (s.size : Int) = n) (hft : fit (s.size : Int) = ft) (hf : ft = true) (hb : lim < chg + n) (hn0 : 0 ≤ n) (hn1 : n ≤ 1024) (hc0 : 0 ≤ chg) (hc1 : chg ≤ 16777216) :
    Calls Try.prog 12 #[.pointer (some ⟨g, 0, none⟩), .string s] W fun e w' => e = .returned (.tuple #[.agg #[.int .u32 0, .int .u32 0], .int .i64 9]) ∧ Below W.heap.size W w' := by
  have HR := Aside0.mk hr
  have HFT := Aside0.mk hft
  clear hr hft
  have HB := Aside0.mk (Below.refl W.heap.size W)
  have h5 := h.1
  obtain ⟨Ab, cb, rfl⟩ := h.bval
  obtain ⟨Af, cf, rfl, hfl⟩ := h.fval
  have q0 := blk_cell h5 0
  have q1 := blk_cell h5 1
  have q2 := blk_cell h5 2
  have q3 := blk_cell h5 3
  have q4 := blk_cell h5 4
  have f1 := blk_frozen h5 1
  have f2 := blk_frozen h5 2
  have f3 := blk_frozen h5 3
  have f4 := blk_frozen h5 4
  have hlt := h.lt
  simp only [List.getElem?_toArray, List.getElem?_cons_zero, List.getElem?_cons_succ] at q0 q1 q2 q3 q4
  have H := Aside0.mk h
  clear h h5
  subst hf
  have z1 : decide (lim < chg + n) = true := decide_eq_true hb
  have hw : IntKind.i64.wrap (chg + n) = chg + n := IntWalk.i64_in _ ⟨by omega, by omega⟩
  go_enter Try.func12, Try.ntmps12
  go_wp2_with (first | (go_at_call 19; (with_reducible refine (round_c _ _).mono ?_); rintro e w9 ⟨rfl, ⟨nd, rfl⟩⟩; rw [HR.out, HFT.out]))
  go_quiet (fail)
  go_wp2
  exact bodyPost_ret (v := .tuple #[.agg #[.int .u32 0, .int .u32 0], .int .i64 9]) (by simp [results, Try.results12, go_sem]) rfl ⟨rfl, (show Below W.heap.size W _ by repeat (first | (with_reducible first | exact HB.out | apply below_alloc | apply pw_below_drewN | apply below_drew1) | (refine below_set ?_ (Nat.le_refl W.heap.size)) | exact HB.out))⟩
set_option maxHeartbeats 1000000 in
set_option maxRecDepth 100000 in
theorem alloc_full {W : World} {g : Nat} {cap lim chg : Int} {bv fv : Value} {bs : List S77} (h : Ar W g cap lim chg bv bs fv []) (s : ByteArray) (n : Int) (ft : Bool) (hr : rnd (s.size : Int) = n) (hft : fit (s.size : Int) = ft) (hf : ft = true) (hb : chg + n ≤ lim) (hn0 : 0 ≤ n) (hn1 : n ≤ 1024) (hc0 : 0 ≤ chg) (hc1 : chg ≤ 16777216) (hl : bs.length = 4096) :
    Calls Try.prog 12 #[.pointer (some ⟨g, 0, none⟩), .string s] W fun e w' => e = .returned (.tuple #[.agg #[.int .u32 0, .int .u32 0], .int .i64 11]) ∧ Below W.heap.size W w' := by
  have HR := Aside0.mk hr
  have HFT := Aside0.mk hft
  clear hr hft
  have HB := Aside0.mk (Below.refl W.heap.size W)
  have h5 := h.1
  obtain ⟨Ab, cb, rfl⟩ := h.bval
  obtain ⟨Af, cf, rfl, hfl⟩ := h.fval
  have q0 := blk_cell h5 0
  have q1 := blk_cell h5 1
  have q2 := blk_cell h5 2
  have q3 := blk_cell h5 3
  have q4 := blk_cell h5 4
  have f1 := blk_frozen h5 1
  have f2 := blk_frozen h5 2
  have f3 := blk_frozen h5 3
  have f4 := blk_frozen h5 4
  have hlt := h.lt
  simp only [List.getElem?_toArray, List.getElem?_cons_zero, List.getElem?_cons_succ] at q0 q1 q2 q3 q4
  have H := Aside0.mk h
  clear h h5
  subst hf
  have z1 : decide (lim < chg + n) = false := decide_eq_false (by omega)
  have hw : IntKind.i64.wrap (chg + n) = chg + n := IntWalk.i64_in _ ⟨by omega, by omega⟩
  go_enter Try.func12, Try.ntmps12
  go_wp2_with (first | (go_at_call 19; (with_reducible refine (round_c _ _).mono ?_); rintro e w9 ⟨rfl, ⟨nd, rfl⟩⟩; rw [HR.out, HFT.out]))
  go_quiet (fail)
  clear hw
  go_wp2_with (first | (go_at_call 33; (with_reducible refine (slot_full (H.out.below (by repeat (first | (with_reducible first | exact HB.out | apply below_alloc | apply pw_below_drewN | apply below_drew1) | exact HB.out))) hl).mono ?_); rintro e w1 ⟨rfl, hb1⟩; have B4 := Aside0.mk (blk_below (o := .cells #[.int .u32 0, .int .u32 0] 28 (0, 0)) (g := W.heap.size) (by repeat (first | (with_reducible refine blk_drewN ?_ _) | (with_reducible refine blk_drew ?_) | exact blk_new' (by first | rfl | simp) | (with_reducible refine blk_alloc ?_ _))) hb1); have n0_ := Aside0.mk (below_step (by repeat (first | (with_reducible first | exact HB.out | apply below_alloc | apply pw_below_drewN | apply below_drew1) | exact HB.out)) hb1); clear HB; have HB := n0_; clear n0_; have y0 := blk_cell B4.out 0; have y1 := blk_cell B4.out 1; have y2 := blk_frozen B4.out 0; have y3 := blk_frozen B4.out 1; have y4 := blk_lt B4.out))
  have b6 := blk_set B4.out 0 (.int .u32 0)
  have b7 := blk_set b6 1 (.int .u32 0)
  have yr0 := blk_cell b6 0
  have yr1 := blk_cell b7 1
  simp at yr0 yr1
  exact bodyPost_ret (v := .tuple #[.agg #[.int .u32 0, .int .u32 0], .int .i64 11]) (by simp [results, Try.results12, go_sem, yr0, yr1]) rfl ⟨rfl, (show Below W.heap.size W _ by repeat (first | (with_reducible first | exact HB.out | apply below_alloc | apply pw_below_drewN | apply below_drew1) | (refine below_set ?_ (Nat.le_refl W.heap.size)) | exact HB.out))⟩
set_option maxHeartbeats 2000000 in
set_option maxRecDepth 100000 in
theorem alloc_ok {W : World} {g : Nat} {cap lim chg : Int} {bv fv : Value} {bs : List S77} {fs : List Int} (h : Ar W g cap lim chg bv bs fv fs) (s : ByteArray) (n : Int) (hr : rnd (s.size : Int) = n) (hft : fit (s.size : Int) = true) (hb : chg + n ≤ lim) (hn0 : 0 ≤ n) (hn1 : n ≤ 1024) (hc0 : 0 ≤ chg) (hc1 : chg ≤ 16777216)
    (at_ : Nat) (bs' : List S77) (fs' : List Int) (gen : Int) (hat : at_ < bs'.length) (hlen : bs'.length ≤ 4096) (hgen : (bk bs' at_).f0 = gen)
    (hsl : ∀ W1, Below W.heap.size W W1 → Calls Try.prog 33 #[.pointer (some ⟨g, 0, none⟩)] W1 fun e w' => e = .returned (.tuple #[.int .i64 (at_ : Int), .bool true]) ∧ ∃ bv' fv', Ar w' g cap lim chg bv' bs' fv' fs' ∧ Fr g W1 w') :
    Calls Try.prog 12 #[.pointer (some ⟨g, 0, none⟩), .string s] W fun e w' => e = .returned (.tuple #[.agg #[.int .u32 (at_ : Int), .int .u32 gen], .int .i64 0]) ∧ ∃ bv' fv', Ar w' g cap lim (chg + n) bv' (bs'.set at_ ⟨gen, n, s⟩) fv' fs' ∧ Fr g W w' := by
  have HSL := Aside0.mk hsl
  have HGN := Aside0.mk hgen
  have HR := Aside0.mk hr
  have HFT := Aside0.mk hft
  have z1 : decide (lim < chg + n) = false := decide_eq_false (by omega)
  have at1 : (at_ : Int) ≤ 4096 := by omega
  have hati : (at_ : Int) < (bs'.length : Int) := by omega
  clear hr hft hsl hgen
  have HB := Aside0.mk (Below.refl W.heap.size W)
  have h5 := h.1
  obtain ⟨Ab, cb, rfl⟩ := h.bval
  obtain ⟨Af, cf, rfl, hfl⟩ := h.fval
  have q0 := blk_cell h5 0
  have q1 := blk_cell h5 1
  have q2 := blk_cell h5 2
  have q3 := blk_cell h5 3
  have q4 := blk_cell h5 4
  have f1 := blk_frozen h5 1
  have f2 := blk_frozen h5 2
  have f3 := blk_frozen h5 3
  have f4 := blk_frozen h5 4
  have hlt := h.lt
  simp only [List.getElem?_toArray, List.getElem?_cons_zero, List.getElem?_cons_succ] at q0 q1 q2 q3 q4
  have H := Aside0.mk h
  clear h h5
  have hw : IntKind.i64.wrap (chg + n) = chg + n := IntWalk.i64_in _ ⟨by omega, by omega⟩
  go_enter Try.func12, Try.ntmps12
  go_wp2_with (first | (go_at_call 19; (with_reducible refine (round_c _ _).mono ?_); rintro e w9 ⟨rfl, ⟨nd, rfl⟩⟩; rw [HR.out, HFT.out]))
  go_quiet (fail)
  clear hw
  go_wp2_with (first | (go_at_call 33; (with_reducible refine (HSL.out _ (by repeat (first | (with_reducible first | exact HB.out | apply below_alloc | apply pw_below_drewN | apply below_drew1) | exact HB.out))).mono ?_); rintro e w1 ⟨rfl, bv1, fv1, hA, hF⟩; have HA := Aside0.mk hA; have HF := Aside0.mk (Fr.trans (Fr.of_below (by repeat (first | (with_reducible first | exact HB.out | apply below_alloc | apply pw_below_drewN | apply below_drew1) | exact HB.out))) hF); have B4 := Aside0.mk (hF.blk (cs := #[.int .u32 0, .int .u32 0]) (q := 28) (k := W.heap.size) (by repeat (first | (with_reducible refine blk_drewN ?_ _) | (with_reducible refine blk_drew ?_) | exact blk_new' (by first | rfl | simp) | (with_reducible refine blk_alloc ?_ _))) (by unfold AT; decide)); clear hA hF q0 q1 q2 q3 q4 f1 f2 f3 f4 hlt; have y0 := blk_cell B4.out 0; have y1 := blk_cell B4.out 1; have y2 := blk_frozen B4.out 0; have y3 := blk_frozen B4.out 1; have y4 := blk_lt B4.out; obtain ⟨gb, cb1, ebv, hcc, hff, hne, hlt2, hge, csb, hcb⟩ := HA.out.elem at_ hat; subst ebv; have hx2 : W.heap.size ≠ gb := (by intro e_; have b4_ := B4.out; rw [e_, hcb] at b4_; injection b4_ with b4_; injection b4_ with _ e2_; exact absurd e2_ (by decide)); have hx1 : W.heap.size ≠ g := (by have := H.out.lt; omega); have hx3 : gb ≠ W.heap.size := (fun e => hx2 e.symm); have hx4 : g ≠ W.heap.size := (fun e => hx1 e.symm); clear hcb; have e0 := hcc 0 _ rfl; rw [HGN.out, Nat.add_zero] at e0; have ff0 := hff 0; rw [Nat.add_zero] at ff0; have e1 := hcc 1 _ rfl; have ff1 := hff 1; have e2 := hcc 2 _ rfl; have ff2 := hff 2; have q2 := blk_cell HA.out.1 2; have q3 := blk_cell HA.out.1 3; have f2 := blk_frozen HA.out.1 2; have hlt := HA.out.lt; simp only [List.getElem?_toArray, List.getElem?_cons_zero, List.getElem?_cons_succ] at q2 q3 y0 y1; have hne2 : g ≠ gb := fun e => hne e.symm; clear hcc hff))
  have hgen := HGN.out
  have p1 := HA.out.bput at_ hat rfl 1 (by decide) (.int .i64 n) ⟨gen, n, (bk bs' at_).f2⟩ (by rw [hgen]; rfl)
  have hb2 : bk (bs'.set at_ ⟨gen, n, (bk bs' at_).f2⟩) at_ = ⟨gen, n, (bk bs' at_).f2⟩ := by simp [bk, hat]
  have p2 := p1.1.bput at_ (by simpa using hat) (gb := gb) (cb := cb1) (by rw [List.length_set]) 2 (by decide) (.string s) ⟨gen, n, s⟩ (by rw [hb2]; rfl)
  have p2' := p2.1
  rw [List.set_set] at p2'
  have p3 := p2'.put 2 (.int .i64 (chg + n)) rfl p2'.2.1 p2'.2.2
  have b5 := blk_far (p := ⟨g, 2, none⟩) (blk_far (p := ⟨gb, at_ * 3 + 2, none⟩) (blk_far (p := ⟨gb, at_ * 3 + 1, none⟩) B4.out hx2 (.int .i64 n)) hx2 (.string s)) hx1 (.int .i64 (chg + n))
  have p4 := p3.other b5 (by unfold AT; decide) 0 (.int .u32 (at_ : Int))
  have b6 := blk_set b5 0 (.int .u32 (at_ : Int))
  have p5 := p4.other b6 (by unfold AT; decide) 1 (.int .u32 gen)
  have b7 := blk_set b6 1 (.int .u32 gen)
  have yr0 := blk_cell b6 0
  have yr1 := blk_cell b7 1
  have yr2 := blk_cell b7 0
  simp at yr0 yr1 yr2
  exact bodyPost_ret (v := .tuple #[.agg #[.int .u32 at_, .int .u32 gen], .int .i64 0]) (by simp [results, Try.results12, go_sem, yr0, yr1, yr2]) rfl ⟨rfl, _, _, p5, ((((HF.out.trans p1.2).trans p2.2).trans (p2'.fr 2 _)).setNew (Nat.le_refl _) 0 _).setNew (Nat.le_refl _) 1 _⟩
theorem alloc_new {W : World} {g : Nat} {cap lim chg : Int} {bv fv : Value} {bs : List S77} (h : Ar W g cap lim chg bv bs fv []) (s : ByteArray) (n : Int) (hr : rnd (s.size : Int) = n) (hft : fit (s.size : Int) = true) (hb : chg + n ≤ lim) (hn0 : 0 ≤ n) (hn1 : n ≤ 1024) (hc0 : 0 ≤ chg) (hc1 : chg ≤ 16777216) (hl : bs.length < 4096) :
    Calls Try.prog 12 #[.pointer (some ⟨g, 0, none⟩), .string s] W fun e w' => e = .returned (.tuple #[.agg #[.int .u32 (bs.length : Int), .int .u32 1], .int .i64 0]) ∧ ∃ bv' fv', Ar w' g cap lim (chg + n) bv' (bs ++ [⟨1, n, s⟩]) fv' [] ∧ Fr g W w' := by
  have k := alloc_ok h s n hr hft hb hn0 hn1 hc0 hc1 bs.length (bs ++ [⟨1, 0, ⟨#[]⟩⟩]) [] 1 (by simp) (by simp; omega) (by simp [bk]) (fun W1 hb1 => (slot_new (h.below hb1) hl).mono (by rintro e w1 ⟨rfl, bv', hA, hF⟩; exact ⟨rfl, bv', fv, hA, hF⟩))
  simpa using k
theorem alloc_free {W : World} {g : Nat} {cap lim chg : Int} {bv fv : Value} {bs : List S77} {i : Nat} {r : List Int} (h : Ar W g cap lim chg bv bs fv ((i : Int) :: r)) (s : ByteArray) (n : Int) (hr : rnd (s.size : Int) = n) (hft : fit (s.size : Int) = true) (hb : chg + n ≤ lim) (hn0 : 0 ≤ n) (hn1 : n ≤ 1024) (hc0 : 0 ≤ chg) (hc1 : chg ≤ 16777216) (hl : bs.length ≤ 4096) (hi : i < bs.length) (gen : Int) (hg : (bk bs i).f0 = gen) :
    Calls Try.prog 12 #[.pointer (some ⟨g, 0, none⟩), .string s] W fun e w' => e = .returned (.tuple #[.agg #[.int .u32 (i : Int), .int .u32 gen], .int .i64 0]) ∧ ∃ bv' fv', Ar w' g cap lim (chg + n) bv' (bs.set i ⟨gen, n, s⟩) fv' r ∧ Fr g W w' :=
  alloc_ok h s n hr hft hb hn0 hn1 hc0 hc1 i bs r gen hi hl hg (fun W1 hb1 => (slot_free (h.below hb1)).mono (by rintro e w1 ⟨rfl, fv', hA, hF⟩; exact ⟨rfl, bv, fv', hA, hF⟩))
end Go.Proofs.Ytdnpfnoobjbanaa.Hand
