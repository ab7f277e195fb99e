/- Package arena: Get, Put, SetLimit, New, Alloc. -/
import Derived.Test.YtdnpfnoobjbanaaH2
import Derived.Test.YtdnpfnoobjbanaaHS
set_option linter.unusedVariables false
set_option linter.unusedSimpArgs false
namespace Go.Proofs.Ytdnpfnoobjbanaa.Hand
open Go.RowKit Go.Proofs.Ytdnpfnoobjbanaa.PArenaPlays Go.Proofs.YtdnpfnoobjbanaaW.PrintWords Go.Proofs.YtdnpfnoobjbanaaW.PrintLast Go.Proofs.YtdnpfnoobjbanaaW.PrintMore

/-- Does a block live under slot i and generation gen? -/
def Lives (bs : List S77) (i : Nat) (gen : Int) : Prop := i < bs.length ∧ 0 < (bk bs i).f1 ∧ (bk bs i).f0 = gen
theorem find_no {W : World} {g : Nat} {cap lim chg : Int} {bv fv : Value} {bs : List S77} {fs : List Int} (h : Ar W g cap lim chg bv bs fv fs) (i : Nat) (gen : Int) (hl : bs.length ≤ 4096) (hi : i ≤ 4294967295) (hn : ¬ Lives bs i gen) :
    Calls Try.prog 34 #[.pointer (some ⟨g, 0, none⟩), .agg #[.int .u32 (i : Int), .int .u32 gen]] W fun e w' => e = .returned (.pointer none) ∧ Below W.heap.size W w' := by
  rcases Nat.lt_or_ge i bs.length with h1 | h1
  · rcases Int.lt_or_le 0 (bk bs i).f1 with h2 | h2
    · exact find_old h i gen h1 hl h2 (fun e => hn ⟨h1, h2, e⟩)
    · exact find_dead h i gen h1 hl h2
  · exact find_far h i gen h1 hi
set_option maxHeartbeats 1000000 in
set_option maxRecDepth 100000 in
theorem aget_no {W : World} {g : Nat} {cap lim chg : Int} {bv fv : Value} {bs : List S77} {fs : List Int} (h : Ar W g cap lim chg bv bs fv fs) (i : Nat) (gen : Int) (hl : bs.length ≤ 4096) (hi : i ≤ 4294967295) (hn : ¬ Lives bs i gen) :
    Calls Try.prog 15 #[.pointer (some ⟨g, 0, none⟩), .agg #[.int .u32 (i : Int), .int .u32 gen]] W fun e w' => e = .returned (.tuple #[.string ⟨#[]⟩, .bool false]) ∧ Below W.heap.size W w' := by
  have HB := Aside0.mk (Below.refl W.heap.size W)
  have h5 := h.1
  obtain ⟨Ab, cb, rfl⟩ := h.bval
  obtain ⟨Af, cf, rfl, hfl⟩ := h.fval
  have q0 := blk_cell h5 0
  have q1 := blk_cell h5 1
  have q2 := blk_cell h5 2
  have q3 := blk_cell h5 3
  have q4 := blk_cell h5 4
  have f1 := blk_frozen h5 1
  have f2 := blk_frozen h5 2
  have f3 := blk_frozen h5 3
  have f4 := blk_frozen h5 4
  have hlt := h.lt
  simp only [List.getElem?_toArray, List.getElem?_cons_zero, List.getElem?_cons_succ] at q0 q1 q2 q3 q4
  have H := Aside0.mk h
  clear h h5
  have HN := Aside0.mk hn
  clear hn
  go_enter Try.func15, Try.ntmps15
  go_wp2_with (first | (go_at_call 34; (with_reducible refine (find_no (H.out.below (by repeat (first | (with_reducible first | exact HB.out | apply below_alloc | apply pw_below_drewN | apply below_drew1) | exact HB.out))) i gen hl hi HN.out).mono ?_); rintro e w1 ⟨rfl, hb⟩; have n0_ := Aside0.mk (below_step (by repeat (first | (with_reducible first | exact HB.out | apply below_alloc | apply pw_below_drewN | apply below_drew1) | exact HB.out)) hb); clear HB; have HB := n0_; clear n0_))
  go_ret2
  exact ⟨rfl, (by repeat (first | (with_reducible first | exact HB.out | apply below_alloc | apply pw_below_drewN | apply below_drew1) | exact HB.out))⟩
set_option maxHeartbeats 1000000 in
set_option maxRecDepth 100000 in
theorem aget_yes {W : World} {g : Nat} {cap lim chg : Int} {bv fv : Value} {bs : List S77} {fs : List Int} (h : Ar W g cap lim chg bv bs fv fs) (i : Nat) (gen : Int) (hl : bs.length ≤ 4096) (hn : Lives bs i gen) (sx : ByteArray) (hsx : (bk bs i).f2 = sx) (fx : Int) (hfx : (bk bs i).f1 = fx) :
    Calls Try.prog 15 #[.pointer (some ⟨g, 0, none⟩), .agg #[.int .u32 (i : Int), .int .u32 gen]] W fun e w' => e = .returned (.tuple #[.string sx, .bool true]) ∧ Below W.heap.size W w' := by
  obtain ⟨hi, hd, hg⟩ := hn
  obtain ⟨gb, cb, hbv, hcc, hff, hne, hlt2, hge, _⟩ := h.elem i hi
  have e2 := hcc 2 _ rfl
  have e1 := hcc 1 _ rfl
  have ff2 := hff 2
  have HN := Aside0.mk (And.intro hi (And.intro hd hg))
  clear hcc hff
  have hsx : (bk bs i).f2 = sx := hsx
  have hfx : (bk bs i).f1 = fx := hfx
  rw [hsx] at e2
  rw [hfx] at e1
  subst hbv
  have HB := Aside0.mk (Below.refl W.heap.size W)
  have h5 := h.1
  obtain ⟨Af, cf, rfl, hfl⟩ := h.fval
  have q0 := blk_cell h5 0
  have q1 := blk_cell h5 1
  have q2 := blk_cell h5 2
  have q3 := blk_cell h5 3
  have q4 := blk_cell h5 4
  have f1 := blk_frozen h5 1
  have f2 := blk_frozen h5 2
  have f3 := blk_frozen h5 3
  have f4 := blk_frozen h5 4
  have hlt := h.lt
  simp only [List.getElem?_toArray, List.getElem?_cons_zero, List.getElem?_cons_succ] at q0 q1 q2 q3 q4
  have H := Aside0.mk h
  clear h h5
  go_enter Try.func15, Try.ntmps15
  go_wp2_with (first | (go_at_call 34; (with_reducible refine (find_yes (H.out.below (by repeat (first | (with_reducible first | exact HB.out | apply below_alloc | apply pw_below_drewN | apply below_drew1) | exact HB.out))) i gen HN.out.1 hl HN.out.2.1 HN.out.2.2 gb cb rfl).mono ?_); rintro e w1 ⟨rfl, hb⟩; have n0_ := Aside0.mk (below_step (by repeat (first | (with_reducible first | exact HB.out | apply below_alloc | apply pw_below_drewN | apply below_drew1) | exact HB.out)) hb); clear HB; have HB := n0_; clear n0_; have z1 := pw_cell_below HB.out e1; have z2 := pw_cell_below HB.out e2; have zf := (HB.out.frozen (p := ⟨gb, i * 3 + 2, none⟩) hlt2).trans ff2; have zl := Nat.lt_of_lt_of_le hlt2 (below_size HB.out)))
  go_ret2
  exact ⟨rfl, (by repeat (first | (with_reducible first | exact HB.out | apply below_alloc | apply pw_below_drewN | apply below_drew1) | exact HB.out))⟩
set_option maxHeartbeats 1000000 in
set_option maxRecDepth 100000 in
theorem aput_no {W : World} {g : Nat} {cap lim chg : Int} {bv fv : Value} {bs : List S77} {fs : List Int} (h : Ar W g cap lim chg bv bs fv fs) (i : Nat) (gen : Int) (hl : bs.length ≤ 4096) (hi : i ≤ 4294967295) (s : ByteArray) (hn : ¬ Lives bs i gen) :
    Calls Try.prog 16 #[.pointer (some ⟨g, 0, none⟩), .agg #[.int .u32 (i : Int), .int .u32 gen], .string s] W fun e w' => e = .returned (.bool false) ∧ Below W.heap.size W w' := by
  have HB := Aside0.mk (Below.refl W.heap.size W)
  have h5 := h.1
  obtain ⟨Ab, cb, rfl⟩ := h.bval
  obtain ⟨Af, cf, rfl, hfl⟩ := h.fval
  have q0 := blk_cell h5 0
  have q1 := blk_cell h5 1
  have q2 := blk_cell h5 2
  have q3 := blk_cell h5 3
  have q4 := blk_cell h5 4
  have f1 := blk_frozen h5 1
  have f2 := blk_frozen h5 2
  have f3 := blk_frozen h5 3
  have f4 := blk_frozen h5 4
  have hlt := h.lt
  simp only [List.getElem?_toArray, List.getElem?_cons_zero, List.getElem?_cons_succ] at q0 q1 q2 q3 q4
  have H := Aside0.mk h
  clear h h5
  have HN := Aside0.mk hn
  clear hn
  go_enter Try.func16, Try.ntmps16
  go_wp2_with (first | (go_at_call 34; (with_reducible refine (find_no (H.out.below (by repeat (first | (with_reducible first | exact HB.out | apply below_alloc | apply pw_below_drewN | apply below_drew1) | exact HB.out))) i gen hl hi HN.out).mono ?_); rintro e w1 ⟨rfl, hb⟩; have n0_ := Aside0.mk (below_step (by repeat (first | (with_reducible first | exact HB.out | apply below_alloc | apply pw_below_drewN | apply below_drew1) | exact HB.out)) hb); clear HB; have HB := n0_; clear n0_))
  go_ret
  exact ⟨rfl, (by repeat (first | (with_reducible first | exact HB.out | apply below_alloc | apply pw_below_drewN | apply below_drew1) | exact HB.out))⟩
set_option maxHeartbeats 1000000 in
set_option maxRecDepth 100000 in
theorem aput_big {W : World} {g : Nat} {cap lim chg : Int} {bv fv : Value} {bs : List S77} {fs : List Int} (h : Ar W g cap lim chg bv bs fv fs) (i : Nat) (gen : Int) (hl : bs.length ≤ 4096) (hn : Lives bs i gen) (sx : ByteArray) (hsx : (bk bs i).f2 = sx) (fx : Int) (hfx : (bk bs i).f1 = fx) (s : ByteArray) (hs : fx < (s.size : Int)) :
    Calls Try.prog 16 #[.pointer (some ⟨g, 0, none⟩), .agg #[.int .u32 (i : Int), .int .u32 gen], .string s] W fun e w' => e = .returned (.bool false) ∧ Below W.heap.size W w' := by
  obtain ⟨hi, hd, hg⟩ := hn
  obtain ⟨gb, cb, hbv, hcc, hff, hne, hlt2, hge, _⟩ := h.elem i hi
  have e2 := hcc 2 _ rfl
  have e1 := hcc 1 _ rfl
  have ff2 := hff 2
  have HN := Aside0.mk (And.intro hi (And.intro hd hg))
  clear hcc hff
  have hsx : (bk bs i).f2 = sx := hsx
  have hfx : (bk bs i).f1 = fx := hfx
  rw [hsx] at e2
  rw [hfx] at e1
  subst hbv
  have HB := Aside0.mk (Below.refl W.heap.size W)
  have h5 := h.1
  obtain ⟨Af, cf, rfl, hfl⟩ := h.fval
  have q0 := blk_cell h5 0
  have q1 := blk_cell h5 1
  have q2 := blk_cell h5 2
  have q3 := blk_cell h5 3
  have q4 := blk_cell h5 4
  have f1 := blk_frozen h5 1
  have f2 := blk_frozen h5 2
  have f3 := blk_frozen h5 3
  have f4 := blk_frozen h5 4
  have hlt := h.lt
  simp only [List.getElem?_toArray, List.getElem?_cons_zero, List.getElem?_cons_succ] at q0 q1 q2 q3 q4
  have H := Aside0.mk h
  clear h h5
  go_enter Try.func16, Try.ntmps16
  go_wp2_with (first | (go_at_call 34; (with_reducible refine (find_yes (H.out.below (by repeat (first | (with_reducible first | exact HB.out | apply below_alloc | apply pw_below_drewN | apply below_drew1) | exact HB.out))) i gen HN.out.1 hl HN.out.2.1 HN.out.2.2 gb cb rfl).mono ?_); rintro e w1 ⟨rfl, hb⟩; have n0_ := Aside0.mk (below_step (by repeat (first | (with_reducible first | exact HB.out | apply below_alloc | apply pw_below_drewN | apply below_drew1) | exact HB.out)) hb); clear HB; have HB := n0_; clear n0_; have z1 := pw_cell_below HB.out e1; have z2 := pw_cell_below HB.out e2; have zf := (HB.out.frozen (p := ⟨gb, i * 3 + 2, none⟩) hlt2).trans ff2; have zl := Nat.lt_of_lt_of_le hlt2 (below_size HB.out)))
  go_ret
  exact ⟨rfl, (by repeat (first | (with_reducible first | exact HB.out | apply below_alloc | apply pw_below_drewN | apply below_drew1) | exact HB.out))⟩
set_option maxHeartbeats 1000000 in
set_option maxRecDepth 100000 in
theorem aput_yes {W : World} {g : Nat} {cap lim chg : Int} {bv fv : Value} {bs : List S77} {fs : List Int} (h : Ar W g cap lim chg bv bs fv fs) (i : Nat) (gen : Int) (hl : bs.length ≤ 4096) (hn : Lives bs i gen) (sx : ByteArray) (hsx : (bk bs i).f2 = sx) (fx : Int) (hfx : (bk bs i).f1 = fx) (s : ByteArray) (hs : (s.size : Int) ≤ fx) (gx : Int) (hgx : (bk bs i).f0 = gx) :
    Calls Try.prog 16 #[.pointer (some ⟨g, 0, none⟩), .agg #[.int .u32 (i : Int), .int .u32 gen], .string s] W fun e w' => e = .returned (.bool true) ∧ Ar w' g cap lim chg bv (bs.set i ⟨gx, fx, s⟩) fv fs ∧ Fr g W w' := by
  obtain ⟨hi, hd, hg⟩ := hn
  obtain ⟨gb, cb, hbv, hcc, hff, hne, hlt2, hge, _⟩ := h.elem i hi
  have e2 := hcc 2 _ rfl
  have e1 := hcc 1 _ rfl
  have ff2 := hff 2
  have HN := Aside0.mk (And.intro hi (And.intro hd hg))
  clear hcc hff
  have hsx : (bk bs i).f2 = sx := hsx
  have hfx : (bk bs i).f1 = fx := hfx
  rw [hsx] at e2
  rw [hfx] at e1
  subst hbv
  have HB := Aside0.mk (Below.refl W.heap.size W)
  have h5 := h.1
  obtain ⟨Af, cf, rfl, hfl⟩ := h.fval
  have q0 := blk_cell h5 0
  have q1 := blk_cell h5 1
  have q2 := blk_cell h5 2
  have q3 := blk_cell h5 3
  have q4 := blk_cell h5 4
  have f1 := blk_frozen h5 1
  have f2 := blk_frozen h5 2
  have f3 := blk_frozen h5 3
  have f4 := blk_frozen h5 4
  have hlt := h.lt
  simp only [List.getElem?_toArray, List.getElem?_cons_zero, List.getElem?_cons_succ] at q0 q1 q2 q3 q4
  have H := Aside0.mk h
  clear h h5
  go_enter Try.func16, Try.ntmps16
  go_wp2_with (first | (go_at_call 34; (with_reducible refine (find_yes (H.out.below (by repeat (first | (with_reducible first | exact HB.out | apply below_alloc | apply pw_below_drewN | apply below_drew1) | exact HB.out))) i gen HN.out.1 hl HN.out.2.1 HN.out.2.2 gb cb rfl).mono ?_); rintro e w1 ⟨rfl, hb⟩; have n0_ := Aside0.mk (below_step (by repeat (first | (with_reducible first | exact HB.out | apply below_alloc | apply pw_below_drewN | apply below_drew1) | exact HB.out)) hb); clear HB; have HB := n0_; clear n0_; have z1 := pw_cell_below HB.out e1; have z2 := pw_cell_below HB.out e2; have zf := (HB.out.frozen (p := ⟨gb, i * 3 + 2, none⟩) hlt2).trans ff2; have zl := Nat.lt_of_lt_of_le hlt2 (below_size HB.out)))
  go_ret
  have hA := H.out.below HB.out
  have hp := hA.bput i HN.out.1 rfl 2 (by decide) (.string s) ⟨gx, fx, s⟩ (by rw [hgx, hfx]; rfl)
  exact ⟨rfl, hp.1, (Fr.of_below HB.out).trans hp.2⟩
set_option maxHeartbeats 1000000 in
set_option maxRecDepth 100000 in
theorem limit_low {W : World} {g : Nat} {cap lim chg : Int} {bv fv : Value} {bs : List S77} {fs : List Int} (h : Ar W g cap lim chg bv bs fv fs) (n : Int) (hn : n < 0) : Calls Try.prog 26 #[.pointer (some ⟨g, 0, none⟩), .int .i64 n] W fun e w' => e = .returned (.int .i64 1) ∧ Below W.heap.size W w' := by
  have HB := Aside0.mk (Below.refl W.heap.size W)
  have h5 := h.1
  obtain ⟨Ab, cb, rfl⟩ := h.bval
  obtain ⟨Af, cf, rfl, hfl⟩ := h.fval
  have q0 := blk_cell h5 0
  have q1 := blk_cell h5 1
  have q2 := blk_cell h5 2
  have q3 := blk_cell h5 3
  have q4 := blk_cell h5 4
  have f1 := blk_frozen h5 1
  have f2 := blk_frozen h5 2
  have f3 := blk_frozen h5 3
  have f4 := blk_frozen h5 4
  have hlt := h.lt
  simp only [List.getElem?_toArray, List.getElem?_cons_zero, List.getElem?_cons_succ] at q0 q1 q2 q3 q4
  have H := Aside0.mk h
  clear h h5
  go_enter Try.func26, Try.ntmps26
  go_wp2
  go_ret
  exact ⟨rfl, (by repeat (first | (with_reducible first | exact HB.out | apply below_alloc | apply pw_below_drewN | apply below_drew1) | exact HB.out))⟩
set_option maxHeartbeats 1000000 in
set_option maxRecDepth 100000 in
theorem limit_high {W : World} {g : Nat} {cap lim chg : Int} {bv fv : Value} {bs : List S77} {fs : List Int} (h : Ar W g cap lim chg bv bs fv fs) (n : Int) (hn : 0 ≤ n) (hc : cap < n) : Calls Try.prog 26 #[.pointer (some ⟨g, 0, none⟩), .int .i64 n] W fun e w' => e = .returned (.int .i64 1) ∧ Below W.heap.size W w' := by
  have HB := Aside0.mk (Below.refl W.heap.size W)
  have h5 := h.1
  obtain ⟨Ab, cb, rfl⟩ := h.bval
  obtain ⟨Af, cf, rfl, hfl⟩ := h.fval
  have q0 := blk_cell h5 0
  have q1 := blk_cell h5 1
  have q2 := blk_cell h5 2
  have q3 := blk_cell h5 3
  have q4 := blk_cell h5 4
  have f1 := blk_frozen h5 1
  have f2 := blk_frozen h5 2
  have f3 := blk_frozen h5 3
  have f4 := blk_frozen h5 4
  have hlt := h.lt
  simp only [List.getElem?_toArray, List.getElem?_cons_zero, List.getElem?_cons_succ] at q0 q1 q2 q3 q4
  have H := Aside0.mk h
  clear h h5
  go_enter Try.func26, Try.ntmps26
  go_wp2
  go_ret
  exact ⟨rfl, (by repeat (first | (with_reducible first | exact HB.out | apply below_alloc | apply pw_below_drewN | apply below_drew1) | exact HB.out))⟩
set_option maxHeartbeats 1000000 in
set_option maxRecDepth 100000 in
theorem limit_busy {W : World} {g : Nat} {cap lim chg : Int} {bv fv : Value} {bs : List S77} {fs : List Int} (h : Ar W g cap lim chg bv bs fv fs) (n : Int) (hn : 0 ≤ n) (hc : n ≤ cap) (hb : n < chg) : Calls Try.prog 26 #[.pointer (some ⟨g, 0, none⟩), .int .i64 n] W fun e w' => e = .returned (.int .i64 9) ∧ Below W.heap.size W w' := by
  have HB := Aside0.mk (Below.refl W.heap.size W)
  have h5 := h.1
  obtain ⟨Ab, cb, rfl⟩ := h.bval
  obtain ⟨Af, cf, rfl, hfl⟩ := h.fval
  have q0 := blk_cell h5 0
  have q1 := blk_cell h5 1
  have q2 := blk_cell h5 2
  have q3 := blk_cell h5 3
  have q4 := blk_cell h5 4
  have f1 := blk_frozen h5 1
  have f2 := blk_frozen h5 2
  have f3 := blk_frozen h5 3
  have f4 := blk_frozen h5 4
  have hlt := h.lt
  simp only [List.getElem?_toArray, List.getElem?_cons_zero, List.getElem?_cons_succ] at q0 q1 q2 q3 q4
  have H := Aside0.mk h
  clear h h5
  go_enter Try.func26, Try.ntmps26
  go_wp2
  go_ret
  exact ⟨rfl, (by repeat (first | (with_reducible first | exact HB.out | apply below_alloc | apply pw_below_drewN | apply below_drew1) | exact HB.out))⟩
set_option maxHeartbeats 1000000 in
set_option maxRecDepth 100000 in
theorem limit_set {W : World} {g : Nat} {cap lim chg : Int} {bv fv : Value} {bs : List S77} {fs : List Int} (h : Ar W g cap lim chg bv bs fv fs) (n : Int) (hn : 0 ≤ n) (hc : n ≤ cap) (hb : chg ≤ n) : Calls Try.prog 26 #[.pointer (some ⟨g, 0, none⟩), .int .i64 n] W fun e w' => e = .returned (.int .i64 0) ∧ Ar w' g cap n chg bv bs fv fs ∧ Fr g W w' := by
  have HB := Aside0.mk (Below.refl W.heap.size W)
  have h5 := h.1
  obtain ⟨Ab, cb, rfl⟩ := h.bval
  obtain ⟨Af, cf, rfl, hfl⟩ := h.fval
  have q0 := blk_cell h5 0
  have q1 := blk_cell h5 1
  have q2 := blk_cell h5 2
  have q3 := blk_cell h5 3
  have q4 := blk_cell h5 4
  have f1 := blk_frozen h5 1
  have f2 := blk_frozen h5 2
  have f3 := blk_frozen h5 3
  have f4 := blk_frozen h5 4
  have hlt := h.lt
  simp only [List.getElem?_toArray, List.getElem?_cons_zero, List.getElem?_cons_succ] at q0 q1 q2 q3 q4
  have H := Aside0.mk h
  clear h h5
  have z1 : decide (cap < n) = false := decide_eq_false (by omega)
  have z2 : decide (n < chg) = false := decide_eq_false (by omega)
  have z0 : decide (n < 0) = false := decide_eq_false (by omega)
  go_enter Try.func26, Try.ntmps26
  go_wp2
  go_ret
  exact ⟨rfl, H.out.put 1 _ rfl H.out.2.1 H.out.2.2, H.out.fr 1 _⟩
set_option maxHeartbeats 1000000 in
set_option maxRecDepth 100000 in
theorem anew_no (n : Int) (w : World) (hn : n < 0 ∨ 16777216 < n) : Calls Try.prog 11 #[.int .i64 n] w fun e w' => e = .returned (.pointer none) ∧ Below w.heap.size w w' := by
  have HB := Aside0.mk (Below.refl w.heap.size w)
  rcases Int.lt_or_le n 0 with h | h
  · go_enter Try.func11, Try.ntmps11
    go_wp2
    go_ret
    exact ⟨rfl, (by repeat (first | (with_reducible first | exact HB.out | apply below_alloc | apply pw_below_drewN | apply below_drew1) | exact HB.out))⟩
  · have h2 : 16777216 < n := by omega
    clear hn
    go_enter Try.func11, Try.ntmps11
    go_wp2
    go_ret
    exact ⟨rfl, (by repeat (first | (with_reducible first | exact HB.out | apply below_alloc | apply pw_below_drewN | apply below_drew1) | exact HB.out))⟩
set_option maxHeartbeats 1000000 in
set_option maxRecDepth 100000 in
theorem anew_yes (n : Int) (w : World) (h0 : 0 ≤ n) (h1 : n ≤ 16777216) : Calls Try.prog 11 #[.int .i64 n] w fun e w' => e = .returned (.pointer (some ⟨w.heap.size, 0, none⟩)) ∧ Ar w' w.heap.size n n 0 (.slice none 0 0) [] (.slice none 0 0) [] ∧ Below w.heap.size w w' := by
  have HB := Aside0.mk (Below.refl w.heap.size w)
  have z1 : decide (16777216 < n) = false := decide_eq_false (by omega)
  have z0 : decide (n < 0) = false := decide_eq_false (by omega)
  go_enter Try.func11, Try.ntmps11
  go_wp2
  go_ret
  exact ⟨rfl, ⟨blk_new w _, Kd.R_nil _ _ _ _ _, Kd.Q_nil _ _ _ _ _⟩, (by repeat (first | (with_reducible first | exact HB.out | apply below_alloc | apply pw_below_drewN | apply below_drew1) | exact HB.out))⟩
end Go.Proofs.Ytdnpfnoobjbanaa.Hand
