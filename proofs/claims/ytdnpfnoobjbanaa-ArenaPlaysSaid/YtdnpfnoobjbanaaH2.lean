/- Package arena: find, Get, Put. -/
import Derived.Test.YtdnpfnoobjbanaaH1
set_option linter.unusedVariables false
set_option linter.unusedSimpArgs false
namespace Go.Proofs.Ytdnpfnoobjbanaa.Hand
open Go.RowKit Go.Proofs.Ytdnpfnoobjbanaa.PArenaPlays Go.Proofs.YtdnpfnoobjbanaaW.PrintWords Go.Proofs.YtdnpfnoobjbanaaW.PrintLast Go.Proofs.YtdnpfnoobjbanaaW.PrintMore
set_option maxHeartbeats 1000000 in
set_option maxRecDepth 100000 in
theorem find_far {W : World} {g : Nat} {cap lim chg : Int} {bv fv : Value} {bs : List S77} {fs : List Int} (h : Ar W g cap lim chg bv bs fv fs) (i : Nat) (gen : Int) (hi : bs.length ≤ i) (hi2 : i ≤ 4294967295) :
    Calls Try.prog 34 #[.pointer (some ⟨g, 0, none⟩), .agg #[.int .u32 (i : Int), .int .u32 gen]] W fun e w' => e = .returned (.pointer none) ∧ Below W.heap.size W w' := by
  have HB := Aside0.mk (Below.refl W.heap.size W)
  have h5 := h.1
  obtain ⟨Ab, cb, rfl⟩ := h.bval
  obtain ⟨Af, cf, rfl, hfl⟩ := h.fval
  have q0 := blk_cell h5 0
  have q1 := blk_cell h5 1
  have q2 := blk_cell h5 2
  have q3 := blk_cell h5 3
  have q4 := blk_cell h5 4
  have f1 := blk_frozen h5 1
  have f2 := blk_frozen h5 2
  have f3 := blk_frozen h5 3
  have f4 := blk_frozen h5 4
  have hlt := h.lt
  simp only [List.getElem?_toArray, List.getElem?_cons_zero, List.getElem?_cons_succ] at q0 q1 q2 q3 q4
  have H := Aside0.mk h
  clear h h5
  go_enter Try.func34, Try.ntmps34
  go_wp2
  go_quiet (fail)
  go_wp2
  go_ret
  exact ⟨rfl, (by repeat (first | (with_reducible first | exact HB.out | apply below_alloc | apply pw_below_drewN | apply below_drew1) | exact HB.out))⟩
set_option maxHeartbeats 1000000 in
set_option maxRecDepth 100000 in
theorem find_dead {W : World} {g : Nat} {cap lim chg : Int} {bv fv : Value} {bs : List S77} {fs : List Int} (h : Ar W g cap lim chg bv bs fv fs) (i : Nat) (gen : Int) (hi : i < bs.length) (hl : bs.length ≤ 4096) (hd : (bk bs i).f1 ≤ 0) :
    Calls Try.prog 34 #[.pointer (some ⟨g, 0, none⟩), .agg #[.int .u32 (i : Int), .int .u32 gen]] W fun e w' => e = .returned (.pointer none) ∧ Below W.heap.size W w' := by
  obtain ⟨gb, cb, hbv, hcc, hff, hne, hlt2, hge, _⟩ := h.elem i hi
  have e0 := hcc 0 _ rfl
  have e1 := hcc 1 _ rfl
  have e2 := hcc 2 _ rfl
  rw [Nat.add_zero] at e0
  generalize bk bs i = b at *
  have HB := Aside0.mk (Below.refl W.heap.size W)
  have h5 := h.1
  subst hbv
  obtain ⟨Af, cf, rfl, hfl⟩ := h.fval
  have q0 := blk_cell h5 0
  have q1 := blk_cell h5 1
  have q2 := blk_cell h5 2
  have q3 := blk_cell h5 3
  have q4 := blk_cell h5 4
  have f1 := blk_frozen h5 1
  have f2 := blk_frozen h5 2
  have f3 := blk_frozen h5 3
  have f4 := blk_frozen h5 4
  have hlt := h.lt
  simp only [List.getElem?_toArray, List.getElem?_cons_zero, List.getElem?_cons_succ] at q0 q1 q2 q3 q4
  have H := Aside0.mk h
  clear h h5
  have hdb : decide (0 < b.f1) = false := decide_eq_false (by omega)
  go_enter Try.func34, Try.ntmps34
  go_wp2
  go_quiet (fail)
  go_wp2
  go_quiet (fail)
  go_wp2
  go_quiet (fail)
  go_wp2
  go_ret
  exact ⟨rfl, (by repeat (first | (with_reducible first | exact HB.out | apply below_alloc | apply pw_below_drewN | apply below_drew1) | exact HB.out))⟩
set_option maxHeartbeats 1000000 in
set_option maxRecDepth 100000 in
theorem find_old {W : World} {g : Nat} {cap lim chg : Int} {bv fv : Value} {bs : List S77} {fs : List Int} (h : Ar W g cap lim chg bv bs fv fs) (i : Nat) (gen : Int) (hi : i < bs.length) (hl : bs.length ≤ 4096) (hd : 0 < (bk bs i).f1) (hg : (bk bs i).f0 ≠ gen) :
    Calls Try.prog 34 #[.pointer (some ⟨g, 0, none⟩), .agg #[.int .u32 (i : Int), .int .u32 gen]] W fun e w' => e = .returned (.pointer none) ∧ Below W.heap.size W w' := by
  obtain ⟨gb, cb, hbv, hcc, hff, hne, hlt2, hge, _⟩ := h.elem i hi
  have e0 := hcc 0 _ rfl
  have e1 := hcc 1 _ rfl
  have e2 := hcc 2 _ rfl
  rw [Nat.add_zero] at e0
  generalize bk bs i = b at *
  have HB := Aside0.mk (Below.refl W.heap.size W)
  have h5 := h.1
  subst hbv
  obtain ⟨Af, cf, rfl, hfl⟩ := h.fval
  have q0 := blk_cell h5 0
  have q1 := blk_cell h5 1
  have q2 := blk_cell h5 2
  have q3 := blk_cell h5 3
  have q4 := blk_cell h5 4
  have f1 := blk_frozen h5 1
  have f2 := blk_frozen h5 2
  have f3 := blk_frozen h5 3
  have f4 := blk_frozen h5 4
  have hlt := h.lt
  simp only [List.getElem?_toArray, List.getElem?_cons_zero, List.getElem?_cons_succ] at q0 q1 q2 q3 q4
  have H := Aside0.mk h
  clear h h5
  have hdb : decide (0 < b.f1) = true := decide_eq_true hd
  have hgb : (b.f0 == gen) = false := beq_eq_false_iff_ne.2 hg
  clear hg
  go_enter Try.func34, Try.ntmps34
  go_wp2
  go_quiet (fail)
  go_wp2
  go_quiet (fail)
  go_wp2
  go_quiet (fail)
  go_wp2
  go_ret
  exact ⟨rfl, (by repeat (first | (with_reducible first | exact HB.out | apply below_alloc | apply pw_below_drewN | apply below_drew1) | exact HB.out))⟩
set_option maxHeartbeats 1000000 in
set_option maxRecDepth 100000 in
theorem find_yes {W : World} {g : Nat} {cap lim chg : Int} {bv fv : Value} {bs : List S77} {fs : List Int} (h : Ar W g cap lim chg bv bs fv fs) (i : Nat) (gen : Int) (hi : i < bs.length) (hl : bs.length ≤ 4096) (hd : 0 < (bk bs i).f1) (hg : (bk bs i).f0 = gen) (gb cb : Nat) (hbv : bv = .slice (some ⟨gb, 0, none⟩) bs.length cb) :
    Calls Try.prog 34 #[.pointer (some ⟨g, 0, none⟩), .agg #[.int .u32 (i : Int), .int .u32 gen]] W fun e w' => e = .returned (.pointer (some ⟨gb, i * 3, none⟩)) ∧ Below W.heap.size W w' := by
  obtain ⟨gb', cb', hbv', hcc, hff, hne, hlt2, hge, _⟩ := h.elem i hi
  have e0 := hcc 0 _ rfl
  have e1 := hcc 1 _ rfl
  have e2 := hcc 2 _ rfl
  rw [Nat.add_zero] at e0
  generalize bk bs i = b at *
  rw [hbv] at hbv'
  injection hbv' with e4 e5 e6
  injection e4 with e4
  injection e4 with e4
  subst e4 e6
  clear e5
  have HB := Aside0.mk (Below.refl W.heap.size W)
  have h5 := h.1
  subst hbv
  obtain ⟨Af, cf, rfl, hfl⟩ := h.fval
  have q0 := blk_cell h5 0
  have q1 := blk_cell h5 1
  have q2 := blk_cell h5 2
  have q3 := blk_cell h5 3
  have q4 := blk_cell h5 4
  have f1 := blk_frozen h5 1
  have f2 := blk_frozen h5 2
  have f3 := blk_frozen h5 3
  have f4 := blk_frozen h5 4
  have hlt := h.lt
  simp only [List.getElem?_toArray, List.getElem?_cons_zero, List.getElem?_cons_succ] at q0 q1 q2 q3 q4
  have H := Aside0.mk h
  clear h h5
  have hdb : decide (0 < b.f1) = true := decide_eq_true hd
  have hgb : (b.f0 == gen) = true := beq_iff_eq.2 hg
  clear hg
  go_enter Try.func34, Try.ntmps34
  go_wp2
  go_quiet (fail)
  go_wp2
  go_quiet (fail)
  go_wp2
  go_quiet (fail)
  go_wp2
  go_ret
  exact ⟨rfl, (by repeat (first | (with_reducible first | exact HB.out | apply below_alloc | apply pw_below_drewN | apply below_drew1) | exact HB.out))⟩
end Go.Proofs.Ytdnpfnoobjbanaa.Hand
