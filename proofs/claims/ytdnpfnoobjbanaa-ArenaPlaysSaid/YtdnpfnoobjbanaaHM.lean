/- Package arena: Free, Fits. -/
import Derived.Test.YtdnpfnoobjbanaaHL
set_option linter.unusedVariables false
set_option linter.unusedSimpArgs false
namespace Go.Proofs.Ytdnpfnoobjbanaa.Hand
open Go.RowKit Go.Proofs.Ytdnpfnoobjbanaa.PArenaPlays Go.Proofs.YtdnpfnoobjbanaaW.PrintWords Go.Proofs.YtdnpfnoobjbanaaW.PrintLast Go.Proofs.YtdnpfnoobjbanaaW.PrintMore
set_option maxHeartbeats 2000000 in
set_option maxRecDepth 100000 in
theorem afree_yes {W : World} {g : Nat} {cap lim chg : Int} {bv fv : Value} {bs : List S77} {fs : List Int} (h : Ar W g cap lim chg bv bs fv fs) (i : Nat) (gen : Int) (hl : bs.length ≤ 4096) (hn : Lives bs i gen) (fx : Int) (hfx : (bk bs i).f1 = fx) (gen' cx : Int) (hgen' : IntKind.u32.wrap (gen + 1) = gen') (hcx : IntKind.i64.wrap (chg - fx) = cx) (hso : fs.Pairwise (· ≤ ·)) (hfl : fs.length ≤ 4096) :
    Calls Try.prog 13 #[.pointer (some ⟨g, 0, none⟩), .agg #[.int .u32 (i : Int), .int .u32 gen]] W fun e w' => e = .returned (.bool true) ∧ ∃ fv', Ar w' g cap lim cx bv (bs.set i ⟨gen', 0, ⟨#[]⟩⟩) fv' (insAt fs (fs.countP (· < (i : Int))) i) ∧ Fr g W w' := by
  have HFX := Aside0.mk hfx
  obtain ⟨hi, hd, hg⟩ := hn
  obtain ⟨gb, cb, hbv, hcc, hff, hne, hlt2, hge, csb, hcb⟩ := h.elem i hi
  have e2 := hcc 2 _ rfl
  have e1 := hcc 1 _ rfl
  have e0 := hcc 0 _ rfl
  rw [Nat.add_zero, hg] at e0
  rw [hfx] at e1
  have HCB := Aside0.mk hcb
  have HN := Aside0.mk (And.intro hi (And.intro hd hg))
  have il : (i : Int) ≤ 4096 := by omega
  clear hcc hff hcb hfx hd hg
  subst hbv
  have HSO := Aside0.mk hso
  clear hso
  have HB := Aside0.mk (Below.refl W.heap.size W)
  have h5 := h.1
  obtain ⟨Af, cf, rfl, hfl2⟩ := h.fval
  have q0 := blk_cell h5 0
  have q1 := blk_cell h5 1
  have q2 := blk_cell h5 2
  have q3 := blk_cell h5 3
  have q4 := blk_cell h5 4
  have f1 := blk_frozen h5 1
  have f2 := blk_frozen h5 2
  have f3 := blk_frozen h5 3
  have f4 := blk_frozen h5 4
  have hlt := h.lt
  simp only [List.getElem?_toArray, List.getElem?_cons_zero, List.getElem?_cons_succ] at q0 q1 q2 q3 q4
  have H := Aside0.mk h
  clear h h5
  go_enter Try.func13, Try.ntmps13
  go_wp2_with (first | (go_at_call 34; (with_reducible refine (find_yes (H.out.below (by repeat (first | (with_reducible first | exact HB.out | apply below_alloc | apply pw_below_drewN | apply below_drew1) | exact HB.out))) i gen HN.out.1 hl HN.out.2.1 HN.out.2.2 gb cb rfl).mono ?_); rintro e w1 ⟨rfl, hb⟩; have B4 := Aside0.mk (blk_below (o := .cells #[.int .u32 (i : Int), .int .u32 gen] 28 (0, 0)) (g := W.heap.size) (by repeat (first | (with_reducible refine blk_drewN ?_ _) | (with_reducible refine blk_drew ?_) | exact blk_new' (by first | rfl | simp) | (with_reducible refine blk_alloc ?_ _))) hb); have n0_ := Aside0.mk (below_step (by repeat (first | (with_reducible first | exact HB.out | apply below_alloc | apply pw_below_drewN | apply below_drew1) | exact HB.out)) hb); clear HB; have HB := n0_; clear n0_; have HA := Aside0.mk (H.out.below HB.out); have z0 := pw_cell_below HB.out e0; have z1 := pw_cell_below HB.out e1; have z2 := pw_cell_below HB.out e2; have BB := blk_below HCB.out HB.out; have zf0 := blk_frozen BB (i * 3); have zf1 := blk_frozen BB (i * 3 + 1); have zf2 := blk_frozen BB (i * 3 + 2); have lb := blk_lt BB; clear q0 q1 q2 q3 q4 f1 f2 f3 f4 hlt e0 e1 e2; have q2 := blk_cell HA.out.1 2; have q4 := blk_cell HA.out.1 4; have f2 := blk_frozen HA.out.1 2; have f4 := blk_frozen HA.out.1 4; have hlt := HA.out.lt; have y0 := blk_cell B4.out 0; have y1 := blk_cell B4.out 1; have y4 := blk_lt B4.out; simp only [List.getElem?_toArray, List.getElem?_cons_zero, List.getElem?_cons_succ] at q2 q4 y0 y1; have x1 : W.heap.size ≠ g := blk_ne B4.out HA.out.1 (by decide); have x2 : W.heap.size ≠ gb := blk_ne B4.out BB (by decide); have x3 : gb ≠ g := blk_ne BB HA.out.1 (by decide); have x4 : g ≠ gb := (fun e => x3 e.symm); have x5 : g ≠ W.heap.size := (fun e => x1 e.symm); have x6 : gb ≠ W.heap.size := (fun e => x2 e.symm); have HBB := Aside0.mk BB; clear BB hb))
  go_region_law (fail)
  all_goals go_wp2
  all_goals have A1 := HA.out.put 2 (.int .i64 cx) rfl HA.out.2.1 HA.out.2.2
  all_goals have A2 := A1.bput i hi rfl 0 (by decide) (.int .u32 gen') ⟨gen', fx, (bk bs i).f2⟩ (by rw [HFX.out]; rfl)
  all_goals have hb2 : bk (bs.set i ⟨gen', fx, (bk bs i).f2⟩) i = ⟨gen', fx, (bk bs i).f2⟩ := by simp [bk, hi]
  all_goals have A3 := A2.1.bput i (by simpa using hi) (gb := gb) (cb := cb) (by rw [List.length_set]) 1 (by decide) (.int .i64 0) ⟨gen', 0, (bk bs i).f2⟩ (by rw [hb2]; rfl)
  all_goals rw [List.set_set] at A3
  all_goals have hb3 : bk (bs.set i ⟨gen', 0, (bk bs i).f2⟩) i = ⟨gen', 0, (bk bs i).f2⟩ := by simp [bk, hi]
  all_goals have A4 := A3.1.bput i (by simpa using hi) (gb := gb) (cb := cb) (by rw [List.length_set]) 2 (by decide) (.string ⟨#[]⟩) ⟨gen', 0, ⟨#[]⟩⟩ (by rw [hb3]; rfl)
  all_goals rw [List.set_set] at A4
  all_goals have F4 := ((((Fr.of_below HB.out).trans (HA.out.fr 2 (.int .i64 cx))).trans A2.2).trans A3.2).trans A4.2
  all_goals have B5 := blk_far (p := ⟨gb, i * 3 + 2, none⟩) (blk_far (p := ⟨gb, i * 3 + 1, none⟩) (blk_far (p := ⟨gb, i * 3 + 0, none⟩) (blk_far (p := ⟨g, 2, none⟩) B4.out x1 (.int .i64 cx)) x2 (.int .u32 gen')) x2 (.int .i64 0)) x2 (.string ⟨#[]⟩)
  all_goals clear q2 q4 f2 f4 hlt y0 y1 y4 z0 z1 z2 zf0 zf1 zf2 lb HBB A1 A2 A3
  all_goals rw [Nat.add_zero] at A4 F4 B5
  all_goals generalize ((((w1.setCell ⟨g, 2, none⟩ (.int .i64 cx)).setCell ⟨gb, i * 3, none⟩ (.int .u32 gen')).setCell ⟨gb, i * 3 + 1, none⟩ (.int .i64 0)).setCell ⟨gb, i * 3 + 2, none⟩ (.string ⟨#[]⟩)) = WX at A4 F4 B5 ⊢
  all_goals have AX := Aside0.mk A4.1
  all_goals have hltx := AX.out.lt
  all_goals have y4 := blk_lt B5
  all_goals have FX := Aside0.mk F4
  all_goals have BX := Aside0.mk B5
  all_goals clear A4 F4 B5 HA HB B4
  all_goals have q4 := blk_cell AX.out.1 4
  all_goals have y0 := blk_cell BX.out 0
  all_goals have y1 := blk_cell BX.out 1
  all_goals have f4 := blk_frozen AX.out.1 4
  all_goals simp only [List.getElem?_toArray, List.getElem?_cons_zero, List.getElem?_cons_succ] at q4 y0 y1
  all_goals have hwi : IntKind.i64.wrap (i : Int) = (i : Int) := IntWalk.i64_in _ ⟨by omega, by omega⟩
  all_goals go_quiet ((go_at_call 35; (try simp only [hwi]); exact (Calls.mono (bs_c (g := g) (Kd.Q_drewN AX.out.2.2 _) HSO.out hfl (i : Int)) (by rintro e w9 ⟨rfl, m, rfl⟩; exact ⟨rfl, _, by rw [World.drewN_drewN, Nat.add_assoc]⟩))))
  all_goals go_wp2
  all_goals have hCW : Below WX.heap.size WX ((WX.drewN (1 + nq + 1)).alloc (.cells #[.int .i64 (i : Int)] 3)) := (by repeat (first | (with_reducible first | exact Below.refl _ _ | apply below_alloc | apply pw_below_drewN | apply below_drew1 | apply below_drew) | exact Below.refl _ _))
  all_goals have AY := Aside0.mk (Ar.below AX.out hCW)
  all_goals have FY := Aside0.mk (FX.out.trans (Fr.of_below hCW))
  all_goals have qy := blk_cell AY.out.1 4
  all_goals have yy := blk_cell (blk_below BX.out hCW) 0
  all_goals simp only [List.getElem?_toArray, List.getElem?_cons_zero, List.getElem?_cons_succ] at qy yy
  all_goals clear hCW
  all_goals go_region_law ((refine goes_ Try.func36 (by kernel_rfl) rfl #[.slice Af fs.length cf, .int .i64 (fs.countP (· < (i : Int)) : Nat), .slice (some ⟨WX.heap.size, 0, none⟩) 1 1] (by rfl) rfl rfl (by simp only [List.map_toArray, List.map_cons, List.map_nil]; rfl) ?_; refine (ins_c (g := g) (vb := WX.heap.size) (x := (i : Int)) AY.out.2.2 (fs.countP (· < (i : Int))) List.countP_le_length hfl (Nat.le_of_lt AY.out.lt) (blk_new' rfl) (fun e => absurd (Kd.Q_lt AX.out.2.2 _ e.symm) (Nat.lt_irrefl _))).mono ?_; rintro e w9 ⟨v9, rfl, hQ, hG⟩; refine ⟨_, rfl, ?_⟩; obtain ⟨A9, c9, e9, _⟩ := Kd.Q_slice hQ; subst e9; have l9 := Nat.lt_of_lt_of_le AY.out.lt hG.size; have K9 := Aside0.mk (blk_grown AY.out.1 hG (Kd.Q_ne AY.out.2.2 AY.out.1 (by decide))); have R9 := Aside0.mk (Kd.R_over' AY.out.2.1 (Kd.Q_typed AY.out.2.2) (by decide) hG); have F9 := Aside0.mk (FY.out.trans (Fr.grown hG AY.out.fown)); have Q9 := Aside0.mk hQ; clear q4 f4 y0 y1 hQ hG; have q4 := blk_cell K9.out 4; have f4 := blk_frozen K9.out 4; simp only [List.getElem?_toArray, List.getElem?_cons_zero, List.getElem?_cons_succ] at q4))
  all_goals go_wp2
  all_goals go_ret
  all_goals exact ⟨rfl, _, Ar.mk' K9.out 4 _ rfl R9.out Q9.out, F9.out.trans (Fr.set K9.out (.inl rfl) (Nat.le_refl g) 4 _)⟩
set_option maxHeartbeats 1000000 in
set_option maxRecDepth 100000 in
theorem afree_no {W : World} {g : Nat} {cap lim chg : Int} {bv fv : Value} {bs : List S77} {fs : List Int} (h : Ar W g cap lim chg bv bs fv fs) (i : Nat) (gen : Int) (hl : bs.length ≤ 4096) (hi : i ≤ 4294967295) (hn : ¬ Lives bs i gen) :
    Calls Try.prog 13 #[.pointer (some ⟨g, 0, none⟩), .agg #[.int .u32 (i : Int), .int .u32 gen]] W fun e w' => e = .returned (.bool false) ∧ Below W.heap.size W w' := by
  have HB := Aside0.mk (Below.refl W.heap.size W)
  have h5 := h.1
  obtain ⟨Ab, cb, rfl⟩ := h.bval
  obtain ⟨Af, cf, rfl, hfl⟩ := h.fval
  have q0 := blk_cell h5 0
  have q1 := blk_cell h5 1
  have q2 := blk_cell h5 2
  have q3 := blk_cell h5 3
  have q4 := blk_cell h5 4
  have f1 := blk_frozen h5 1
  have f2 := blk_frozen h5 2
  have f3 := blk_frozen h5 3
  have f4 := blk_frozen h5 4
  have hlt := h.lt
  simp only [List.getElem?_toArray, List.getElem?_cons_zero, List.getElem?_cons_succ] at q0 q1 q2 q3 q4
  have H := Aside0.mk h
  clear h h5
  have HN := Aside0.mk hn
  clear hn
  go_enter Try.func13, Try.ntmps13
  go_wp2_with (first | (go_at_call 34; (with_reducible refine (find_no (H.out.below (by repeat (first | (with_reducible first | exact HB.out | apply below_alloc | apply pw_below_drewN | apply below_drew1) | exact HB.out))) i gen hl hi HN.out).mono ?_); rintro e w1 ⟨rfl, hb⟩; have n0_ := Aside0.mk (below_step (by repeat (first | (with_reducible first | exact HB.out | apply below_alloc | apply pw_below_drewN | apply below_drew1) | exact HB.out)) hb); clear HB; have HB := n0_; clear n0_))
  go_ret
  exact ⟨rfl, (by repeat (first | (with_reducible first | exact HB.out | apply below_alloc | apply pw_below_drewN | apply below_drew1) | exact HB.out))⟩
end Go.Proofs.Ytdnpfnoobjbanaa.Hand
