/- ArenaPlays: its walk. -/
import Derived.Test.YtdnpfnoobjbanaaI7
set_option linter.unusedVariables false
set_option linter.unusedSimpArgs false
namespace Go.Proofs.Ytdnpfnoobjbanaa.Hand
open Go.RowKit Go.Proofs.Ytdnpfnoobjbanaa.PArenaPlays Go.Proofs.YtdnpfnoobjbanaaW.PrintWords Go.Proofs.YtdnpfnoobjbanaaW.PrintLast Go.Proofs.YtdnpfnoobjbanaaW.PrintMore
set_option maxHeartbeats 4000000 in
set_option maxRecDepth 100000 in
theorem plays_far (a0 L : Int) (ad : Addr) (l : Nat) (c : Nat) (w : World) (h0 : 0 ≤ L) (h1 : L ≤ 16777216) (ha0 : -9223372036854775808 ≤ a0) (ha1 : a0 ≤ 9223372036854775807) (hL : a0 = L) (hlm : l ≤ 140737488351232) (HK : Aside0 (∀ i, i < l → ∃ (kind at_ ln hs : Nat) (N hg0 : Int) (LA : Option Addr) (Lc : Nat) (ls : List Int), kind ≤ 255 ∧ at_ ≤ 255 ∧ ln ≤ 255 ∧ hs ≤ 4294967295 ∧ -9223372036854775808 ≤ N ∧ N ≤ 9223372036854775807 ∧ ls.length ≤ Lc ∧ ls.length ≤ 140737488351232 ∧ ∀ W', Has w W' → DCells W' (ad.add (i * 7)) kind at_ ln N (.slice LA ls.length Lc) hs hg0 ∧ Kd.C (Kd.int .i64) W' LA ls.length ls)) : Calls Try.prog 7 #[.int .i64 a0, .bool false, .slice (some ad) l c] w fun e w' => e = .returned (.bool true) ∧ Below w.heap.size w w' := by
  have hL2 := hL.symm
  clear hL
  subst hL2
  have HB := Aside0.mk (Below.refl w.heap.size w)
  have HL := Aside0.mk (Below.refl w.heap.size w)
  go_enter Try.func7, Try.ntmps7
  go_wp2_with (first | (go_at_call 10; (with_reducible refine (examples_c _).mono ?_); rintro e w1 ⟨rfl, hb⟩; have n0_ := Aside0.mk (below_step (by repeat (first | (with_reducible first | exact HB.out | apply below_alloc | apply pw_below_drewN | apply below_drew1) | exact HB.out)) hb); clear HB; have HB := n0_; clear n0_; have hs_ := below_step (by repeat (first | (with_reducible first | exact HL.out | apply below_alloc | apply pw_below_drewN | apply below_drew1) | exact HL.out)) hb; have hg := below_size HB.out; clear HL hs_ hb; have HL := Aside0.mk (Below.refl w1.heap.size w1)) | (go_at_call 11; (with_reducible refine (x_new L _ h0 h1).mono ?_); rintro e w2 ⟨rfl, hA, hb⟩; have HA := Aside0.mk hA; clear hA; have n0_ := Aside0.mk (below_step (by repeat (first | (with_reducible first | exact HB.out | apply below_alloc | apply pw_below_drewN | apply below_drew1) | exact HB.out)) hb); clear HB; have HB := n0_; clear n0_; have hs_ := below_step (by repeat (first | (with_reducible first | exact HL.out | apply below_alloc | apply pw_below_drewN | apply below_drew1) | exact HL.out)) hb; have hgr := below_size HB.out; clear HL hs_ hb; have HL := Aside0.mk (Below.refl w2.heap.size w2)) | (go_at_call 21; (with_reducible refine (rnew_yes L _ h0 h1).mono ?_); rintro e w3 ⟨rfl, hR, hb⟩; have RR := Aside0.mk hR; clear hR; have n0_ := Aside0.mk (below_step (by repeat (first | (with_reducible first | exact HB.out | apply below_alloc | apply pw_below_drewN | apply below_drew1) | exact HB.out)) hb); clear HB; have HB := n0_; clear n0_; have hs_ := below_step (by repeat (first | (with_reducible first | exact HL.out | apply below_alloc | apply pw_below_drewN | apply below_drew1) | exact HL.out)) hb; have n_ := Aside0.mk (AX.below HA.out hs_); clear HA; have HA := n_; clear n_; clear HL hs_ hb; have HL := Aside0.mk (Below.refl w3.heap.size w3)))
  go_loopw [10, 11] (fun v10 v11 wr => ∃ (i : Nat) (hv : Value) (xs : List (Int × Int)) (bs : List S77) (lim : Int), hv = v10 ∧ v11 = .int .i64 i ∧ i ≤ 40 ∧ xs.length ≤ i ∧ Aside0 (Good bs) ∧ Aside0 (∀ p ∈ xs, 0 ≤ p.1 ∧ p.1 ≤ 4294967295) ∧ Aside0 (Below w.heap.size w wr) ∧ Aside0 (AX wr w1.heap.size L lim bs) ∧ Aside0 (RX wr w2.heap.size L lim bs) ∧ Aside0 (HRow wr w.heap.size hv xs)) (fun _ v _ => 40 - (intOf v).toNat)
  case atStart => exact ⟨0, _, [], [], L, rfl, rfl, by omega, Nat.le_refl _, ⟨Good.nil⟩, ⟨by simp⟩, ⟨(by repeat (first | (with_reducible first | exact HB.out | apply below_alloc | apply pw_below_drewN | apply below_drew1) | exact HB.out))⟩, ⟨HA.out.below (by repeat (first | (with_reducible first | exact HL.out | apply below_alloc | apply pw_below_drewN | apply below_drew1) | exact HL.out))⟩, ⟨RR.out.below (by repeat (first | (with_reducible first | exact HL.out | apply below_alloc | apply pw_below_drewN | apply below_drew1) | exact HL.out))⟩, ⟨HRow.none_ _ _⟩⟩
  case round =>
    clear HB HA HL RR
    obtain ⟨i, hv, xs, bs, lim, rfl, rfl, hi, hxl, HG, HX, HB, HA, RR, HS⟩ := hrel
    have HL := Aside0.mk (Below.refl wr.heap.size wr)
    obtain ⟨hA_, hc_, eh⟩ := HRow.slice HS.out
    subst eh
    by_cases hc : i < l ∧ i < 40
    · obtain ⟨h2, h3⟩ := hc
      obtain ⟨kind, at_, ln, hs, N, hg0, LA, Lc, ls, b1, b2, b3, b4, b5, b6, b7, b8, hD⟩ := HK.out i h2
      have HD := Aside0.mk hD
      clear hD
      obtain ⟨d0, d1, d2, d3, d4, d5, d6⟩ := (HD.out wr (Has.of_below HB.out)).1
      go_upto_region 16 with fail
      clear d0 d1 d2 d3 d4 d5 d6
      go_cut [76] (fun v76 wx => v76 = .bool (selB xs.length at_) ∧ wx = (wr.alloc (.cells #[.int .u8 (kind : Int), .int .u8 (at_ : Int), .int .u8 (ln : Int), .int .i64 N, .slice LA ls.length Lc, .int .u32 (hs : Int), .int .u32 hg0] 53)).alloc (.cells #[.int .u32 (hs : Int), .int .u32 hg0] 28))
      case first => as_aux_lemma =>
        by_cases z1 : 0 < xs.length
        · by_cases z2 : at_ < 220
          · have z3 : decide ((at_ : Int) < 220) = true := by simp; omega
            go_wp2
            all_goals go_meet
            all_goals exact ⟨by unfold selB; simp [z1, z2], rfl⟩
          · have z3 : decide ((at_ : Int) < 220) = false := by simp; omega
            go_wp2
            all_goals go_meet
            all_goals exact ⟨by unfold selB; simp [z1, z2], rfl⟩
        · have z3 : decide (0 < xs.length) = false := decide_eq_false z1
          go_wp2
          all_goals go_meet
          all_goals exact ⟨by unfold selB; simp [z1], rfl⟩
      case rest =>
        obtain ⟨rfl, rfl⟩ := hcut
        go_upto_if 76 with fail
        go_cut [] (fun wx => ∃ (hi_ : Nat) (gen : Int), hi_ ≤ 4294967295 ∧ wx.heap.size = wr.heap.size + 2 ∧ Below w.heap.size w wx ∧ AX wx w1.heap.size L lim bs ∧ RX wx w2.heap.size L lim bs ∧ HRow wx w.heap.size (.slice hA_ xs.length hc_) xs ∧ wx.heap[wr.heap.size]? = some (.cells #[.int .u8 (kind : Int), .int .u8 (at_ : Int), .int .u8 (ln : Int), .int .i64 N, .slice LA ls.length Lc, .int .u32 (hs : Int), .int .u32 hg0] 53 (0, 0)) ∧ wx.heap[wr.heap.size + 1]? = some (.cells #[.int .u32 (hi_ : Int), .int .u32 gen] 28 (0, 0)))
        case first => as_aux_lemma =>
          cases hsl : selB xs.length at_
          · go_wp2
            all_goals go_meet
            all_goals exact ⟨hs, hg0, b4, by simp, (by repeat (first | (with_reducible first | exact HB.out | apply below_alloc | apply pw_below_drewN | apply below_drew1) | exact HB.out)), HA.out.below (by repeat (first | (with_reducible first | exact HL.out | apply below_alloc | apply pw_below_drewN | apply below_drew1) | exact HL.out)), RR.out.below (by repeat (first | (with_reducible first | exact HL.out | apply below_alloc | apply pw_below_drewN | apply below_drew1) | exact HL.out)), HS.out.below (by repeat (first | (with_reducible first | exact HL.out | apply below_alloc | apply pw_below_drewN | apply below_drew1) | exact HL.out)), (blk_alloc (blk_new' rfl) _), blk_new' (by simp)⟩
          · have hsl2 := hsl
            unfold selB at hsl2
            simp only [Bool.and_eq_true, decide_eq_true_eq] at hsl2
            obtain ⟨z1, z2⟩ := hsl2
            obtain ⟨gb, cb, e⟩ := HRow.addr HS.out z1
            injection e with e1 e2 e3
            subst e1 e3
            clear e2
            obtain ⟨k, hk⟩ := Int.eq_ofNat_of_zero_le (show 0 ≤ (at_ : Int) % (xs.length : Int) from Int.emod_nonneg _ (by omega))
            have hk2 : k < xs.length := by have := Int.emod_lt_of_pos (at_ : Int) (show (0 : Int) < (xs.length : Int) by omega); omega
            obtain ⟨p, q, hpq⟩ : ∃ p q, xs.getD k (0, 0) = (p, q) := ⟨_, _, rfl⟩
            have hpb := HX.out (xs.getD k (0, 0)) (by rw [List.getD_eq_getElem?_getD, List.getElem?_eq_getElem hk2]; exact List.getElem_mem hk2)
            rw [hpq] at hpb
            obtain ⟨pn, rfl⟩ := Int.eq_ofNat_of_zero_le hpb.1
            have hpn : pn ≤ 4294967295 := by have := hpb.2; simp at this; omega
            have ⟨qS0, qS1, lS⟩ := HRow.at_ HS.out k hk2 _ _ hpq
            clear hpq hpb
            go_wp2
            all_goals go_meet
            all_goals exact ⟨pn, q, hpn, by simp, (by repeat (first | (with_reducible first | exact HB.out | apply below_alloc | apply pw_below_drewN | apply below_drew1) | exact HB.out)), HA.out.below (by repeat (first | (with_reducible first | exact HL.out | apply below_alloc | apply pw_below_drewN | apply below_drew1) | exact HL.out)), RR.out.below (by repeat (first | (with_reducible first | exact HL.out | apply below_alloc | apply pw_below_drewN | apply below_drew1) | exact HL.out)), HS.out.below (by repeat (first | (with_reducible first | exact HL.out | apply below_alloc | apply pw_below_drewN | apply below_drew1) | exact HL.out)), (blk_alloc (blk_new' rfl) _), blk_new' (by simp)⟩
        case rest =>
          obtain ⟨hi_, gen, bh, hsz, hB_, hA1_, hR_, hS_, hD_, hH_⟩ := hcut
          clear HB HA RR HS HL
          have HB := Aside0.mk hB_
          have HA := Aside0.mk hA1_
          have RR := Aside0.mk hR_
          have HS := Aside0.mk hS_
          have BD := Aside0.mk hD_
          have BH := Aside0.mk hH_
          clear hB_ hA1_ hR_ hS_ hD_ hH_
          have HL := Aside0.mk (Below.refl wc.heap.size wc)
          have p0 := blk_cell BD.out 0
          have p1 := blk_cell BD.out 1
          have p2 := blk_cell BD.out 2
          have p3 := blk_cell BD.out 3
          have p4 := blk_cell BD.out 4
          have p5 := blk_cell BD.out 5
          have p6 := blk_cell BD.out 6
          have pl := blk_lt BD.out
          simp only [List.getElem?_toArray, List.getElem?_cons_zero, List.getElem?_cons_succ] at p0 p1 p2 p3 p4 p5 p6
          have s0 := blk_cell BH.out 0
          have s1 := blk_cell BH.out 1
          have sl_ := blk_lt BH.out
          have sf0 := blk_frozen BH.out 0
          have sf1 := blk_frozen BH.out 1
          simp only [List.getElem?_toArray, List.getElem?_cons_zero, List.getElem?_cons_succ] at s0 s1
          go_upto_if 96 with fail
          go_cut [15] (fun v15 wx => ∃ n : Nat, n ≤ 1275 ∧ v15 = .int .i64 (n : Int) ∧ wx = wc.alloc (.cells #[.int .u32 (hi_ : Int), .int .u32 gen] 54))
          case first => as_aux_lemma =>
            by_cases z2 : 250 < at_
            · have z3 : decide ((250 : Int) < (at_ : Int)) = true := by simp; omega
              go_wp2
              all_goals go_meet
              all_goals exact ⟨ln * 5, by omega, by simp, rfl⟩
            · have z3 : decide ((250 : Int) < (at_ : Int)) = false := by simp; omega
              go_wp2
              all_goals go_meet
              all_goals exact ⟨ln, by omega, rfl, rfl⟩
          case rest =>
            obtain ⟨n, hn, rfl, rfl⟩ := hcut
            go_upto_block 2 with (first | (go_at_call 14; (with_reducible refine ((show Calls Try.prog 14 #[.int .i64 (n : Int), .int .u8 (at_ : Int)] _ _ from text_c n (at_ : Int) _ (by omega))).mono ?_); rintro e w5 ⟨rfl, hb⟩; have n0_ := Aside0.mk (below_step (by repeat (first | (with_reducible first | exact HB.out | apply below_alloc | apply pw_below_drewN | apply below_drew1) | exact HB.out)) hb); clear HB; have HB := n0_; clear n0_; have hs_ := below_step (by repeat (first | (with_reducible first | exact HL.out | apply below_alloc | apply pw_below_drewN | apply below_drew1) | exact HL.out)) hb; have n_ := Aside0.mk (AX.below HA.out hs_); clear HA; have HA := n_; clear n_; have n_ := Aside0.mk (RX.below RR.out hs_); clear RR; have RR := n_; clear n_; have n_ := Aside0.mk (HRow.below HS.out hs_); clear HS; have HS := n_; clear n_; have n_ := Aside0.mk (blk_below BD.out hs_); clear p0 p1 p2 p3 p4 p5 p6 pl; clear BD; have BD := n_; clear n_; have p0 := blk_cell BD.out 0; have p1 := blk_cell BD.out 1; have p2 := blk_cell BD.out 2; have p3 := blk_cell BD.out 3; have p4 := blk_cell BD.out 4; have p5 := blk_cell BD.out 5; have p6 := blk_cell BD.out 6; have pl := blk_lt BD.out; simp only [List.getElem?_toArray, List.getElem?_cons_zero, List.getElem?_cons_succ] at p0 p1 p2 p3 p4 p5 p6; have n_ := Aside0.mk (blk_below BH.out hs_); clear s0 s1 sl_ sf0 sf1; clear BH; have BH := n_; clear n_; have s0 := blk_cell BH.out 0; have s1 := blk_cell BH.out 1; have sl_ := blk_lt BH.out; have sf0 := blk_frozen BH.out 0; have sf1 := blk_frozen BH.out 1; simp only [List.getElem?_toArray, List.getElem?_cons_zero, List.getElem?_cons_succ] at s0 s1; have bq_ := blk_below (o := .cells #[.int .u32 (hi_ : Int), .int .u32 gen] 54 (0, 0)) (g := wc.heap.size) (by repeat (first | (with_reducible refine blk_drewN ?_ _) | (with_reducible refine blk_drew ?_) | exact blk_new' (by first | rfl | simp) | (with_reducible refine blk_alloc ?_ _))) hb; rw [hsz] at bq_; have BQ := Aside0.mk bq_; clear bq_; have r0 := blk_cell BQ.out 0; have r1 := blk_cell BQ.out 1; have rl_ := blk_lt BQ.out; simp only [List.getElem?_toArray, List.getElem?_cons_zero, List.getElem?_cons_succ] at r0 r1; clear HL hs_ hb; have HL := Aside0.mk (Below.refl w5.heap.size w5)))
            go_cut [10, 17, 105] (fun v10 v17 v105 wx => ∃ (hv' : Value) (xs' : List (Int × Int)) (bs' : List S77) (lim' : Int), hv' = v10 ∧ v17 = .bool true ∧ xs'.length ≤ i + 1 ∧ Good bs' ∧ (∀ p ∈ xs', 0 ≤ p.1 ∧ p.1 ≤ 4294967295) ∧ Below w.heap.size w wx ∧ AX wx w1.heap.size L lim' bs' ∧ RX wx w2.heap.size L lim' bs' ∧ HRow wx w.heap.size hv' xs')
            case first => as_aux_lemma =>
              obtain hkd | hkd | hkd | hkd | hkd | hkd | hkd : (kind : Int) % 7 = 0 ∨ (kind : Int) % 7 = 1 ∨ (kind : Int) % 7 = 2 ∨ (kind : Int) % 7 = 3 ∨ (kind : Int) % 7 = 4 ∨ (kind : Int) % 7 = 5 ∨ (kind : Int) % 7 = 6 := by omega
              · obtain ⟨sl, gn, er, hE⟩ : ∃ sl gn er, allocE lim bs n = (sl, gn, er) := ⟨_, _, _, rfl⟩
                have hslb := allocE_bd HG.out n sl gn er hE
                have HE := Aside0.mk hE
                clear hE
                go_wp2_with (first | (go_at_call 12; (with_reducible refine (x_alloc_at (HA.out.below (by repeat (first | (with_reducible first | exact HL.out | apply below_alloc | apply pw_below_drewN | apply below_drew1) | exact HL.out))) HG.out (tx n (at_ : Int)) n (tx_size _ _) sl gn er HE.out).mono ?_); rintro e w6 ⟨rfl, hA, hF⟩; have hF := Fr.trans (Fr.of_below (by repeat (first | (with_reducible first | exact HL.out | apply below_alloc | apply pw_below_drewN | apply below_drew1) | exact HL.out))) hF; have n0_ := Aside0.mk (Fr.below hF HB.out hg (below_size HB.out)); clear HB; have HB := n0_; clear n0_; have n_ := Aside0.mk (RX.fr RR.out hF); clear RR; have RR := n_; clear n_; have n_ := Aside0.mk (HRow.fr HS.out hF); clear HS; have HS := n_; clear n_; have n_ := Aside0.mk (hF.blk BD.out (by unfold AT; decide)); clear p0 p1 p2 p3 p4 p5 p6 pl; clear BD; have BD := n_; clear n_; have p0 := blk_cell BD.out 0; have p1 := blk_cell BD.out 1; have p2 := blk_cell BD.out 2; have p3 := blk_cell BD.out 3; have p4 := blk_cell BD.out 4; have p5 := blk_cell BD.out 5; have p6 := blk_cell BD.out 6; have pl := blk_lt BD.out; simp only [List.getElem?_toArray, List.getElem?_cons_zero, List.getElem?_cons_succ] at p0 p1 p2 p3 p4 p5 p6; have n_ := Aside0.mk (hF.blk BH.out (by unfold AT; decide)); clear s0 s1 sl_ sf0 sf1; clear BH; have BH := n_; clear n_; have s0 := blk_cell BH.out 0; have s1 := blk_cell BH.out 1; have sl_ := blk_lt BH.out; have sf0 := blk_frozen BH.out 0; have sf1 := blk_frozen BH.out 1; simp only [List.getElem?_toArray, List.getElem?_cons_zero, List.getElem?_cons_succ] at s0 s1; have n_ := Aside0.mk (hF.blk BQ.out (by unfold AT; decide)); clear r0 r1 rl_; clear BQ; have BQ := n_; clear n_; have r0 := blk_cell BQ.out 0; have r1 := blk_cell BQ.out 1; have rl_ := blk_lt BQ.out; simp only [List.getElem?_toArray, List.getElem?_cons_zero, List.getElem?_cons_succ] at r0 r1; clear HA; have HA := Aside0.mk (show AX w6 w1.heap.size L lim (allocB lim bs (tx n (at_ : Int))) from hA); clear hA HL hF; have HL := Aside0.mk (Below.refl w6.heap.size w6)) | (go_at_call 22; (with_reducible refine (r_alloc_at (RR.out.below (by repeat (first | (with_reducible first | exact HL.out | apply below_alloc | apply pw_below_drewN | apply below_drew1) | exact HL.out))) HG.out (tx n (at_ : Int)) n (tx_size _ _) sl gn er HE.out).mono ?_); rintro e w7 ⟨rfl, hA, hF⟩; have BX := Aside0.mk (hF.blk (k := w6.heap.size) (cs := #[.int .u32 sl, .int .u32 gn]) (q := 28) (by repeat (first | (with_reducible refine blk_drewN ?_ _) | (with_reducible refine blk_drew ?_) | exact blk_new' (by first | rfl | simp) | (with_reducible refine blk_alloc ?_ _))) (by unfold RT; decide)); have hF := FR.trans (FR.of_below (by repeat (first | (with_reducible first | exact HL.out | apply below_alloc | apply pw_below_drewN | apply below_drew1) | exact HL.out))) hF; have n0_ := Aside0.mk (FR.below hF HB.out hgr (below_size HB.out)); clear HB; have HB := n0_; clear n0_; have n_ := Aside0.mk (AX.fR HA.out hF); clear HA; have HA := n_; clear n_; have n_ := Aside0.mk (HRow.fR HS.out hF); clear HS; have HS := n_; clear n_; have n_ := Aside0.mk (hF.blk BD.out (by unfold RT; decide)); clear p0 p1 p2 p3 p4 p5 p6 pl; clear BD; have BD := n_; clear n_; have p0 := blk_cell BD.out 0; have p1 := blk_cell BD.out 1; have p2 := blk_cell BD.out 2; have p3 := blk_cell BD.out 3; have p4 := blk_cell BD.out 4; have p5 := blk_cell BD.out 5; have p6 := blk_cell BD.out 6; have pl := blk_lt BD.out; simp only [List.getElem?_toArray, List.getElem?_cons_zero, List.getElem?_cons_succ] at p0 p1 p2 p3 p4 p5 p6; have n_ := Aside0.mk (hF.blk BH.out (by unfold RT; decide)); clear s0 s1 sl_ sf0 sf1; clear BH; have BH := n_; clear n_; have s0 := blk_cell BH.out 0; have s1 := blk_cell BH.out 1; have sl_ := blk_lt BH.out; have sf0 := blk_frozen BH.out 0; have sf1 := blk_frozen BH.out 1; simp only [List.getElem?_toArray, List.getElem?_cons_zero, List.getElem?_cons_succ] at s0 s1; have n_ := Aside0.mk (hF.blk BQ.out (by unfold RT; decide)); clear r0 r1 rl_; clear BQ; have BQ := n_; clear n_; have r0 := blk_cell BQ.out 0; have r1 := blk_cell BQ.out 1; have rl_ := blk_lt BQ.out; simp only [List.getElem?_toArray, List.getElem?_cons_zero, List.getElem?_cons_succ] at r0 r1; clear RR; have RR := Aside0.mk (show RX w7 w2.heap.size L lim (allocB lim bs (tx n (at_ : Int))) from hA); clear hA HL hF; have HL := Aside0.mk (Below.refl w7.heap.size w7); have qBX_0 := blk_cell BX.out 0; have qBX_1 := blk_cell BX.out 1; have lBX := blk_lt BX.out; simp only [List.getElem?_toArray, List.getElem?_cons_zero, List.getElem?_cons_succ] at qBX_0 qBX_1) | ((with_reducible refine gate_builtin (b := .append) (xs := #[.tmp 138, .tmp 140]) rfl ?_); at_builtin; refine h_append (w0 := w) w.heap.size rfl (.tmp 138) (.tmp 140) rfl (.slice hA_ xs.length hc_) xs sl gn rfl rfl (by simp) (HRow.below HS.out (by repeat (first | (with_reducible first | exact HL.out | apply below_alloc | apply pw_below_drewN | apply below_drew1) | exact HL.out))) (by repeat (first | (with_reducible first | exact HB.out | apply below_alloc | apply pw_below_drewN | apply below_drew1) | exact HB.out)) (below_size (by repeat (first | (with_reducible first | exact HB.out | apply below_alloc | apply pw_below_drewN | apply below_drew1) | exact HB.out))) (by omega) ?_; intro v8 w8 r1 b1 g1; have na_ := Aside0.mk (AX.over (HA.out.below (by repeat (first | (with_reducible first | exact HL.out | apply below_alloc | apply pw_below_drewN | apply below_drew1) | exact HL.out))) (HRow.typed (HRow.below HS.out (by repeat (first | (with_reducible first | exact HL.out | apply below_alloc | apply pw_below_drewN | apply below_drew1) | exact HL.out)))) (by unfold AT; decide) g1); have nr_ := Aside0.mk (RX.over (RR.out.below (by repeat (first | (with_reducible first | exact HL.out | apply below_alloc | apply pw_below_drewN | apply below_drew1) | exact HL.out))) (HRow.typed (HRow.below HS.out (by repeat (first | (with_reducible first | exact HL.out | apply below_alloc | apply pw_below_drewN | apply below_drew1) | exact HL.out)))) (by unfold RT; decide) g1); clear HA HS HB HL RR; have HA := na_; have RR := nr_; have HB := Aside0.mk b1; have HS := Aside0.mk r1; clear na_ nr_; clear r1 b1 g1; have HL := Aside0.mk (Below.refl w8.heap.size w8)))
                all_goals go_meet
                all_goals exact ⟨_, xs ++ [(sl, gn)], allocB lim bs (tx n (at_ : Int)), lim, rfl, rfl, by simp; omega, allocB_good HG.out _, bd_snoc HX.out hslb, HB.out, HA.out, RR.out, HS.out⟩
              · go_wp2_with (first | (go_at_call 15; (with_reducible refine ((show Calls Try.prog 15 #[.pointer (some ⟨w1.heap.size, 0, none⟩), .agg #[.int .u32 (hi_ : Int), .int .u32 gen]] _ _ from x_get (HA.out.below (by repeat (first | (with_reducible first | exact HL.out | apply below_alloc | apply pw_below_drewN | apply below_drew1) | exact HL.out))) HG.out hi_ gen bh)).mono ?_); rintro e w6 ⟨rfl, hb⟩; have n0_ := Aside0.mk (below_step (by repeat (first | (with_reducible first | exact HB.out | apply below_alloc | apply pw_below_drewN | apply below_drew1) | exact HB.out)) hb); clear HB; have HB := n0_; clear n0_; have hs_ := below_step (by repeat (first | (with_reducible first | exact HL.out | apply below_alloc | apply pw_below_drewN | apply below_drew1) | exact HL.out)) hb; have n_ := Aside0.mk (AX.below HA.out hs_); clear HA; have HA := n_; clear n_; have n_ := Aside0.mk (RX.below RR.out hs_); clear RR; have RR := n_; clear n_; have n_ := Aside0.mk (HRow.below HS.out hs_); clear HS; have HS := n_; clear n_; have n_ := Aside0.mk (blk_below BD.out hs_); clear p0 p1 p2 p3 p4 p5 p6 pl; clear BD; have BD := n_; clear n_; have p0 := blk_cell BD.out 0; have p1 := blk_cell BD.out 1; have p2 := blk_cell BD.out 2; have p3 := blk_cell BD.out 3; have p4 := blk_cell BD.out 4; have p5 := blk_cell BD.out 5; have p6 := blk_cell BD.out 6; have pl := blk_lt BD.out; simp only [List.getElem?_toArray, List.getElem?_cons_zero, List.getElem?_cons_succ] at p0 p1 p2 p3 p4 p5 p6; have n_ := Aside0.mk (blk_below BH.out hs_); clear s0 s1 sl_ sf0 sf1; clear BH; have BH := n_; clear n_; have s0 := blk_cell BH.out 0; have s1 := blk_cell BH.out 1; have sl_ := blk_lt BH.out; have sf0 := blk_frozen BH.out 0; have sf1 := blk_frozen BH.out 1; simp only [List.getElem?_toArray, List.getElem?_cons_zero, List.getElem?_cons_succ] at s0 s1; have n_ := Aside0.mk (blk_below BQ.out hs_); clear r0 r1 rl_; clear BQ; have BQ := n_; clear n_; have r0 := blk_cell BQ.out 0; have r1 := blk_cell BQ.out 1; have rl_ := blk_lt BQ.out; simp only [List.getElem?_toArray, List.getElem?_cons_zero, List.getElem?_cons_succ] at r0 r1; clear HL hs_ hb; have HL := Aside0.mk (Below.refl w6.heap.size w6)) | (go_at_call 23; (with_reducible refine ((show Calls Try.prog 23 #[.pointer (some ⟨w2.heap.size, 0, none⟩), .agg #[.int .u32 (hi_ : Int), .int .u32 gen]] _ _ from r_get (RR.out.below (by repeat (first | (with_reducible first | exact HL.out | apply below_alloc | apply pw_below_drewN | apply below_drew1) | exact HL.out))) HG.out hi_ gen bh)).mono ?_); rintro e w7 ⟨rfl, hb⟩; have n0_ := Aside0.mk (below_step (by repeat (first | (with_reducible first | exact HB.out | apply below_alloc | apply pw_below_drewN | apply below_drew1) | exact HB.out)) hb); clear HB; have HB := n0_; clear n0_; have hs_ := below_step (by repeat (first | (with_reducible first | exact HL.out | apply below_alloc | apply pw_below_drewN | apply below_drew1) | exact HL.out)) hb; have n_ := Aside0.mk (AX.below HA.out hs_); clear HA; have HA := n_; clear n_; have n_ := Aside0.mk (RX.below RR.out hs_); clear RR; have RR := n_; clear n_; have n_ := Aside0.mk (HRow.below HS.out hs_); clear HS; have HS := n_; clear n_; have n_ := Aside0.mk (blk_below BD.out hs_); clear p0 p1 p2 p3 p4 p5 p6 pl; clear BD; have BD := n_; clear n_; have p0 := blk_cell BD.out 0; have p1 := blk_cell BD.out 1; have p2 := blk_cell BD.out 2; have p3 := blk_cell BD.out 3; have p4 := blk_cell BD.out 4; have p5 := blk_cell BD.out 5; have p6 := blk_cell BD.out 6; have pl := blk_lt BD.out; simp only [List.getElem?_toArray, List.getElem?_cons_zero, List.getElem?_cons_succ] at p0 p1 p2 p3 p4 p5 p6; have n_ := Aside0.mk (blk_below BH.out hs_); clear s0 s1 sl_ sf0 sf1; clear BH; have BH := n_; clear n_; have s0 := blk_cell BH.out 0; have s1 := blk_cell BH.out 1; have sl_ := blk_lt BH.out; have sf0 := blk_frozen BH.out 0; have sf1 := blk_frozen BH.out 1; simp only [List.getElem?_toArray, List.getElem?_cons_zero, List.getElem?_cons_succ] at s0 s1; have n_ := Aside0.mk (blk_below BQ.out hs_); clear r0 r1 rl_; clear BQ; have BQ := n_; clear n_; have r0 := blk_cell BQ.out 0; have r1 := blk_cell BQ.out 1; have rl_ := blk_lt BQ.out; simp only [List.getElem?_toArray, List.getElem?_cons_zero, List.getElem?_cons_succ] at r0 r1; clear HL hs_ hb; have HL := Aside0.mk (Below.refl w7.heap.size w7)))
                all_goals go_meet
                all_goals exact ⟨_, xs, bs, lim, rfl, by simp, by omega, HG.out, HX.out, (by repeat (first | (with_reducible first | exact HB.out | apply below_alloc | apply pw_below_drewN | apply below_drew1) | exact HB.out)), HA.out.below (by repeat (first | (with_reducible first | exact HL.out | apply below_alloc | apply pw_below_drewN | apply below_drew1) | exact HL.out)), RR.out.below (by repeat (first | (with_reducible first | exact HL.out | apply below_alloc | apply pw_below_drewN | apply below_drew1) | exact HL.out)), HS.out.below (by repeat (first | (with_reducible first | exact HL.out | apply below_alloc | apply pw_below_drewN | apply below_drew1) | exact HL.out))⟩
              · go_upto_region 36 with fail
                clear p0 p1 p2 p3 p4 p5 p6 pl s0 s1 sl_ sf0 sf1 r0 r1 rl_
                refine start_ (n := 10) (S := fun w' => w'.cell? ⟨wr.heap.size + 1, 0, none⟩ = some (.int .u32 (hi_ : Int)) ∧ w'.cell? ⟨wr.heap.size + 1, 1, none⟩ = some (.int .u32 gen) ∧ w'.cell? ⟨wr.heap.size + 2, 0, none⟩ = some (.int .u32 (hi_ : Int)) ∧ w'.cell? ⟨wr.heap.size + 2, 1, none⟩ = some (.int .u32 gen)) (ds := []) #[false, false, false, false, false, false, false, false, false, false] (by kernel_rfl) rfl rfl ⟨(blk_cell BH.out 0), (blk_cell BH.out 1), (blk_cell BQ.out 0), (blk_cell BQ.out 1)⟩ (fun hHeld => ?_)
                refine pure_ (i := 0) (N := some 166) (v := ?_) (a' := ?_) #[true, false, false, false, false, false, false, false, false, false] rfl rfl (by kernel_rfl) (fun _ _ _ h => h) (Or.inl ⟨by rfl, ?_⟩) ?_ ?_
                rotate_left
                · intro w'
                  go_simp
                  with_reducible rfl
                rotate_left
                · simp only [Act.put, List.setIfInBounds_toArray, List.set_cons_zero, List.set_cons_succ, i64_w, i32_w]
                  rfl
                refine pure_ (i := 2) (N := some 168) (v := ?_) (a' := ?_) #[true, false, true, false, false, false, false, false, false, false] rfl rfl (by kernel_rfl) (fun _ _ _ h => h) (Or.inl ⟨by rfl, ?_⟩) ?_ ?_
                rotate_left
                · intro w'
                  go_simp
                  with_reducible rfl
                rotate_left
                · simp only [Act.put, List.setIfInBounds_toArray, List.set_cons_zero, List.set_cons_succ, i64_w, i32_w]
                  rfl
                refine pure_ (i := 4) (N := some 170) (v := ?_) (a' := ?_) #[true, false, true, false, true, false, false, false, false, false] rfl rfl (by kernel_rfl) (fun _ _ _ h => h) (Or.inl ⟨by rfl, ?_⟩) ?_ ?_
                rotate_left
                · intro w'
                  go_simp
                  with_reducible rfl
                rotate_left
                · simp only [Act.put, List.setIfInBounds_toArray, List.set_cons_zero, List.set_cons_succ, i64_w, i32_w]
                  rfl
                refine pure_ (i := 6) (N := some 172) (v := ?_) (a' := ?_) #[true, false, true, false, true, false, true, false, false, false] rfl rfl (by kernel_rfl) (fun _ _ _ h => h) (Or.inl ⟨by rfl, ?_⟩) ?_ ?_
                rotate_left
                · intro w'
                  go_simp
                  with_reducible rfl
                rotate_left
                · simp only [Act.put, List.setIfInBounds_toArray, List.set_cons_zero, List.set_cons_succ, i64_w, i32_w]
                  rfl
                refine take_ (i := 1) (N := some 167) (v := ?_) (a' := ?_) #[true, true, true, false, true, false, true, false, false, false] rfl rfl (by kernel_rfl) (fun _ _ _ h => h) (Or.inl ⟨by rfl, ?_⟩) hHeld ?_ ?_
                rotate_left
                · rintro w' ⟨s0, s1, s2, s3⟩
                  go_simp
                  with_reducible rfl
                rotate_left
                · simp only [Act.put, List.setIfInBounds_toArray, List.set_cons_zero, List.set_cons_succ, i64_w, i32_w]
                  rfl
                refine take_ (i := 5) (N := some 171) (v := ?_) (a' := ?_) #[true, true, true, false, true, true, true, false, false, false] rfl rfl (by kernel_rfl) (fun _ _ _ h => h) (Or.inl ⟨by rfl, ?_⟩) hHeld ?_ ?_
                rotate_left
                · rintro w' ⟨s0, s1, s2, s3⟩
                  go_simp
                  with_reducible rfl
                rotate_left
                · simp only [Act.put, List.setIfInBounds_toArray, List.set_cons_zero, List.set_cons_succ, i64_w, i32_w]
                  rfl
                refine one_ (i := 3) (N := some 169) #[true, true, true, true, true, true, true, false, false, false] rfl rfl (by kernel_rfl) (by decide) (fun Kc hKc => ?_)
                refine goes_ Try.func16 (by kernel_rfl) rfl #[.pointer (some ⟨w1.heap.size, 0, none⟩), .agg #[.int .u32 (hi_ : Int), .int .u32 gen], .string (tx n (at_ : Int))] (by rfl) rfl rfl (by simp only [List.map_toArray, List.map_cons, List.map_nil]; rfl) ?_
                with_reducible refine (x_put (HA.out.below (by repeat (first | (with_reducible first | exact HL.out | apply below_alloc | apply pw_below_drewN | apply below_drew1) | exact HL.out))) HG.out hi_ gen bh (tx n (at_ : Int))).mono ?_
                rintro e w6 ⟨rfl, hA, hF⟩
                refine ⟨_, rfl, ?_⟩
                have hF := Fr.trans (Fr.of_below (by repeat (first | (with_reducible first | exact HL.out | apply below_alloc | apply pw_below_drewN | apply below_drew1) | exact HL.out))) hF; have n0_ := Aside0.mk (Fr.below hF HB.out hg (below_size HB.out)); clear HB; have HB := n0_; clear n0_; have n_ := Aside0.mk (RX.fr RR.out hF); clear RR; have RR := n_; clear n_; have n_ := Aside0.mk (HRow.fr HS.out hF); clear HS; have HS := n_; clear n_; have n_ := Aside0.mk (hF.blk BD.out (by unfold AT; decide)); clear BD; have BD := n_; clear n_; have n_ := Aside0.mk (hF.blk BH.out (by unfold AT; decide)); clear BH; have BH := n_; clear n_; have n_ := Aside0.mk (hF.blk BQ.out (by unfold AT; decide)); clear BQ; have BQ := n_; clear n_; clear HA; have HA := Aside0.mk (show AX w6 w1.heap.size L lim (putB bs hi_ gen (tx n (at_ : Int))) from hA); clear hA HL hF; have HL := Aside0.mk (Below.refl w6.heap.size w6)
                refine hKc.out _ _ ⟨(blk_cell BH.out 0), (blk_cell BH.out 1), (blk_cell BQ.out 0), (blk_cell BQ.out 1)⟩ (fun hHeld => ?_)
                clear hKc Kc
                refine norm_ (a' := ?_) ?_ ?_
                rotate_left
                · show Act.put _ (some 169) _ = _
                  simp only [Act.put, List.setIfInBounds_toArray, List.set_cons_zero, List.set_cons_succ, i64_w, i32_w]
                  rfl
                refine one_ (i := 7) (N := some 173) #[true, true, true, true, true, true, true, true, false, false] rfl rfl (by kernel_rfl) (by decide) (fun Kc hKc => ?_)
                refine goes_ Try.func24 (by kernel_rfl) rfl #[.pointer (some ⟨w2.heap.size, 0, none⟩), .agg #[.int .u32 (hi_ : Int), .int .u32 gen], .string (tx n (at_ : Int))] (by rfl) rfl rfl (by simp only [List.map_toArray, List.map_cons, List.map_nil]; rfl) ?_
                with_reducible refine (r_put (RR.out.below (by repeat (first | (with_reducible first | exact HL.out | apply below_alloc | apply pw_below_drewN | apply below_drew1) | exact HL.out))) HG.out hi_ gen bh (tx n (at_ : Int))).mono ?_
                rintro e w7 ⟨rfl, hA, hF⟩
                refine ⟨_, rfl, ?_⟩
                have hF := FR.trans (FR.of_below (by repeat (first | (with_reducible first | exact HL.out | apply below_alloc | apply pw_below_drewN | apply below_drew1) | exact HL.out))) hF; have n0_ := Aside0.mk (FR.below hF HB.out hgr (below_size HB.out)); clear HB; have HB := n0_; clear n0_; have n_ := Aside0.mk (AX.fR HA.out hF); clear HA; have HA := n_; clear n_; have n_ := Aside0.mk (HRow.fR HS.out hF); clear HS; have HS := n_; clear n_; have n_ := Aside0.mk (hF.blk BD.out (by unfold RT; decide)); clear BD; have BD := n_; clear n_; have n_ := Aside0.mk (hF.blk BH.out (by unfold RT; decide)); clear BH; have BH := n_; clear n_; have n_ := Aside0.mk (hF.blk BQ.out (by unfold RT; decide)); clear BQ; have BQ := n_; clear n_; clear RR; have RR := Aside0.mk (show RX w7 w2.heap.size L lim (putB bs hi_ gen (tx n (at_ : Int))) from hA); clear hA HL hF; have HL := Aside0.mk (Below.refl w7.heap.size w7)
                refine hKc.out _ _ ⟨(blk_cell BH.out 0), (blk_cell BH.out 1), (blk_cell BQ.out 0), (blk_cell BQ.out 1)⟩ (fun hHeld => ?_)
                clear hKc Kc
                refine norm_ (a' := ?_) ?_ ?_
                rotate_left
                · show Act.put _ (some 173) _ = _
                  simp only [Act.put, List.setIfInBounds_toArray, List.set_cons_zero, List.set_cons_succ, i64_w, i32_w]
                  rfl
                refine pure_ (i := 8) (N := some 174) (v := ?_) (a' := ?_) #[true, true, true, true, true, true, true, true, true, false] rfl rfl (by kernel_rfl) (fun _ _ _ h => h) (Or.inl ⟨by rfl, ?_⟩) ?_ ?_
                rotate_left
                · intro w'
                  go_simp
                  with_reducible rfl
                rotate_left
                · simp only [Act.put, List.setIfInBounds_toArray, List.set_cons_zero, List.set_cons_succ, i64_w, i32_w]
                  rfl
                refine pure_ (i := 9) (N := some 17) (v := ?_) (a' := ?_) #[true, true, true, true, true, true, true, true, true, true] rfl rfl (by kernel_rfl) (fun _ _ _ h => h) (Or.inl ⟨by rfl, ?_⟩) ?_ ?_
                rotate_left
                · intro w'
                  go_simp
                  with_reducible rfl
                rotate_left
                · simp only [Act.put, List.setIfInBounds_toArray, List.set_cons_zero, List.set_cons_succ, i64_w, i32_w]
                  rfl
                refine done_ (by kernel_rfl) ?_
                go_wp2
                all_goals go_meet
                all_goals exact ⟨_, xs, (putB bs hi_ gen (tx n (at_ : Int))), lim, rfl, by simp, by omega, putB_good HG.out _ _ _, HX.out, HB.out, HA.out, RR.out, HS.out⟩
              · go_upto_region 38 with fail
                clear p0 p1 p2 p3 p4 p5 p6 pl s0 s1 sl_ sf0 sf1 r0 r1 rl_
                refine start_ (n := 8) (S := fun w' => w'.cell? ⟨wr.heap.size + 1, 0, none⟩ = some (.int .u32 (hi_ : Int)) ∧ w'.cell? ⟨wr.heap.size + 1, 1, none⟩ = some (.int .u32 gen) ∧ w'.cell? ⟨wr.heap.size + 2, 0, none⟩ = some (.int .u32 (hi_ : Int)) ∧ w'.cell? ⟨wr.heap.size + 2, 1, none⟩ = some (.int .u32 gen)) (ds := []) #[false, false, false, false, false, false, false, false] (by kernel_rfl) rfl rfl ⟨(blk_cell BH.out 0), (blk_cell BH.out 1), (blk_cell BQ.out 0), (blk_cell BQ.out 1)⟩ (fun hHeld => ?_)
                refine pure_ (i := 0) (N := some 177) (v := ?_) (a' := ?_) #[true, false, false, false, false, false, false, false] rfl rfl (by kernel_rfl) (fun _ _ _ h => h) (Or.inl ⟨by rfl, ?_⟩) ?_ ?_
                rotate_left
                · intro w'
                  go_simp
                  with_reducible rfl
                rotate_left
                · simp only [Act.put, List.setIfInBounds_toArray, List.set_cons_zero, List.set_cons_succ, i64_w, i32_w]
                  rfl
                refine pure_ (i := 3) (N := some 180) (v := ?_) (a' := ?_) #[true, false, false, true, false, false, false, false] rfl rfl (by kernel_rfl) (fun _ _ _ h => h) (Or.inl ⟨by rfl, ?_⟩) ?_ ?_
                rotate_left
                · intro w'
                  go_simp
                  with_reducible rfl
                rotate_left
                · simp only [Act.put, List.setIfInBounds_toArray, List.set_cons_zero, List.set_cons_succ, i64_w, i32_w]
                  rfl
                refine take_ (i := 1) (N := some 178) (v := ?_) (a' := ?_) #[true, true, false, true, false, false, false, false] rfl rfl (by kernel_rfl) (fun _ _ _ h => h) (Or.inl ⟨by rfl, ?_⟩) hHeld ?_ ?_
                rotate_left
                · rintro w' ⟨s0, s1, s2, s3⟩
                  go_simp
                  with_reducible rfl
                rotate_left
                · simp only [Act.put, List.setIfInBounds_toArray, List.set_cons_zero, List.set_cons_succ, i64_w, i32_w]
                  rfl
                refine take_ (i := 4) (N := some 181) (v := ?_) (a' := ?_) #[true, true, false, true, true, false, false, false] rfl rfl (by kernel_rfl) (fun _ _ _ h => h) (Or.inl ⟨by rfl, ?_⟩) hHeld ?_ ?_
                rotate_left
                · rintro w' ⟨s0, s1, s2, s3⟩
                  go_simp
                  with_reducible rfl
                rotate_left
                · simp only [Act.put, List.setIfInBounds_toArray, List.set_cons_zero, List.set_cons_succ, i64_w, i32_w]
                  rfl
                refine one_ (i := 2) (N := some 179) #[true, true, true, true, true, false, false, false] rfl rfl (by kernel_rfl) (by decide) (fun Kc hKc => ?_)
                refine goes_ Try.func13 (by kernel_rfl) rfl #[.pointer (some ⟨w1.heap.size, 0, none⟩), .agg #[.int .u32 (hi_ : Int), .int .u32 gen]] (by rfl) rfl rfl (by simp only [List.map_toArray, List.map_cons, List.map_nil]; rfl) ?_
                with_reducible refine (x_free (HA.out.below (by repeat (first | (with_reducible first | exact HL.out | apply below_alloc | apply pw_below_drewN | apply below_drew1) | exact HL.out))) HG.out hi_ gen bh).mono ?_
                rintro e w6 ⟨rfl, hA, hF⟩
                refine ⟨_, rfl, ?_⟩
                have hF := Fr.trans (Fr.of_below (by repeat (first | (with_reducible first | exact HL.out | apply below_alloc | apply pw_below_drewN | apply below_drew1) | exact HL.out))) hF; have n0_ := Aside0.mk (Fr.below hF HB.out hg (below_size HB.out)); clear HB; have HB := n0_; clear n0_; have n_ := Aside0.mk (RX.fr RR.out hF); clear RR; have RR := n_; clear n_; have n_ := Aside0.mk (HRow.fr HS.out hF); clear HS; have HS := n_; clear n_; have n_ := Aside0.mk (hF.blk BD.out (by unfold AT; decide)); clear BD; have BD := n_; clear n_; have n_ := Aside0.mk (hF.blk BH.out (by unfold AT; decide)); clear BH; have BH := n_; clear n_; have n_ := Aside0.mk (hF.blk BQ.out (by unfold AT; decide)); clear BQ; have BQ := n_; clear n_; clear HA; have HA := Aside0.mk (show AX w6 w1.heap.size L lim (freeB bs hi_ gen) from hA); clear hA HL hF; have HL := Aside0.mk (Below.refl w6.heap.size w6)
                refine hKc.out _ _ ⟨(blk_cell BH.out 0), (blk_cell BH.out 1), (blk_cell BQ.out 0), (blk_cell BQ.out 1)⟩ (fun hHeld => ?_)
                clear hKc Kc
                refine norm_ (a' := ?_) ?_ ?_
                rotate_left
                · show Act.put _ (some 179) _ = _
                  simp only [Act.put, List.setIfInBounds_toArray, List.set_cons_zero, List.set_cons_succ, i64_w, i32_w]
                  rfl
                refine one_ (i := 5) (N := some 182) #[true, true, true, true, true, true, false, false] rfl rfl (by kernel_rfl) (by decide) (fun Kc hKc => ?_)
                refine goes_ Try.func25 (by kernel_rfl) rfl #[.pointer (some ⟨w2.heap.size, 0, none⟩), .agg #[.int .u32 (hi_ : Int), .int .u32 gen]] (by rfl) rfl rfl (by simp only [List.map_toArray, List.map_cons, List.map_nil]; rfl) ?_
                with_reducible refine (r_free (RR.out.below (by repeat (first | (with_reducible first | exact HL.out | apply below_alloc | apply pw_below_drewN | apply below_drew1) | exact HL.out))) HG.out hi_ gen bh).mono ?_
                rintro e w7 ⟨rfl, hA, hF⟩
                refine ⟨_, rfl, ?_⟩
                have hF := FR.trans (FR.of_below (by repeat (first | (with_reducible first | exact HL.out | apply below_alloc | apply pw_below_drewN | apply below_drew1) | exact HL.out))) hF; have n0_ := Aside0.mk (FR.below hF HB.out hgr (below_size HB.out)); clear HB; have HB := n0_; clear n0_; have n_ := Aside0.mk (AX.fR HA.out hF); clear HA; have HA := n_; clear n_; have n_ := Aside0.mk (HRow.fR HS.out hF); clear HS; have HS := n_; clear n_; have n_ := Aside0.mk (hF.blk BD.out (by unfold RT; decide)); clear BD; have BD := n_; clear n_; have n_ := Aside0.mk (hF.blk BH.out (by unfold RT; decide)); clear BH; have BH := n_; clear n_; have n_ := Aside0.mk (hF.blk BQ.out (by unfold RT; decide)); clear BQ; have BQ := n_; clear n_; clear RR; have RR := Aside0.mk (show RX w7 w2.heap.size L lim (freeB bs hi_ gen) from hA); clear hA HL hF; have HL := Aside0.mk (Below.refl w7.heap.size w7)
                refine hKc.out _ _ ⟨(blk_cell BH.out 0), (blk_cell BH.out 1), (blk_cell BQ.out 0), (blk_cell BQ.out 1)⟩ (fun hHeld => ?_)
                clear hKc Kc
                refine norm_ (a' := ?_) ?_ ?_
                rotate_left
                · show Act.put _ (some 182) _ = _
                  simp only [Act.put, List.setIfInBounds_toArray, List.set_cons_zero, List.set_cons_succ, i64_w, i32_w]
                  rfl
                refine pure_ (i := 6) (N := some 183) (v := ?_) (a' := ?_) #[true, true, true, true, true, true, true, false] rfl rfl (by kernel_rfl) (fun _ _ _ h => h) (Or.inl ⟨by rfl, ?_⟩) ?_ ?_
                rotate_left
                · intro w'
                  go_simp
                  with_reducible rfl
                rotate_left
                · simp only [Act.put, List.setIfInBounds_toArray, List.set_cons_zero, List.set_cons_succ, i64_w, i32_w]
                  rfl
                refine pure_ (i := 7) (N := some 17) (v := ?_) (a' := ?_) #[true, true, true, true, true, true, true, true] rfl rfl (by kernel_rfl) (fun _ _ _ h => h) (Or.inl ⟨by rfl, ?_⟩) ?_ ?_
                rotate_left
                · intro w'
                  go_simp
                  with_reducible rfl
                rotate_left
                · simp only [Act.put, List.setIfInBounds_toArray, List.set_cons_zero, List.set_cons_succ, i64_w, i32_w]
                  rfl
                refine done_ (by kernel_rfl) ?_
                go_wp2
                all_goals go_meet
                all_goals exact ⟨_, xs, (freeB bs hi_ gen), lim, rfl, by simp, by omega, freeB_good HG.out _ _, HX.out, HB.out, HA.out, RR.out, HS.out⟩
              · by_cases z5 : ln < 200
                · have z6 : decide ((ln : Int) < 200) = true := by simp; omega
                  have hm1 := Int.lt_tmod_of_pos N (show (0 : Int) < 700 by decide)
                  have hm2 := Int.tmod_lt_of_pos N (show (0 : Int) < 700 by decide)
                  go_wp2_with (first | (go_at_call 26; (with_reducible refine (x_setlimit (HA.out.below (by repeat (first | (with_reducible first | exact HL.out | apply below_alloc | apply pw_below_drewN | apply below_drew1) | exact HL.out))) (N.tmod 700)).mono ?_); rintro e w6 ⟨rfl, hA, hF⟩; have hF := Fr.trans (Fr.of_below (by repeat (first | (with_reducible first | exact HL.out | apply below_alloc | apply pw_below_drewN | apply below_drew1) | exact HL.out))) hF; have n0_ := Aside0.mk (Fr.below hF HB.out hg (below_size HB.out)); clear HB; have HB := n0_; clear n0_; have n_ := Aside0.mk (RX.fr RR.out hF); clear RR; have RR := n_; clear n_; have n_ := Aside0.mk (HRow.fr HS.out hF); clear HS; have HS := n_; clear n_; have n_ := Aside0.mk (hF.blk BD.out (by unfold AT; decide)); clear p0 p1 p2 p3 p4 p5 p6 pl; clear BD; have BD := n_; clear n_; have p0 := blk_cell BD.out 0; have p1 := blk_cell BD.out 1; have p2 := blk_cell BD.out 2; have p3 := blk_cell BD.out 3; have p4 := blk_cell BD.out 4; have p5 := blk_cell BD.out 5; have p6 := blk_cell BD.out 6; have pl := blk_lt BD.out; simp only [List.getElem?_toArray, List.getElem?_cons_zero, List.getElem?_cons_succ] at p0 p1 p2 p3 p4 p5 p6; have n_ := Aside0.mk (hF.blk BH.out (by unfold AT; decide)); clear s0 s1 sl_ sf0 sf1; clear BH; have BH := n_; clear n_; have s0 := blk_cell BH.out 0; have s1 := blk_cell BH.out 1; have sl_ := blk_lt BH.out; have sf0 := blk_frozen BH.out 0; have sf1 := blk_frozen BH.out 1; simp only [List.getElem?_toArray, List.getElem?_cons_zero, List.getElem?_cons_succ] at s0 s1; have n_ := Aside0.mk (hF.blk BQ.out (by unfold AT; decide)); clear r0 r1 rl_; clear BQ; have BQ := n_; clear n_; have r0 := blk_cell BQ.out 0; have r1 := blk_cell BQ.out 1; have rl_ := blk_lt BQ.out; simp only [List.getElem?_toArray, List.getElem?_cons_zero, List.getElem?_cons_succ] at r0 r1; clear HA; have HA := Aside0.mk (show AX w6 w1.heap.size L (limL L lim bs (N.tmod 700)) bs from hA); clear hA HL hF; have HL := Aside0.mk (Below.refl w6.heap.size w6)) | (go_at_call 27; (with_reducible refine (r_setlimit (RR.out.below (by repeat (first | (with_reducible first | exact HL.out | apply below_alloc | apply pw_below_drewN | apply below_drew1) | exact HL.out))) HG.out (N.tmod 700)).mono ?_); rintro e w7 ⟨rfl, hA, hF⟩; have hF := FR.trans (FR.of_below (by repeat (first | (with_reducible first | exact HL.out | apply below_alloc | apply pw_below_drewN | apply below_drew1) | exact HL.out))) hF; have n0_ := Aside0.mk (FR.below hF HB.out hgr (below_size HB.out)); clear HB; have HB := n0_; clear n0_; have n_ := Aside0.mk (AX.fR HA.out hF); clear HA; have HA := n_; clear n_; have n_ := Aside0.mk (HRow.fR HS.out hF); clear HS; have HS := n_; clear n_; have n_ := Aside0.mk (hF.blk BD.out (by unfold RT; decide)); clear p0 p1 p2 p3 p4 p5 p6 pl; clear BD; have BD := n_; clear n_; have p0 := blk_cell BD.out 0; have p1 := blk_cell BD.out 1; have p2 := blk_cell BD.out 2; have p3 := blk_cell BD.out 3; have p4 := blk_cell BD.out 4; have p5 := blk_cell BD.out 5; have p6 := blk_cell BD.out 6; have pl := blk_lt BD.out; simp only [List.getElem?_toArray, List.getElem?_cons_zero, List.getElem?_cons_succ] at p0 p1 p2 p3 p4 p5 p6; have n_ := Aside0.mk (hF.blk BH.out (by unfold RT; decide)); clear s0 s1 sl_ sf0 sf1; clear BH; have BH := n_; clear n_; have s0 := blk_cell BH.out 0; have s1 := blk_cell BH.out 1; have sl_ := blk_lt BH.out; have sf0 := blk_frozen BH.out 0; have sf1 := blk_frozen BH.out 1; simp only [List.getElem?_toArray, List.getElem?_cons_zero, List.getElem?_cons_succ] at s0 s1; have n_ := Aside0.mk (hF.blk BQ.out (by unfold RT; decide)); clear r0 r1 rl_; clear BQ; have BQ := n_; clear n_; have r0 := blk_cell BQ.out 0; have r1 := blk_cell BQ.out 1; have rl_ := blk_lt BQ.out; simp only [List.getElem?_toArray, List.getElem?_cons_zero, List.getElem?_cons_succ] at r0 r1; clear RR; have RR := Aside0.mk (show RX w7 w2.heap.size L (limL L lim bs (N.tmod 700)) bs from hA); clear hA HL hF; have HL := Aside0.mk (Below.refl w7.heap.size w7)))
                  all_goals go_meet
                  all_goals exact ⟨_, xs, bs, limL L lim bs (N.tmod 700), rfl, by simp, by omega, HG.out, HX.out, (by repeat (first | (with_reducible first | exact HB.out | apply below_alloc | apply pw_below_drewN | apply below_drew1) | exact HB.out)), HA.out.below (by repeat (first | (with_reducible first | exact HL.out | apply below_alloc | apply pw_below_drewN | apply below_drew1) | exact HL.out)), RR.out.below (by repeat (first | (with_reducible first | exact HL.out | apply below_alloc | apply pw_below_drewN | apply below_drew1) | exact HL.out)), HS.out.below (by repeat (first | (with_reducible first | exact HL.out | apply below_alloc | apply pw_below_drewN | apply below_drew1) | exact HL.out))⟩
                · have z6 : decide ((ln : Int) < 200) = false := by simp; omega
                  go_wp2_with (first | (go_at_call 26; (with_reducible refine (x_setlimit (HA.out.below (by repeat (first | (with_reducible first | exact HL.out | apply below_alloc | apply pw_below_drewN | apply below_drew1) | exact HL.out))) N).mono ?_); rintro e w6 ⟨rfl, hA, hF⟩; have hF := Fr.trans (Fr.of_below (by repeat (first | (with_reducible first | exact HL.out | apply below_alloc | apply pw_below_drewN | apply below_drew1) | exact HL.out))) hF; have n0_ := Aside0.mk (Fr.below hF HB.out hg (below_size HB.out)); clear HB; have HB := n0_; clear n0_; have n_ := Aside0.mk (RX.fr RR.out hF); clear RR; have RR := n_; clear n_; have n_ := Aside0.mk (HRow.fr HS.out hF); clear HS; have HS := n_; clear n_; have n_ := Aside0.mk (hF.blk BD.out (by unfold AT; decide)); clear p0 p1 p2 p3 p4 p5 p6 pl; clear BD; have BD := n_; clear n_; have p0 := blk_cell BD.out 0; have p1 := blk_cell BD.out 1; have p2 := blk_cell BD.out 2; have p3 := blk_cell BD.out 3; have p4 := blk_cell BD.out 4; have p5 := blk_cell BD.out 5; have p6 := blk_cell BD.out 6; have pl := blk_lt BD.out; simp only [List.getElem?_toArray, List.getElem?_cons_zero, List.getElem?_cons_succ] at p0 p1 p2 p3 p4 p5 p6; have n_ := Aside0.mk (hF.blk BH.out (by unfold AT; decide)); clear s0 s1 sl_ sf0 sf1; clear BH; have BH := n_; clear n_; have s0 := blk_cell BH.out 0; have s1 := blk_cell BH.out 1; have sl_ := blk_lt BH.out; have sf0 := blk_frozen BH.out 0; have sf1 := blk_frozen BH.out 1; simp only [List.getElem?_toArray, List.getElem?_cons_zero, List.getElem?_cons_succ] at s0 s1; have n_ := Aside0.mk (hF.blk BQ.out (by unfold AT; decide)); clear r0 r1 rl_; clear BQ; have BQ := n_; clear n_; have r0 := blk_cell BQ.out 0; have r1 := blk_cell BQ.out 1; have rl_ := blk_lt BQ.out; simp only [List.getElem?_toArray, List.getElem?_cons_zero, List.getElem?_cons_succ] at r0 r1; clear HA; have HA := Aside0.mk (show AX w6 w1.heap.size L (limL L lim bs N) bs from hA); clear hA HL hF; have HL := Aside0.mk (Below.refl w6.heap.size w6)) | (go_at_call 27; (with_reducible refine (r_setlimit (RR.out.below (by repeat (first | (with_reducible first | exact HL.out | apply below_alloc | apply pw_below_drewN | apply below_drew1) | exact HL.out))) HG.out N).mono ?_); rintro e w7 ⟨rfl, hA, hF⟩; have hF := FR.trans (FR.of_below (by repeat (first | (with_reducible first | exact HL.out | apply below_alloc | apply pw_below_drewN | apply below_drew1) | exact HL.out))) hF; have n0_ := Aside0.mk (FR.below hF HB.out hgr (below_size HB.out)); clear HB; have HB := n0_; clear n0_; have n_ := Aside0.mk (AX.fR HA.out hF); clear HA; have HA := n_; clear n_; have n_ := Aside0.mk (HRow.fR HS.out hF); clear HS; have HS := n_; clear n_; have n_ := Aside0.mk (hF.blk BD.out (by unfold RT; decide)); clear p0 p1 p2 p3 p4 p5 p6 pl; clear BD; have BD := n_; clear n_; have p0 := blk_cell BD.out 0; have p1 := blk_cell BD.out 1; have p2 := blk_cell BD.out 2; have p3 := blk_cell BD.out 3; have p4 := blk_cell BD.out 4; have p5 := blk_cell BD.out 5; have p6 := blk_cell BD.out 6; have pl := blk_lt BD.out; simp only [List.getElem?_toArray, List.getElem?_cons_zero, List.getElem?_cons_succ] at p0 p1 p2 p3 p4 p5 p6; have n_ := Aside0.mk (hF.blk BH.out (by unfold RT; decide)); clear s0 s1 sl_ sf0 sf1; clear BH; have BH := n_; clear n_; have s0 := blk_cell BH.out 0; have s1 := blk_cell BH.out 1; have sl_ := blk_lt BH.out; have sf0 := blk_frozen BH.out 0; have sf1 := blk_frozen BH.out 1; simp only [List.getElem?_toArray, List.getElem?_cons_zero, List.getElem?_cons_succ] at s0 s1; have n_ := Aside0.mk (hF.blk BQ.out (by unfold RT; decide)); clear r0 r1 rl_; clear BQ; have BQ := n_; clear n_; have r0 := blk_cell BQ.out 0; have r1 := blk_cell BQ.out 1; have rl_ := blk_lt BQ.out; simp only [List.getElem?_toArray, List.getElem?_cons_zero, List.getElem?_cons_succ] at r0 r1; clear RR; have RR := Aside0.mk (show RX w7 w2.heap.size L (limL L lim bs N) bs from hA); clear hA HL hF; have HL := Aside0.mk (Below.refl w7.heap.size w7)))
                  all_goals go_meet
                  all_goals exact ⟨_, xs, bs, limL L lim bs N, rfl, by simp, by omega, HG.out, HX.out, (by repeat (first | (with_reducible first | exact HB.out | apply below_alloc | apply pw_below_drewN | apply below_drew1) | exact HB.out)), HA.out.below (by repeat (first | (with_reducible first | exact HL.out | apply below_alloc | apply pw_below_drewN | apply below_drew1) | exact HL.out)), RR.out.below (by repeat (first | (with_reducible first | exact HL.out | apply below_alloc | apply pw_below_drewN | apply below_drew1) | exact HL.out)), HS.out.below (by repeat (first | (with_reducible first | exact HL.out | apply below_alloc | apply pw_below_drewN | apply below_drew1) | exact HL.out))⟩
              · by_cases z5 : ls.length ≤ 4
                · have hmin : min (ls.length : Int) 4 = (ls.length : Int) := by omega
                  have hcut := slice_to LA ls.length Lc ls.length (by omega) b7
                  have hlm5 : (ls.take ls.length).length = ls.length := by simp
                  have HLM := Aside0.mk hlm5
                  clear hlm5
                  go_wp2_with (first | (go_at_call 28; (with_reducible refine ((show Calls Try.prog 28 #[.pointer (some ⟨w1.heap.size, 0, none⟩), .slice LA ls.length Lc] _ _ from x_fits_at (HA.out.below (by repeat (first | (with_reducible first | exact HL.out | apply below_alloc | apply pw_below_drewN | apply below_drew1) | exact HL.out))) HG.out LA ls.length Lc (ls.take ls.length) HLM.out (C_take' (HD.out _ (Has.of_below (by repeat (first | (with_reducible first | exact HB.out | apply below_alloc | apply pw_below_drewN | apply below_drew1) | exact HB.out)))).2 ls.length (by omega)) (by omega) (by omega))).mono ?_); rintro e w6 ⟨rfl, hb⟩; have n0_ := Aside0.mk (below_step (by repeat (first | (with_reducible first | exact HB.out | apply below_alloc | apply pw_below_drewN | apply below_drew1) | exact HB.out)) hb); clear HB; have HB := n0_; clear n0_; have hs_ := below_step (by repeat (first | (with_reducible first | exact HL.out | apply below_alloc | apply pw_below_drewN | apply below_drew1) | exact HL.out)) hb; have n_ := Aside0.mk (AX.below HA.out hs_); clear HA; have HA := n_; clear n_; have n_ := Aside0.mk (RX.below RR.out hs_); clear RR; have RR := n_; clear n_; have n_ := Aside0.mk (HRow.below HS.out hs_); clear HS; have HS := n_; clear n_; have n_ := Aside0.mk (blk_below BD.out hs_); clear p0 p1 p2 p3 p4 p5 p6 pl; clear BD; have BD := n_; clear n_; have p0 := blk_cell BD.out 0; have p1 := blk_cell BD.out 1; have p2 := blk_cell BD.out 2; have p3 := blk_cell BD.out 3; have p4 := blk_cell BD.out 4; have p5 := blk_cell BD.out 5; have p6 := blk_cell BD.out 6; have pl := blk_lt BD.out; simp only [List.getElem?_toArray, List.getElem?_cons_zero, List.getElem?_cons_succ] at p0 p1 p2 p3 p4 p5 p6; have n_ := Aside0.mk (blk_below BH.out hs_); clear s0 s1 sl_ sf0 sf1; clear BH; have BH := n_; clear n_; have s0 := blk_cell BH.out 0; have s1 := blk_cell BH.out 1; have sl_ := blk_lt BH.out; have sf0 := blk_frozen BH.out 0; have sf1 := blk_frozen BH.out 1; simp only [List.getElem?_toArray, List.getElem?_cons_zero, List.getElem?_cons_succ] at s0 s1; have n_ := Aside0.mk (blk_below BQ.out hs_); clear r0 r1 rl_; clear BQ; have BQ := n_; clear n_; have r0 := blk_cell BQ.out 0; have r1 := blk_cell BQ.out 1; have rl_ := blk_lt BQ.out; simp only [List.getElem?_toArray, List.getElem?_cons_zero, List.getElem?_cons_succ] at r0 r1; clear HL hs_ hb; have HL := Aside0.mk (Below.refl w6.heap.size w6)) | (go_at_call 29; (with_reducible refine ((show Calls Try.prog 29 #[.pointer (some ⟨w2.heap.size, 0, none⟩), .slice LA ls.length Lc] _ _ from r_fits_at (RR.out.below (by repeat (first | (with_reducible first | exact HL.out | apply below_alloc | apply pw_below_drewN | apply below_drew1) | exact HL.out))) HG.out LA ls.length Lc (ls.take ls.length) HLM.out (C_take' (HD.out _ (Has.of_below (by repeat (first | (with_reducible first | exact HB.out | apply below_alloc | apply pw_below_drewN | apply below_drew1) | exact HB.out)))).2 ls.length (by omega)) (by omega) (by omega))).mono ?_); rintro e w7 ⟨rfl, hb⟩; have n0_ := Aside0.mk (below_step (by repeat (first | (with_reducible first | exact HB.out | apply below_alloc | apply pw_below_drewN | apply below_drew1) | exact HB.out)) hb); clear HB; have HB := n0_; clear n0_; have hs_ := below_step (by repeat (first | (with_reducible first | exact HL.out | apply below_alloc | apply pw_below_drewN | apply below_drew1) | exact HL.out)) hb; have n_ := Aside0.mk (AX.below HA.out hs_); clear HA; have HA := n_; clear n_; have n_ := Aside0.mk (RX.below RR.out hs_); clear RR; have RR := n_; clear n_; have n_ := Aside0.mk (HRow.below HS.out hs_); clear HS; have HS := n_; clear n_; have n_ := Aside0.mk (blk_below BD.out hs_); clear p0 p1 p2 p3 p4 p5 p6 pl; clear BD; have BD := n_; clear n_; have p0 := blk_cell BD.out 0; have p1 := blk_cell BD.out 1; have p2 := blk_cell BD.out 2; have p3 := blk_cell BD.out 3; have p4 := blk_cell BD.out 4; have p5 := blk_cell BD.out 5; have p6 := blk_cell BD.out 6; have pl := blk_lt BD.out; simp only [List.getElem?_toArray, List.getElem?_cons_zero, List.getElem?_cons_succ] at p0 p1 p2 p3 p4 p5 p6; have n_ := Aside0.mk (blk_below BH.out hs_); clear s0 s1 sl_ sf0 sf1; clear BH; have BH := n_; clear n_; have s0 := blk_cell BH.out 0; have s1 := blk_cell BH.out 1; have sl_ := blk_lt BH.out; have sf0 := blk_frozen BH.out 0; have sf1 := blk_frozen BH.out 1; simp only [List.getElem?_toArray, List.getElem?_cons_zero, List.getElem?_cons_succ] at s0 s1; have n_ := Aside0.mk (blk_below BQ.out hs_); clear r0 r1 rl_; clear BQ; have BQ := n_; clear n_; have r0 := blk_cell BQ.out 0; have r1 := blk_cell BQ.out 1; have rl_ := blk_lt BQ.out; simp only [List.getElem?_toArray, List.getElem?_cons_zero, List.getElem?_cons_succ] at r0 r1; clear HL hs_ hb; have HL := Aside0.mk (Below.refl w7.heap.size w7)))
                  all_goals go_meet
                  all_goals exact ⟨_, xs, bs, lim, rfl, by simp, by omega, HG.out, HX.out, (by repeat (first | (with_reducible first | exact HB.out | apply below_alloc | apply pw_below_drewN | apply below_drew1) | exact HB.out)), HA.out.below (by repeat (first | (with_reducible first | exact HL.out | apply below_alloc | apply pw_below_drewN | apply below_drew1) | exact HL.out)), RR.out.below (by repeat (first | (with_reducible first | exact HL.out | apply below_alloc | apply pw_below_drewN | apply below_drew1) | exact HL.out)), HS.out.below (by repeat (first | (with_reducible first | exact HL.out | apply below_alloc | apply pw_below_drewN | apply below_drew1) | exact HL.out))⟩
                · have hmin : min (ls.length : Int) 4 = 4 := by omega
                  have hcut := slice_to LA ls.length Lc 4 (by omega) b7
                  have hlm5 : (ls.take 4).length = 4 := by simp; omega
                  have HLM := Aside0.mk hlm5
                  clear hlm5
                  go_wp2_with (first | (go_at_call 28; (with_reducible refine ((show Calls Try.prog 28 #[.pointer (some ⟨w1.heap.size, 0, none⟩), .slice LA 4 Lc] _ _ from x_fits_at (HA.out.below (by repeat (first | (with_reducible first | exact HL.out | apply below_alloc | apply pw_below_drewN | apply below_drew1) | exact HL.out))) HG.out LA 4 Lc (ls.take 4) HLM.out (C_take' (HD.out _ (Has.of_below (by repeat (first | (with_reducible first | exact HB.out | apply below_alloc | apply pw_below_drewN | apply below_drew1) | exact HB.out)))).2 4 (by omega)) (by omega) (by omega))).mono ?_); rintro e w6 ⟨rfl, hb⟩; have n0_ := Aside0.mk (below_step (by repeat (first | (with_reducible first | exact HB.out | apply below_alloc | apply pw_below_drewN | apply below_drew1) | exact HB.out)) hb); clear HB; have HB := n0_; clear n0_; have hs_ := below_step (by repeat (first | (with_reducible first | exact HL.out | apply below_alloc | apply pw_below_drewN | apply below_drew1) | exact HL.out)) hb; have n_ := Aside0.mk (AX.below HA.out hs_); clear HA; have HA := n_; clear n_; have n_ := Aside0.mk (RX.below RR.out hs_); clear RR; have RR := n_; clear n_; have n_ := Aside0.mk (HRow.below HS.out hs_); clear HS; have HS := n_; clear n_; have n_ := Aside0.mk (blk_below BD.out hs_); clear p0 p1 p2 p3 p4 p5 p6 pl; clear BD; have BD := n_; clear n_; have p0 := blk_cell BD.out 0; have p1 := blk_cell BD.out 1; have p2 := blk_cell BD.out 2; have p3 := blk_cell BD.out 3; have p4 := blk_cell BD.out 4; have p5 := blk_cell BD.out 5; have p6 := blk_cell BD.out 6; have pl := blk_lt BD.out; simp only [List.getElem?_toArray, List.getElem?_cons_zero, List.getElem?_cons_succ] at p0 p1 p2 p3 p4 p5 p6; have n_ := Aside0.mk (blk_below BH.out hs_); clear s0 s1 sl_ sf0 sf1; clear BH; have BH := n_; clear n_; have s0 := blk_cell BH.out 0; have s1 := blk_cell BH.out 1; have sl_ := blk_lt BH.out; have sf0 := blk_frozen BH.out 0; have sf1 := blk_frozen BH.out 1; simp only [List.getElem?_toArray, List.getElem?_cons_zero, List.getElem?_cons_succ] at s0 s1; have n_ := Aside0.mk (blk_below BQ.out hs_); clear r0 r1 rl_; clear BQ; have BQ := n_; clear n_; have r0 := blk_cell BQ.out 0; have r1 := blk_cell BQ.out 1; have rl_ := blk_lt BQ.out; simp only [List.getElem?_toArray, List.getElem?_cons_zero, List.getElem?_cons_succ] at r0 r1; clear HL hs_ hb; have HL := Aside0.mk (Below.refl w6.heap.size w6)) | (go_at_call 29; (with_reducible refine ((show Calls Try.prog 29 #[.pointer (some ⟨w2.heap.size, 0, none⟩), .slice LA 4 Lc] _ _ from r_fits_at (RR.out.below (by repeat (first | (with_reducible first | exact HL.out | apply below_alloc | apply pw_below_drewN | apply below_drew1) | exact HL.out))) HG.out LA 4 Lc (ls.take 4) HLM.out (C_take' (HD.out _ (Has.of_below (by repeat (first | (with_reducible first | exact HB.out | apply below_alloc | apply pw_below_drewN | apply below_drew1) | exact HB.out)))).2 4 (by omega)) (by omega) (by omega))).mono ?_); rintro e w7 ⟨rfl, hb⟩; have n0_ := Aside0.mk (below_step (by repeat (first | (with_reducible first | exact HB.out | apply below_alloc | apply pw_below_drewN | apply below_drew1) | exact HB.out)) hb); clear HB; have HB := n0_; clear n0_; have hs_ := below_step (by repeat (first | (with_reducible first | exact HL.out | apply below_alloc | apply pw_below_drewN | apply below_drew1) | exact HL.out)) hb; have n_ := Aside0.mk (AX.below HA.out hs_); clear HA; have HA := n_; clear n_; have n_ := Aside0.mk (RX.below RR.out hs_); clear RR; have RR := n_; clear n_; have n_ := Aside0.mk (HRow.below HS.out hs_); clear HS; have HS := n_; clear n_; have n_ := Aside0.mk (blk_below BD.out hs_); clear p0 p1 p2 p3 p4 p5 p6 pl; clear BD; have BD := n_; clear n_; have p0 := blk_cell BD.out 0; have p1 := blk_cell BD.out 1; have p2 := blk_cell BD.out 2; have p3 := blk_cell BD.out 3; have p4 := blk_cell BD.out 4; have p5 := blk_cell BD.out 5; have p6 := blk_cell BD.out 6; have pl := blk_lt BD.out; simp only [List.getElem?_toArray, List.getElem?_cons_zero, List.getElem?_cons_succ] at p0 p1 p2 p3 p4 p5 p6; have n_ := Aside0.mk (blk_below BH.out hs_); clear s0 s1 sl_ sf0 sf1; clear BH; have BH := n_; clear n_; have s0 := blk_cell BH.out 0; have s1 := blk_cell BH.out 1; have sl_ := blk_lt BH.out; have sf0 := blk_frozen BH.out 0; have sf1 := blk_frozen BH.out 1; simp only [List.getElem?_toArray, List.getElem?_cons_zero, List.getElem?_cons_succ] at s0 s1; have n_ := Aside0.mk (blk_below BQ.out hs_); clear r0 r1 rl_; clear BQ; have BQ := n_; clear n_; have r0 := blk_cell BQ.out 0; have r1 := blk_cell BQ.out 1; have rl_ := blk_lt BQ.out; simp only [List.getElem?_toArray, List.getElem?_cons_zero, List.getElem?_cons_succ] at r0 r1; clear HL hs_ hb; have HL := Aside0.mk (Below.refl w7.heap.size w7)))
                  all_goals go_meet
                  all_goals exact ⟨_, xs, bs, lim, rfl, by simp, by omega, HG.out, HX.out, (by repeat (first | (with_reducible first | exact HB.out | apply below_alloc | apply pw_below_drewN | apply below_drew1) | exact HB.out)), HA.out.below (by repeat (first | (with_reducible first | exact HL.out | apply below_alloc | apply pw_below_drewN | apply below_drew1) | exact HL.out)), RR.out.below (by repeat (first | (with_reducible first | exact HL.out | apply below_alloc | apply pw_below_drewN | apply below_drew1) | exact HL.out)), HS.out.below (by repeat (first | (with_reducible first | exact HL.out | apply below_alloc | apply pw_below_drewN | apply below_drew1) | exact HL.out))⟩
              · obtain ⟨sl, gn, er, hE⟩ : ∃ sl gn er, allocE lim bs n = (sl, gn, er) := ⟨_, _, _, rfl⟩
                have hslb := allocE_bd HG.out n sl gn er hE
                have HE := Aside0.mk hE
                clear hE
                go_wp2_with (first | (go_at_call 12; (with_reducible refine (x_alloc_at (HA.out.below (by repeat (first | (with_reducible first | exact HL.out | apply below_alloc | apply pw_below_drewN | apply below_drew1) | exact HL.out))) HG.out (tx n (at_ : Int)) n (tx_size _ _) sl gn er HE.out).mono ?_); rintro e w6 ⟨rfl, hA, hF⟩; have hF := Fr.trans (Fr.of_below (by repeat (first | (with_reducible first | exact HL.out | apply below_alloc | apply pw_below_drewN | apply below_drew1) | exact HL.out))) hF; have n0_ := Aside0.mk (Fr.below hF HB.out hg (below_size HB.out)); clear HB; have HB := n0_; clear n0_; have n_ := Aside0.mk (RX.fr RR.out hF); clear RR; have RR := n_; clear n_; have n_ := Aside0.mk (HRow.fr HS.out hF); clear HS; have HS := n_; clear n_; have n_ := Aside0.mk (hF.blk BD.out (by unfold AT; decide)); clear p0 p1 p2 p3 p4 p5 p6 pl; clear BD; have BD := n_; clear n_; have p0 := blk_cell BD.out 0; have p1 := blk_cell BD.out 1; have p2 := blk_cell BD.out 2; have p3 := blk_cell BD.out 3; have p4 := blk_cell BD.out 4; have p5 := blk_cell BD.out 5; have p6 := blk_cell BD.out 6; have pl := blk_lt BD.out; simp only [List.getElem?_toArray, List.getElem?_cons_zero, List.getElem?_cons_succ] at p0 p1 p2 p3 p4 p5 p6; have n_ := Aside0.mk (hF.blk BH.out (by unfold AT; decide)); clear s0 s1 sl_ sf0 sf1; clear BH; have BH := n_; clear n_; have s0 := blk_cell BH.out 0; have s1 := blk_cell BH.out 1; have sl_ := blk_lt BH.out; have sf0 := blk_frozen BH.out 0; have sf1 := blk_frozen BH.out 1; simp only [List.getElem?_toArray, List.getElem?_cons_zero, List.getElem?_cons_succ] at s0 s1; have n_ := Aside0.mk (hF.blk BQ.out (by unfold AT; decide)); clear r0 r1 rl_; clear BQ; have BQ := n_; clear n_; have r0 := blk_cell BQ.out 0; have r1 := blk_cell BQ.out 1; have rl_ := blk_lt BQ.out; simp only [List.getElem?_toArray, List.getElem?_cons_zero, List.getElem?_cons_succ] at r0 r1; clear HA; have HA := Aside0.mk (show AX w6 w1.heap.size L lim (allocB lim bs (tx n (at_ : Int))) from hA); clear hA HL hF; have HL := Aside0.mk (Below.refl w6.heap.size w6)) | (go_at_call 22; (with_reducible refine (r_alloc_at (RR.out.below (by repeat (first | (with_reducible first | exact HL.out | apply below_alloc | apply pw_below_drewN | apply below_drew1) | exact HL.out))) HG.out (tx n (at_ : Int)) n (tx_size _ _) sl gn er HE.out).mono ?_); rintro e w7 ⟨rfl, hA, hF⟩; have BX := Aside0.mk (hF.blk (k := w6.heap.size) (cs := #[.int .u32 sl, .int .u32 gn]) (q := 28) (by repeat (first | (with_reducible refine blk_drewN ?_ _) | (with_reducible refine blk_drew ?_) | exact blk_new' (by first | rfl | simp) | (with_reducible refine blk_alloc ?_ _))) (by unfold RT; decide)); have hF := FR.trans (FR.of_below (by repeat (first | (with_reducible first | exact HL.out | apply below_alloc | apply pw_below_drewN | apply below_drew1) | exact HL.out))) hF; have n0_ := Aside0.mk (FR.below hF HB.out hgr (below_size HB.out)); clear HB; have HB := n0_; clear n0_; have n_ := Aside0.mk (AX.fR HA.out hF); clear HA; have HA := n_; clear n_; have n_ := Aside0.mk (HRow.fR HS.out hF); clear HS; have HS := n_; clear n_; have n_ := Aside0.mk (hF.blk BD.out (by unfold RT; decide)); clear p0 p1 p2 p3 p4 p5 p6 pl; clear BD; have BD := n_; clear n_; have p0 := blk_cell BD.out 0; have p1 := blk_cell BD.out 1; have p2 := blk_cell BD.out 2; have p3 := blk_cell BD.out 3; have p4 := blk_cell BD.out 4; have p5 := blk_cell BD.out 5; have p6 := blk_cell BD.out 6; have pl := blk_lt BD.out; simp only [List.getElem?_toArray, List.getElem?_cons_zero, List.getElem?_cons_succ] at p0 p1 p2 p3 p4 p5 p6; have n_ := Aside0.mk (hF.blk BH.out (by unfold RT; decide)); clear s0 s1 sl_ sf0 sf1; clear BH; have BH := n_; clear n_; have s0 := blk_cell BH.out 0; have s1 := blk_cell BH.out 1; have sl_ := blk_lt BH.out; have sf0 := blk_frozen BH.out 0; have sf1 := blk_frozen BH.out 1; simp only [List.getElem?_toArray, List.getElem?_cons_zero, List.getElem?_cons_succ] at s0 s1; have n_ := Aside0.mk (hF.blk BQ.out (by unfold RT; decide)); clear r0 r1 rl_; clear BQ; have BQ := n_; clear n_; have r0 := blk_cell BQ.out 0; have r1 := blk_cell BQ.out 1; have rl_ := blk_lt BQ.out; simp only [List.getElem?_toArray, List.getElem?_cons_zero, List.getElem?_cons_succ] at r0 r1; clear RR; have RR := Aside0.mk (show RX w7 w2.heap.size L lim (allocB lim bs (tx n (at_ : Int))) from hA); clear hA HL hF; have HL := Aside0.mk (Below.refl w7.heap.size w7); have qBX_0 := blk_cell BX.out 0; have qBX_1 := blk_cell BX.out 1; have lBX := blk_lt BX.out; simp only [List.getElem?_toArray, List.getElem?_cons_zero, List.getElem?_cons_succ] at qBX_0 qBX_1) | ((with_reducible refine gate_builtin (b := .append) (xs := #[.tmp 138, .tmp 140]) rfl ?_); at_builtin; refine h_append (w0 := w) w.heap.size rfl (.tmp 138) (.tmp 140) rfl (.slice hA_ xs.length hc_) xs sl gn rfl rfl (by simp) (HRow.below HS.out (by repeat (first | (with_reducible first | exact HL.out | apply below_alloc | apply pw_below_drewN | apply below_drew1) | exact HL.out))) (by repeat (first | (with_reducible first | exact HB.out | apply below_alloc | apply pw_below_drewN | apply below_drew1) | exact HB.out)) (below_size (by repeat (first | (with_reducible first | exact HB.out | apply below_alloc | apply pw_below_drewN | apply below_drew1) | exact HB.out))) (by omega) ?_; intro v8 w8 r1 b1 g1; have na_ := Aside0.mk (AX.over (HA.out.below (by repeat (first | (with_reducible first | exact HL.out | apply below_alloc | apply pw_below_drewN | apply below_drew1) | exact HL.out))) (HRow.typed (HRow.below HS.out (by repeat (first | (with_reducible first | exact HL.out | apply below_alloc | apply pw_below_drewN | apply below_drew1) | exact HL.out)))) (by unfold AT; decide) g1); have nr_ := Aside0.mk (RX.over (RR.out.below (by repeat (first | (with_reducible first | exact HL.out | apply below_alloc | apply pw_below_drewN | apply below_drew1) | exact HL.out))) (HRow.typed (HRow.below HS.out (by repeat (first | (with_reducible first | exact HL.out | apply below_alloc | apply pw_below_drewN | apply below_drew1) | exact HL.out)))) (by unfold RT; decide) g1); clear HA HS HB HL RR; have HA := na_; have RR := nr_; have HB := Aside0.mk b1; have HS := Aside0.mk r1; clear na_ nr_; clear r1 b1 g1; have HL := Aside0.mk (Below.refl w8.heap.size w8)))
                all_goals go_meet
                all_goals exact ⟨_, xs ++ [(sl, gn)], allocB lim bs (tx n (at_ : Int)), lim, rfl, rfl, by simp; omega, allocB_good HG.out _, bd_snoc HX.out hslb, HB.out, HA.out, RR.out, HS.out⟩
            case rest => as_aux_lemma =>
              clear HG HX
              obtain ⟨hv', xs', bs', lim', rfl, rfl, hxl', hG_, hX_, hB_, hA1_, hR_, hS_⟩ := hcut
              clear HB HA RR HS HL BD BH BQ p0 p1 p2 p3 p4 p5 p6 pl s0 s1 sl_ sf0 sf1 r0 r1 rl_
              have HG := Aside0.mk hG_
              have HX := Aside0.mk hX_
              have HB := Aside0.mk hB_
              have HA := Aside0.mk hA1_
              have RR := Aside0.mk hR_
              have HS := Aside0.mk hS_
              clear hG_ hX_ hB_ hA1_ hR_ hS_
              have HL := Aside0.mk (Below.refl wc.heap.size wc)
              go_upto_region 47 with fail
              refine start_ (n := 25) (S := fun w' => w'.cell? ⟨w2.heap.size, 1, none⟩ = some (.int .i64 lim')) (ds := []) #[false, false, false, false, false, false, false, false, false, false, false, false, false, false, false, false, false, false, false, false, false, false, false, false, false] (by kernel_rfl) rfl rfl ((RX.cell1 RR.out)) (fun hHeld => ?_)
              refine pure_ (i := 0) (N := some 216) (v := ?_) (a' := ?_) #[true, false, false, false, false, false, false, false, false, false, false, false, false, false, false, false, false, false, false, false, false, false, false, false, false] rfl rfl (by kernel_rfl) (fun _ _ _ h => h) (Or.inl ⟨by rfl, ?_⟩) ?_ ?_
              rotate_left
              · intro w'
                go_simp
                with_reducible rfl
              rotate_left
              · simp only [Act.put, List.setIfInBounds_toArray, List.set_cons_zero, List.set_cons_succ, i64_w, i32_w]
                rfl
              refine pure_ (i := 1) (N := some 217) (v := ?_) (a' := ?_) #[true, true, false, false, false, false, false, false, false, false, false, false, false, false, false, false, false, false, false, false, false, false, false, false, false] rfl rfl (by kernel_rfl) (fun _ _ _ h => h) (Or.inl ⟨by rfl, ?_⟩) ?_ ?_
              rotate_left
              · intro w'
                go_simp
                with_reducible rfl
              rotate_left
              · simp only [Act.put, List.setIfInBounds_toArray, List.set_cons_zero, List.set_cons_succ, i64_w, i32_w]
                rfl
              refine pure_ (i := 2) (N := some 218) (v := ?_) (a' := ?_) #[true, true, true, false, false, false, false, false, false, false, false, false, false, false, false, false, false, false, false, false, false, false, false, false, false] rfl rfl (by kernel_rfl) (fun _ _ _ h => h) (Or.inl ⟨by rfl, ?_⟩) ?_ ?_
              rotate_left
              · intro w'
                go_simp
                with_reducible rfl
              rotate_left
              · simp only [Act.put, List.setIfInBounds_toArray, List.set_cons_zero, List.set_cons_succ, i64_w, i32_w]
                rfl
              refine pure_ (i := 3) (N := some 219) (v := ?_) (a' := ?_) #[true, true, true, true, false, false, false, false, false, false, false, false, false, false, false, false, false, false, false, false, false, false, false, false, false] rfl rfl (by kernel_rfl) (fun _ _ _ h => h) (Or.inl ⟨by rfl, ?_⟩) ?_ ?_
              rotate_left
              · intro w'
                go_simp
                with_reducible rfl
              rotate_left
              · simp only [Act.put, List.setIfInBounds_toArray, List.set_cons_zero, List.set_cons_succ, i64_w, i32_w]
                rfl
              refine pure_ (i := 5) (N := some 221) (v := ?_) (a' := ?_) #[true, true, true, true, false, true, false, false, false, false, false, false, false, false, false, false, false, false, false, false, false, false, false, false, false] rfl rfl (by kernel_rfl) (fun _ _ _ h => h) (Or.inl ⟨by rfl, ?_⟩) ?_ ?_
              rotate_left
              · intro w'
                go_simp
                with_reducible rfl
              rotate_left
              · simp only [Act.put, List.setIfInBounds_toArray, List.set_cons_zero, List.set_cons_succ, i64_w, i32_w]
                rfl
              refine one_ (i := 4) (N := some 220) #[true, true, true, true, true, true, false, false, false, false, false, false, false, false, false, false, false, false, false, false, false, false, false, false, false] rfl rfl (by kernel_rfl) (by decide) (fun Kc hKc => ?_)
              refine goes_ Try.func17 (by kernel_rfl) rfl #[.pointer (some ⟨w1.heap.size, 0, none⟩)] (by rfl) rfl rfl (by simp only [List.map_toArray, List.map_cons, List.map_nil]; rfl) ?_
              with_reducible refine (x_charged (HA.out.below (by repeat (first | (with_reducible first | exact HL.out | apply below_alloc | apply pw_below_drewN | apply below_drew1) | exact HL.out)))).mono ?_
              rintro e w9 ⟨rfl, hb⟩
              refine ⟨_, rfl, ?_⟩
              have n0_ := Aside0.mk (below_step (by repeat (first | (with_reducible first | exact HB.out | apply below_alloc | apply pw_below_drewN | apply below_drew1) | exact HB.out)) hb); clear HB; have HB := n0_; clear n0_; have hs_ := below_step (by repeat (first | (with_reducible first | exact HL.out | apply below_alloc | apply pw_below_drewN | apply below_drew1) | exact HL.out)) hb; have n_ := Aside0.mk (AX.below HA.out hs_); clear HA; have HA := n_; clear n_; have n_ := Aside0.mk (RX.below RR.out hs_); clear RR; have RR := n_; clear n_; have n_ := Aside0.mk (HRow.below HS.out hs_); clear HS; have HS := n_; clear n_; clear HL hs_ hb; have HL := Aside0.mk (Below.refl w9.heap.size w9)
              refine hKc.out _ _ ((RX.cell1 RR.out)) (fun hHeld => ?_)
              clear hKc Kc
              refine norm_ (a' := ?_) ?_ ?_
              rotate_left
              · show Act.put _ (some 220) _ = _
                simp only [Act.put, List.setIfInBounds_toArray, List.set_cons_zero, List.set_cons_succ, i64_w, i32_w]
                rfl
              refine one_ (i := 6) (N := some 222) #[true, true, true, true, true, true, true, false, false, false, false, false, false, false, false, false, false, false, false, false, false, false, false, false, false] rfl rfl (by kernel_rfl) (by decide) (fun Kc hKc => ?_)
              refine goes_ Try.func30 (by kernel_rfl) rfl #[.pointer (some ⟨w2.heap.size, 0, none⟩)] (by rfl) rfl rfl (by simp only [List.map_toArray, List.map_cons, List.map_nil]; rfl) ?_
              with_reducible refine (rc_charged (RR.out.below (by repeat (first | (with_reducible first | exact HL.out | apply below_alloc | apply pw_below_drewN | apply below_drew1) | exact HL.out))) HG.out).mono ?_
              rintro e w9 ⟨rfl, rfl⟩
              refine ⟨_, rfl, ?_⟩
              refine hKc.out _ _ (hHeld) (fun hHeld => ?_)
              clear hKc Kc
              refine norm_ (a' := ?_) ?_ ?_
              rotate_left
              · show Act.put _ (some 222) _ = _
                simp only [Act.put, List.setIfInBounds_toArray, List.set_cons_zero, List.set_cons_succ, i64_w, i32_w]
                rfl
              refine pure_ (i := 7) (N := some 223) (v := ?_) (a' := ?_) #[true, true, true, true, true, true, true, true, false, false, false, false, false, false, false, false, false, false, false, false, false, false, false, false, false] rfl rfl (by kernel_rfl) (fun _ _ _ h => h) (Or.inl ⟨by rfl, ?_⟩) ?_ ?_
              rotate_left
              · intro w'
                go_simp
                with_reducible rfl
              rotate_left
              · simp only [Act.put, List.setIfInBounds_toArray, List.set_cons_zero, List.set_cons_succ, i64_w, i32_w]
                rfl
              refine pure_ (i := 8) (N := some 224) (v := ?_) (a' := ?_) #[true, true, true, true, true, true, true, true, true, false, false, false, false, false, false, false, false, false, false, false, false, false, false, false, false] rfl rfl (by kernel_rfl) (fun _ _ _ h => h) (Or.inl ⟨by rfl, ?_⟩) ?_ ?_
              rotate_left
              · intro w'
                go_simp
                with_reducible rfl
              rotate_left
              · simp only [Act.put, List.setIfInBounds_toArray, List.set_cons_zero, List.set_cons_succ, i64_w, i32_w]
                rfl
              refine pure_ (i := 9) (N := some 225) (v := ?_) (a' := ?_) #[true, true, true, true, true, true, true, true, true, true, false, false, false, false, false, false, false, false, false, false, false, false, false, false, false] rfl rfl (by kernel_rfl) (fun _ _ _ h => h) (Or.inl ⟨by rfl, ?_⟩) ?_ ?_
              rotate_left
              · intro w'
                go_simp
                with_reducible rfl
              rotate_left
              · simp only [Act.put, List.setIfInBounds_toArray, List.set_cons_zero, List.set_cons_succ, i64_w, i32_w]
                rfl
              refine pure_ (i := 10) (N := some 226) (v := ?_) (a' := ?_) #[true, true, true, true, true, true, true, true, true, true, true, false, false, false, false, false, false, false, false, false, false, false, false, false, false] rfl rfl (by kernel_rfl) (fun _ _ _ h => h) (Or.inl ⟨by rfl, ?_⟩) ?_ ?_
              rotate_left
              · intro w'
                go_simp
                with_reducible rfl
              rotate_left
              · simp only [Act.put, List.setIfInBounds_toArray, List.set_cons_zero, List.set_cons_succ, i64_w, i32_w]
                rfl
              refine pure_ (i := 12) (N := some 228) (v := ?_) (a' := ?_) #[true, true, true, true, true, true, true, true, true, true, true, false, true, false, false, false, false, false, false, false, false, false, false, false, false] rfl rfl (by kernel_rfl) (fun _ _ _ h => h) (Or.inl ⟨by rfl, ?_⟩) ?_ ?_
              rotate_left
              · intro w'
                go_simp
                with_reducible rfl
              rotate_left
              · simp only [Act.put, List.setIfInBounds_toArray, List.set_cons_zero, List.set_cons_succ, i64_w, i32_w]
                rfl
              refine one_ (i := 11) (N := some 227) #[true, true, true, true, true, true, true, true, true, true, true, true, true, false, false, false, false, false, false, false, false, false, false, false, false] rfl rfl (by kernel_rfl) (by decide) (fun Kc hKc => ?_)
              refine goes_ Try.func18 (by kernel_rfl) rfl #[.pointer (some ⟨w1.heap.size, 0, none⟩)] (by rfl) rfl rfl (by simp only [List.map_toArray, List.map_cons, List.map_nil]; rfl) ?_
              with_reducible refine (x_live (HA.out.below (by repeat (first | (with_reducible first | exact HL.out | apply below_alloc | apply pw_below_drewN | apply below_drew1) | exact HL.out))) HG.out).mono ?_
              rintro e w9 ⟨rfl, hb⟩
              refine ⟨_, rfl, ?_⟩
              have n0_ := Aside0.mk (below_step (by repeat (first | (with_reducible first | exact HB.out | apply below_alloc | apply pw_below_drewN | apply below_drew1) | exact HB.out)) hb); clear HB; have HB := n0_; clear n0_; have hs_ := below_step (by repeat (first | (with_reducible first | exact HL.out | apply below_alloc | apply pw_below_drewN | apply below_drew1) | exact HL.out)) hb; have n_ := Aside0.mk (AX.below HA.out hs_); clear HA; have HA := n_; clear n_; have n_ := Aside0.mk (RX.below RR.out hs_); clear RR; have RR := n_; clear n_; have n_ := Aside0.mk (HRow.below HS.out hs_); clear HS; have HS := n_; clear n_; clear HL hs_ hb; have HL := Aside0.mk (Below.refl w9.heap.size w9)
              refine hKc.out _ _ ((RX.cell1 RR.out)) (fun hHeld => ?_)
              clear hKc Kc
              refine norm_ (a' := ?_) ?_ ?_
              rotate_left
              · show Act.put _ (some 227) _ = _
                simp only [Act.put, List.setIfInBounds_toArray, List.set_cons_zero, List.set_cons_succ, i64_w, i32_w]
                rfl
              refine one_ (i := 13) (N := some 229) #[true, true, true, true, true, true, true, true, true, true, true, true, true, true, false, false, false, false, false, false, false, false, false, false, false] rfl rfl (by kernel_rfl) (by decide) (fun Kc hKc => ?_)
              refine goes_ Try.func31 (by kernel_rfl) rfl #[.pointer (some ⟨w2.heap.size, 0, none⟩)] (by rfl) rfl rfl (by simp only [List.map_toArray, List.map_cons, List.map_nil]; rfl) ?_
              with_reducible refine (rc_live (RR.out.below (by repeat (first | (with_reducible first | exact HL.out | apply below_alloc | apply pw_below_drewN | apply below_drew1) | exact HL.out))) HG.out).mono ?_
              rintro e w9 ⟨rfl, rfl⟩
              refine ⟨_, rfl, ?_⟩
              refine hKc.out _ _ (hHeld) (fun hHeld => ?_)
              clear hKc Kc
              refine norm_ (a' := ?_) ?_ ?_
              rotate_left
              · show Act.put _ (some 229) _ = _
                simp only [Act.put, List.setIfInBounds_toArray, List.set_cons_zero, List.set_cons_succ, i64_w, i32_w]
                rfl
              refine pure_ (i := 14) (N := some 230) (v := ?_) (a' := ?_) #[true, true, true, true, true, true, true, true, true, true, true, true, true, true, true, false, false, false, false, false, false, false, false, false, false] rfl rfl (by kernel_rfl) (fun _ _ _ h => h) (Or.inl ⟨by rfl, ?_⟩) ?_ ?_
              rotate_left
              · intro w'
                go_simp
                with_reducible rfl
              rotate_left
              · simp only [Act.put, List.setIfInBounds_toArray, List.set_cons_zero, List.set_cons_succ, i64_w, i32_w]
                rfl
              refine pure_ (i := 15) (N := some 231) (v := ?_) (a' := ?_) #[true, true, true, true, true, true, true, true, true, true, true, true, true, true, true, true, false, false, false, false, false, false, false, false, false] rfl rfl (by kernel_rfl) (fun _ _ _ h => h) (Or.inl ⟨by rfl, ?_⟩) ?_ ?_
              rotate_left
              · intro w'
                go_simp
                with_reducible rfl
              rotate_left
              · simp only [Act.put, List.setIfInBounds_toArray, List.set_cons_zero, List.set_cons_succ, i64_w, i32_w]
                rfl
              refine pure_ (i := 16) (N := some 232) (v := ?_) (a' := ?_) #[true, true, true, true, true, true, true, true, true, true, true, true, true, true, true, true, true, false, false, false, false, false, false, false, false] rfl rfl (by kernel_rfl) (fun _ _ _ h => h) (Or.inl ⟨by rfl, ?_⟩) ?_ ?_
              rotate_left
              · intro w'
                go_simp
                with_reducible rfl
              rotate_left
              · simp only [Act.put, List.setIfInBounds_toArray, List.set_cons_zero, List.set_cons_succ, i64_w, i32_w]
                rfl
              refine pure_ (i := 17) (N := some 233) (v := ?_) (a' := ?_) #[true, true, true, true, true, true, true, true, true, true, true, true, true, true, true, true, true, true, false, false, false, false, false, false, false] rfl rfl (by kernel_rfl) (fun _ _ _ h => h) (Or.inl ⟨by rfl, ?_⟩) ?_ ?_
              rotate_left
              · intro w'
                go_simp
                with_reducible rfl
              rotate_left
              · simp only [Act.put, List.setIfInBounds_toArray, List.set_cons_zero, List.set_cons_succ, i64_w, i32_w]
                rfl
              refine pure_ (i := 19) (N := some 235) (v := ?_) (a' := ?_) #[true, true, true, true, true, true, true, true, true, true, true, true, true, true, true, true, true, true, false, true, false, false, false, false, false] rfl rfl (by kernel_rfl) (fun _ _ _ h => h) (Or.inl ⟨by rfl, ?_⟩) ?_ ?_
              rotate_left
              · intro w'
                go_simp
                with_reducible rfl
              rotate_left
              · simp only [Act.put, List.setIfInBounds_toArray, List.set_cons_zero, List.set_cons_succ, i64_w, i32_w]
                rfl
              refine pure_ (i := 20) (N := some 236) (v := ?_) (a' := ?_) #[true, true, true, true, true, true, true, true, true, true, true, true, true, true, true, true, true, true, false, true, true, false, false, false, false] rfl rfl (by kernel_rfl) (fun _ _ _ h => h) (Or.inl ⟨by rfl, ?_⟩) ?_ ?_
              rotate_left
              · intro w'
                go_simp
                with_reducible rfl
              rotate_left
              · simp only [Act.put, List.setIfInBounds_toArray, List.set_cons_zero, List.set_cons_succ, i64_w, i32_w]
                rfl
              refine pure_ (i := 21) (N := some 237) (v := ?_) (a' := ?_) #[true, true, true, true, true, true, true, true, true, true, true, true, true, true, true, true, true, true, false, true, true, true, false, false, false] rfl rfl (by kernel_rfl) (fun _ _ _ h => h) (Or.inl ⟨by rfl, ?_⟩) ?_ ?_
              rotate_left
              · intro w'
                go_simp
                with_reducible rfl
              rotate_left
              · simp only [Act.put, List.setIfInBounds_toArray, List.set_cons_zero, List.set_cons_succ, i64_w, i32_w]
                rfl
              refine take_ (i := 22) (N := some 238) (v := ?_) (a' := ?_) #[true, true, true, true, true, true, true, true, true, true, true, true, true, true, true, true, true, true, false, true, true, true, true, false, false] rfl rfl (by kernel_rfl) (fun _ _ _ h => h) (Or.inl ⟨by rfl, ?_⟩) hHeld ?_ ?_
              rotate_left
              · intro w' s0
                go_simp
                with_reducible rfl
              rotate_left
              · simp only [Act.put, List.setIfInBounds_toArray, List.set_cons_zero, List.set_cons_succ, i64_w, i32_w]
                rfl
              refine one_ (i := 18) (N := some 234) #[true, true, true, true, true, true, true, true, true, true, true, true, true, true, true, true, true, true, true, true, true, true, true, false, false] rfl rfl (by kernel_rfl) (by decide) (fun Kc hKc => ?_)
              refine goes_ Try.func32 (by kernel_rfl) rfl #[.pointer (some ⟨w1.heap.size, 0, none⟩)] (by rfl) rfl rfl (by simp only [List.map_toArray, List.map_cons, List.map_nil]; rfl) ?_
              with_reducible refine (x_limit (HA.out.below (by repeat (first | (with_reducible first | exact HL.out | apply below_alloc | apply pw_below_drewN | apply below_drew1) | exact HL.out)))).mono ?_
              rintro e w9 ⟨rfl, hb⟩
              refine ⟨_, rfl, ?_⟩
              have n0_ := Aside0.mk (below_step (by repeat (first | (with_reducible first | exact HB.out | apply below_alloc | apply pw_below_drewN | apply below_drew1) | exact HB.out)) hb); clear HB; have HB := n0_; clear n0_; have hs_ := below_step (by repeat (first | (with_reducible first | exact HL.out | apply below_alloc | apply pw_below_drewN | apply below_drew1) | exact HL.out)) hb; have n_ := Aside0.mk (AX.below HA.out hs_); clear HA; have HA := n_; clear n_; have n_ := Aside0.mk (RX.below RR.out hs_); clear RR; have RR := n_; clear n_; have n_ := Aside0.mk (HRow.below HS.out hs_); clear HS; have HS := n_; clear n_; clear HL hs_ hb; have HL := Aside0.mk (Below.refl w9.heap.size w9)
              refine hKc.out _ _ ((RX.cell1 RR.out)) (fun hHeld => ?_)
              clear hKc Kc
              refine norm_ (a' := ?_) ?_ ?_
              rotate_left
              · show Act.put _ (some 234) _ = _
                simp only [Act.put, List.setIfInBounds_toArray, List.set_cons_zero, List.set_cons_succ, i64_w, i32_w]
                rfl
              refine pure_ (i := 23) (N := some 239) (v := ?_) (a' := ?_) #[true, true, true, true, true, true, true, true, true, true, true, true, true, true, true, true, true, true, true, true, true, true, true, true, false] rfl rfl (by kernel_rfl) (fun _ _ _ h => h) (Or.inl ⟨by rfl, ?_⟩) ?_ ?_
              rotate_left
              · intro w'
                go_simp
                with_reducible rfl
              rotate_left
              · simp only [Act.put, List.setIfInBounds_toArray, List.set_cons_zero, List.set_cons_succ, i64_w, i32_w]
                rfl
              refine pure_ (i := 24) (N := some 240) (v := ?_) (a' := ?_) #[true, true, true, true, true, true, true, true, true, true, true, true, true, true, true, true, true, true, true, true, true, true, true, true, true] rfl rfl (by kernel_rfl) (fun _ _ _ h => h) (Or.inl ⟨by rfl, ?_⟩) ?_ ?_
              rotate_left
              · intro w'
                go_simp
                with_reducible rfl
              rotate_left
              · simp only [Act.put, List.setIfInBounds_toArray, List.set_cons_zero, List.set_cons_succ, i64_w, i32_w]
                rfl
              refine done_ (by kernel_rfl) ?_
              go_wp2
              all_goals go_roundw
              all_goals (try (case rel => exact ⟨i + 1, _, xs', bs', lim', rfl, by go_num, by omega, by omega, HG, HX, HB, HA, RR, HS⟩))
              all_goals (try (case measure => (simp [intOf] <;> omega)))
    · rcases Nat.lt_or_ge i l with h2 | h2
      · have h3 : 40 ≤ i := by omega
        clear hc
        go_wp2
        all_goals go_ret
        all_goals exact ⟨rfl, (by repeat (first | (with_reducible first | exact HB.out | apply below_alloc | apply pw_below_drewN | apply below_drew1) | exact HB.out))⟩
      · clear hc
        go_wp2
        all_goals go_ret
        all_goals exact ⟨rfl, (by repeat (first | (with_reducible first | exact HB.out | apply below_alloc | apply pw_below_drewN | apply below_drew1) | exact HB.out))⟩
end Go.Proofs.Ytdnpfnoobjbanaa.Hand
