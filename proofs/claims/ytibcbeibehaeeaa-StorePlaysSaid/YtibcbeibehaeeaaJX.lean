/- StorePlays: its walk. -/
import Derived.Test.YtibcbeibehaeeaaJW
set_option linter.unusedVariables false
set_option linter.unusedSimpArgs false
namespace Go.Proofs.Ytibcbeibehaeeaa.Hand
open Go.RowKit Go.Proofs.Ytibcbeibehaeeaa.PStorePlays Go.Proofs.YtibcbeibehaeeaaW.PrintWords Go.Proofs.YtibcbeibehaeeaaW.PrintLast Go.Proofs.YtibcbeibehaeeaaW.PrintMore
set_option maxHeartbeats 8000000 in
set_option maxRecDepth 100000 in
theorem plays_ (a0 M : Int) (ad : Addr) (l c : Nat) (w : World) (ha0 : 0 ≤ a0) (ha1 : a0 ≤ 65535) (hM : a0 % 600 = M) (hM0 : 0 ≤ M) (hM1 : M < 600) (hlm : l ≤ 140737488351232) (HK : Aside0 (∀ i, i < l → ∃ (kind at_ : Nat) (ix ek et : Int) (LA : Option Addr) (Lc : Nat) (ls : List Int), kind ≤ 255 ∧ at_ ≤ 255 ∧ I64 ix ∧ I64 ek ∧ I64 et ∧ ls.length ≤ Lc ∧ ls.length ≤ 140737488351232 ∧ ∀ W', Has w W' → DCells W' (ad.add (i * 6)) kind at_ ix ek et (.slice LA ls.length Lc) ∧ Kd.C (Kd.int .i64) W' LA ls.length ls)) : Calls Try.prog 3 #[.int .u16 a0, .slice (some ad) l c] w fun e w' => e = .returned (.bool true) ∧ Below w.heap.size w w' := by
  have HB := Aside0.mk (Below.refl w.heap.size w)
  have HL := Aside0.mk (Below.refl w.heap.size w)
  go_enter Try.func3, Try.ntmps3
  go_wp2_with (first | (go_at_call 7; (with_reducible refine (examples_c _).mono ?_); rintro e w1 ⟨rfl, hb⟩; have n0_ := Aside0.mk (below_step (by repeat (first | (with_reducible first | exact HB.out | apply below_alloc | apply pw_below_drewN | apply below_drew1) | exact HB.out)) hb); clear HB; have HB := n0_; clear n0_; have hs_ := below_step (by repeat (first | (with_reducible first | exact HL.out | apply below_alloc | apply pw_below_drewN | apply below_drew1) | exact HL.out)) hb; have hg := below_size HB.out; clear HL hs_ hb; have HL := Aside0.mk (Below.refl w1.heap.size w1)) | (go_at_call 8; (with_reducible refine (x_new M _ hM0 (by omega)).mono ?_); rintro e w2 ⟨rfl, hA, hb⟩; have HA := Aside0.mk hA; clear hA; have n0_ := Aside0.mk (below_step (by repeat (first | (with_reducible first | exact HB.out | apply below_alloc | apply pw_below_drewN | apply below_drew1) | exact HB.out)) hb); clear HB; have HB := n0_; clear n0_; have hs_ := below_step (by repeat (first | (with_reducible first | exact HL.out | apply below_alloc | apply pw_below_drewN | apply below_drew1) | exact HL.out)) hb; have hg2 := below_size HB.out; clear HL hs_ hb; have HL := Aside0.mk (Below.refl w2.heap.size w2)) | (go_at_call 9; (with_reducible refine (rnew_yes M _ hM0 (by omega)).mono ?_); rintro e w3 ⟨rfl, hR, hb⟩; have RR := Aside0.mk hR; clear hR; have n0_ := Aside0.mk (below_step (by repeat (first | (with_reducible first | exact HB.out | apply below_alloc | apply pw_below_drewN | apply below_drew1) | exact HB.out)) hb); clear HB; have HB := n0_; clear n0_; have hs_ := below_step (by repeat (first | (with_reducible first | exact HL.out | apply below_alloc | apply pw_below_drewN | apply below_drew1) | exact HL.out)) hb; have n_ := Aside0.mk (AX.below HA.out hs_); clear HA; have HA := n_; clear n_; clear HL hs_ hb; have HL := Aside0.mk (Below.refl w3.heap.size w3)) | (go_at_call 10; (with_reducible refine (y_new (HA.out.below (by repeat (first | (with_reducible first | exact HL.out | apply below_alloc | apply pw_below_drewN | apply below_drew1) | exact HL.out)))).mono ?_); rintro e w4 ⟨gs, mb, rfl, hA, hb⟩; clear HA; have HA := Aside0.mk hA; clear hA; have n0_ := Aside0.mk (below_step (by repeat (first | (with_reducible first | exact HB.out | apply below_alloc | apply pw_below_drewN | apply below_drew1) | exact HB.out)) hb); clear HB; have HB := n0_; clear n0_; have hs_ := below_step (by repeat (first | (with_reducible first | exact HL.out | apply below_alloc | apply pw_below_drewN | apply below_drew1) | exact HL.out)) hb; have n_ := Aside0.mk (RX.below RR.out hs_); clear RR; have RR := n_; clear n_; clear HL hs_ hb; have HL := Aside0.mk (Below.refl w4.heap.size w4)) | (go_at_call 11; (with_reducible refine (u_new w2.heap.size w.heap.size (below_size HB.out) hg2 (RR.out.below (by repeat (first | (with_reducible first | exact HL.out | apply below_alloc | apply pw_below_drewN | apply below_drew1) | exact HL.out)))).mono ?_); rintro e w5 ⟨gr, rfl, hR, hb⟩; clear RR; have RR := Aside0.mk hR; clear hR; have n0_ := Aside0.mk (below_step (by repeat (first | (with_reducible first | exact HB.out | apply below_alloc | apply pw_below_drewN | apply below_drew1) | exact HB.out)) hb); clear HB; have HB := n0_; clear n0_; have hs_ := below_step (by repeat (first | (with_reducible first | exact HL.out | apply below_alloc | apply pw_below_drewN | apply below_drew1) | exact HL.out)) hb; have n_ := Aside0.mk (SY.below HA.out hs_); clear HA; have HA := n_; clear n_; clear HL hs_ hb; have HL := Aside0.mk (Below.refl w5.heap.size w5)))
  go_loopw [10] (fun v10 wr => ∃ (i N : Nat) (lk : List Kt) (bs : List S114), v10 = .int .i64 (i : Int) ∧ i ≤ 40 ∧ N ≤ i ∧ Aside0 (Any (i : Int) bs lk) ∧ Aside0 (Below w.heap.size w wr) ∧ Aside0 (SY wr gs w1.heap.size mb N M M bs lk) ∧ Aside0 (RY wr gr w2.heap.size w.heap.size M M bs lk)) (fun v _ => 40 - (intOf v).toNat)
  case atStart => exact ⟨0, 0, [], [], rfl, by omega, by omega, ⟨Any.nil⟩, ⟨(by repeat (first | (with_reducible first | exact HB.out | apply below_alloc | apply pw_below_drewN | apply below_drew1) | exact HB.out))⟩, ⟨HA.out.below (by repeat (first | (with_reducible first | exact HL.out | apply below_alloc | apply pw_below_drewN | apply below_drew1) | exact HL.out))⟩, ⟨RR.out.below (by repeat (first | (with_reducible first | exact HL.out | apply below_alloc | apply pw_below_drewN | apply below_drew1) | exact HL.out))⟩⟩
  case round =>
    clear HB HA HL RR
    obtain ⟨i, N, lk, bs, rfl, hi, hN, HH, HB, HA, RR⟩ := hrel
    have HL := Aside0.mk (Below.refl wr.heap.size wr)
    by_cases hc : i < l ∧ i < 40
    · obtain ⟨h2, h3⟩ := hc
      obtain ⟨kind, at_, ix, ek, et, LA, Lc, ls, b1, b2, b3, b4, b5, b6, b7, hD⟩ := HK.out i h2
      have HD := Aside0.mk hD
      clear hD
      obtain ⟨d0, d1, d2, d3, d4, d5⟩ := (HD.out wr (Has.of_below HB.out)).1
      go_upto_region 14 with fail
      clear d0 d1 d2 d3 d4 d5
      have hb := below_alloc (Below.refl wr.heap.size wr) (.cells #[.int .u8 (kind : Int), .int .u8 (at_ : Int), .int .i64 ix, .int .i64 ek, .int .i64 et, .slice LA ls.length Lc] 37)
      have BD := Aside0.mk (blk_new' (w := wr) (o := .cells #[.int .u8 (kind : Int), .int .u8 (at_ : Int), .int .i64 ix, .int .i64 ek, .int .i64 et, .slice LA ls.length Lc] 37) rfl)
      have n0_ := Aside0.mk (below_step HB.out hb)
      clear HB
      have HB := n0_
      clear n0_
      have n_ := Aside0.mk (SY.below HA.out hb)
      clear HA
      have HA := n_
      clear n_
      have n_ := Aside0.mk (RY.below RR.out hb)
      clear RR
      have RR := n_
      clear n_
      clear HL hb
      generalize wr.alloc (.cells #[.int .u8 (kind : Int), .int .u8 (at_ : Int), .int .i64 ix, .int .i64 ek, .int .i64 et, .slice LA ls.length Lc] 37) = w6 at *
      have HL := Aside0.mk (Below.refl w6.heap.size w6)
      have qBD_0 := blk_cell BD.out 0
      have qBD_1 := blk_cell BD.out 1
      have qBD_2 := blk_cell BD.out 2
      have qBD_3 := blk_cell BD.out 3
      have qBD_4 := blk_cell BD.out 4
      have qBD_5 := blk_cell BD.out 5
      have lBD := blk_lt BD.out
      simp only [List.getElem?_toArray, List.getElem?_cons_zero, List.getElem?_cons_succ] at qBD_0 qBD_1 qBD_2 qBD_3 qBD_4 qBD_5
      go_upto_if 60 with fail
      go_cut [12] (fun v12 wx => ∃ N0 : Int, v12 = .int .i64 N0 ∧ I64k N0 ∧ wx = w6)
      case first => as_aux_lemma =>
        by_cases z1 : 240 < at_
        · have z3 : decide ((240 : Int) < (at_ : Int)) = true := by simp; omega
          go_wp2
          all_goals go_meet
          all_goals exact ⟨ix, rfl, b3, rfl⟩
        · have z3 : decide ((240 : Int) < (at_ : Int)) = false := by simp; omega
          go_wp2
          all_goals go_meet
          all_goals exact ⟨(at_ : Int) % 6, rfl, by unfold I64k; omega, rfl⟩
      case rest =>
        obtain ⟨N0, rfl, hN0, e6⟩ := hcut
        obtain rfl : w6 = wc := e6.symm
        have hw6 := below_size HB.out
        have HN0 := Aside0.mk hN0
        go_upto_region 18 with fail
        clear qBD_0 qBD_1 qBD_2 qBD_3 qBD_4 qBD_5 lBD
        have hb := below_alloc (Below.refl w6.heap.size w6) (.cells #[.int .i64 ek, .int .i64 et, .slice LA ls.length Lc] 35)
        have BE := Aside0.mk (blk_new' (w := w6) (o := .cells #[.int .i64 ek, .int .i64 et, .slice LA ls.length Lc] 35) rfl)
        have n0_ := Aside0.mk (below_step HB.out hb)
        clear HB
        have HB := n0_
        clear n0_
        have n_ := Aside0.mk (SY.below HA.out hb)
        clear HA
        have HA := n_
        clear n_
        have n_ := Aside0.mk (RY.below RR.out hb)
        clear RR
        have RR := n_
        clear n_
        have n_ := Aside0.mk (blk_below BD.out hb)
        clear BD
        have BD := n_
        clear n_
        clear HL hb
        generalize w6.alloc (.cells #[.int .i64 ek, .int .i64 et, .slice LA ls.length Lc] 35) = w7 at *
        have HL := Aside0.mk (Below.refl w7.heap.size w7)
        have qBD_0 := blk_cell BD.out 0
        have qBD_1 := blk_cell BD.out 1
        have qBD_2 := blk_cell BD.out 2
        have qBD_3 := blk_cell BD.out 3
        have qBD_4 := blk_cell BD.out 4
        have qBD_5 := blk_cell BD.out 5
        have lBD := blk_lt BD.out
        simp only [List.getElem?_toArray, List.getElem?_cons_zero, List.getElem?_cons_succ] at qBD_0 qBD_1 qBD_2 qBD_3 qBD_4 qBD_5
        have qBE_0 := blk_cell BE.out 0
        have qBE_1 := blk_cell BE.out 1
        have qBE_2 := blk_cell BE.out 2
        have lBE := blk_lt BE.out
        simp only [List.getElem?_toArray, List.getElem?_cons_zero, List.getElem?_cons_succ] at qBE_0 qBE_1 qBE_2
        have fBE_0 := blk_frozen BE.out 0
        have fBE_2 := blk_frozen BE.out 2
        go_upto_if 67 with fail
        go_cut [] (fun wx => ∃ (ek' : Int) (el : List Int) (n' : Nat), n' ≤ Lc ∧ (∀ W', Has w W' → Kd.C (Kd.int .i64) W' LA n' el) ∧ wx.heap[w6.heap.size]? = some (.cells #[.int .i64 ek', .int .i64 et, .slice LA n' Lc] 35 (0, 0)) ∧ wx.heap[wr.heap.size]? = some (.cells #[.int .u8 (kind : Int), .int .u8 (at_ : Int), .int .i64 ix, .int .i64 ek, .int .i64 et, .slice LA ls.length Lc] 37 (0, 0)) ∧ Below w.heap.size w wx ∧ SY wx gs w1.heap.size mb N M M bs lk ∧ RY wx gr w2.heap.size w.heap.size M M bs lk)
        case first => as_aux_lemma =>
          by_cases z1 : kind < 200
          · have z3 : decide ((kind : Int) < 200) = true := by simp; omega
            obtain ⟨K, hK, hK2⟩ := mod3 ek
            obtain ⟨m, hm⟩ : ∃ m : Nat, m = min ls.length 8 := ⟨_, rfl⟩
            have hml : m ≤ ls.length := by omega
            have hmin : min (ls.length : Int) 8 = (m : Int) := by omega
            clear hm
            go_wp2
            all_goals go_meet
            all_goals exact ⟨K, ls.take m, m, by omega, C_cutm (fun W' hW => (HD.out W' hW).2) m hml, blk_put (blk_put BE.out 0 (.int .i64 K) rfl) 2 (.slice LA m Lc) rfl, blk_far (p := ⟨w6.heap.size, 2, none⟩) (blk_far (p := ⟨w6.heap.size, 0, none⟩) BD.out (blk_ne BD.out BE.out (by decide)) _) (blk_ne BD.out BE.out (by decide)) _, (by repeat (first | exact HB.out | (refine below_set ?_ hw6))), (HA.out.event BE.out 0 _).event (blk_put BE.out 0 (.int .i64 K) rfl) 2 _, (RR.out.event BE.out 0 _).event (blk_put BE.out 0 (.int .i64 K) rfl) 2 _⟩
          · have z3 : decide ((kind : Int) < 200) = false := by simp; omega
            go_wp2
            all_goals go_meet
            all_goals exact ⟨ek, ls, ls.length, b6, fun W' hW => (HD.out W' hW).2, BE.out, BD.out, HB.out, HA.out, RR.out⟩
        case rest =>
          clear qBD_0 qBD_1 qBD_2 qBD_3 qBD_4 qBD_5 lBD
          clear qBE_0 qBE_1 qBE_2 lBE fBE_0 fBE_2
          obtain ⟨ek', el, n', hn', hC_, hE_, hD_, hB_, hA_, hR_⟩ := hcut
          clear HB HA RR HL BE BD
          have HC := Aside0.mk hC_
          have BE := Aside0.mk hE_
          have BD := Aside0.mk hD_
          have HB := Aside0.mk hB_
          have HA := Aside0.mk hA_
          have RR := Aside0.mk hR_
          clear hC_ hE_ hD_ hB_ hA_ hR_
          generalize wc = w8 at *
          have HL := Aside0.mk (Below.refl w8.heap.size w8)
          have qBD_0 := blk_cell BD.out 0
          have qBD_1 := blk_cell BD.out 1
          have qBD_2 := blk_cell BD.out 2
          have qBD_3 := blk_cell BD.out 3
          have qBD_4 := blk_cell BD.out 4
          have qBD_5 := blk_cell BD.out 5
          have lBD := blk_lt BD.out
          simp only [List.getElem?_toArray, List.getElem?_cons_zero, List.getElem?_cons_succ] at qBD_0 qBD_1 qBD_2 qBD_3 qBD_4 qBD_5
          have qBE_0 := blk_cell BE.out 0
          have qBE_1 := blk_cell BE.out 1
          have qBE_2 := blk_cell BE.out 2
          have lBE := blk_lt BE.out
          simp only [List.getElem?_toArray, List.getElem?_cons_zero, List.getElem?_cons_succ] at qBE_0 qBE_1 qBE_2
          go_upto_block 2 with fail
          go_cut [14, 84, 85] (fun v14 v84 v85 wx => ∃ (N' : Nat) (l' : List Kt) (bs' : List S114), v14 = .bool true ∧ N' ≤ i + 1 ∧ Any ((i : Int) + 1) bs' l' ∧ Below w.heap.size w wx ∧ SY wx gs w1.heap.size mb N' M M bs' l' ∧ RY wx gr w2.heap.size w.heap.size M M bs' l')
          case first => as_aux_lemma =>
            obtain hkd | hkd | hkd | hkd | hkd : (kind : Int) % 5 = 0 ∨ (kind : Int) % 5 = 1 ∨ (kind : Int) % 5 = 2 ∨ (kind : Int) % 5 = 3 ∨ (kind : Int) % 5 = 4 := by omega
            · obtain ⟨er, l2, b2s, hE, hH2⟩ := HH.out.put (lim := M) (by omega) N0 ek' et el
              have E := Aside0.mk hE
              have H2 := Aside0.mk hH2
              clear hE hH2
              go_upto_region 25 with fail
              clear qBD_0 qBD_1 qBD_2 qBD_3 qBD_4 qBD_5 lBD
              clear qBE_0 qBE_1 qBE_2 lBE
              refine start_ (n := 16) (S := fun w' => w'.cell? ⟨w6.heap.size, 0, none⟩ = some (.int .i64 ek') ∧ w'.cell? ⟨w6.heap.size, 1, none⟩ = some (.int .i64 et) ∧ w'.cell? ⟨w6.heap.size, 2, none⟩ = some (.slice LA n' Lc)) (ds := []) #[false, false, false, false, false, false, false, false, false, false, false, false, false, false, false, false] (by kernel_rfl) rfl rfl ⟨(blk_cell BE.out 0), (blk_cell BE.out 1), (blk_cell BE.out 2)⟩ (fun hHeld => ?_)
              refine pure_ (i := 0) (N := some 88) (v := ?_) (a' := ?_) #[true, false, false, false, false, false, false, false, false, false, false, false, false, false, false, false] rfl rfl (by kernel_rfl) (fun _ _ _ h => h) (Or.inl ⟨by rfl, ?_⟩) ?_ ?_
              rotate_left
              · intro w'
                go_simp
                with_reducible rfl
              rotate_left
              · simp only [Act.put, List.setIfInBounds_toArray, List.set_cons_zero, List.set_cons_succ, i64_w, i32_w]
                rfl
              refine pure_ (i := 1) (N := some 89) (v := ?_) (a' := ?_) #[true, true, false, false, false, false, false, false, false, false, false, false, false, false, false, false] rfl rfl (by kernel_rfl) (fun _ _ _ h => h) (Or.inl ⟨by rfl, ?_⟩) ?_ ?_
              rotate_left
              · intro w'
                go_simp
                with_reducible rfl
              rotate_left
              · simp only [Act.put, List.setIfInBounds_toArray, List.set_cons_zero, List.set_cons_succ, i64_w, i32_w]
                rfl
              refine pure_ (i := 4) (N := some 92) (v := ?_) (a' := ?_) #[true, true, false, false, true, false, false, false, false, false, false, false, false, false, false, false] rfl rfl (by kernel_rfl) (fun _ _ _ h => h) (Or.inl ⟨by rfl, ?_⟩) ?_ ?_
              rotate_left
              · intro w'
                go_simp
                with_reducible rfl
              rotate_left
              · simp only [Act.put, List.setIfInBounds_toArray, List.set_cons_zero, List.set_cons_succ, i64_w, i32_w]
                rfl
              refine pure_ (i := 5) (N := some 93) (v := ?_) (a' := ?_) #[true, true, false, false, true, true, false, false, false, false, false, false, false, false, false, false] rfl rfl (by kernel_rfl) (fun _ _ _ h => h) (Or.inl ⟨by rfl, ?_⟩) ?_ ?_
              rotate_left
              · intro w'
                go_simp
                with_reducible rfl
              rotate_left
              · simp only [Act.put, List.setIfInBounds_toArray, List.set_cons_zero, List.set_cons_succ, i64_w, i32_w]
                rfl
              refine pure_ (i := 6) (N := some 94) (v := ?_) (a' := ?_) #[true, true, false, false, true, true, true, false, false, false, false, false, false, false, false, false] rfl rfl (by kernel_rfl) (fun _ _ _ h => h) (Or.inl ⟨by rfl, ?_⟩) ?_ ?_
              rotate_left
              · intro w'
                go_simp
                with_reducible rfl
              rotate_left
              · simp only [Act.put, List.setIfInBounds_toArray, List.set_cons_zero, List.set_cons_succ, i64_w, i32_w]
                rfl
              refine pure_ (i := 8) (N := some 96) (v := ?_) (a' := ?_) #[true, true, false, false, true, true, true, false, true, false, false, false, false, false, false, false] rfl rfl (by kernel_rfl) (fun _ _ _ h => h) (Or.inl ⟨by rfl, ?_⟩) ?_ ?_
              rotate_left
              · intro w'
                go_simp
                with_reducible rfl
              rotate_left
              · simp only [Act.put, List.setIfInBounds_toArray, List.set_cons_zero, List.set_cons_succ, i64_w, i32_w]
                rfl
              refine pure_ (i := 10) (N := some 98) (v := ?_) (a' := ?_) #[true, true, false, false, true, true, true, false, true, false, true, false, false, false, false, false] rfl rfl (by kernel_rfl) (fun _ _ _ h => h) (Or.inl ⟨by rfl, ?_⟩) ?_ ?_
              rotate_left
              · intro w'
                go_simp
                with_reducible rfl
              rotate_left
              · simp only [Act.put, List.setIfInBounds_toArray, List.set_cons_zero, List.set_cons_succ, i64_w, i32_w]
                rfl
              refine take_ (i := 2) (N := some 90) (v := ?_) (a' := ?_) #[true, true, true, false, true, true, true, false, true, false, true, false, false, false, false, false] rfl rfl (by kernel_rfl) (fun _ _ _ h => h) (Or.inl ⟨by rfl, ?_⟩) hHeld ?_ ?_
              rotate_left
              · rintro w' ⟨s0, s1, s2⟩
                go_simp
                with_reducible rfl
              rotate_left
              · simp only [Act.put, List.setIfInBounds_toArray, List.set_cons_zero, List.set_cons_succ, i64_w, i32_w]
                rfl
              refine take_ (i := 7) (N := some 95) (v := ?_) (a' := ?_) #[true, true, true, false, true, true, true, true, true, false, true, false, false, false, false, false] rfl rfl (by kernel_rfl) (fun _ _ _ h => h) (Or.inl ⟨by rfl, ?_⟩) hHeld ?_ ?_
              rotate_left
              · rintro w' ⟨s0, s1, s2⟩
                go_simp
                with_reducible rfl
              rotate_left
              · simp only [Act.put, List.setIfInBounds_toArray, List.set_cons_zero, List.set_cons_succ, i64_w, i32_w]
                rfl
              refine take_ (i := 9) (N := some 97) (v := ?_) (a' := ?_) #[true, true, true, false, true, true, true, true, true, true, true, false, false, false, false, false] rfl rfl (by kernel_rfl) (fun _ _ _ h => h) (Or.inl ⟨by rfl, ?_⟩) hHeld ?_ ?_
              rotate_left
              · rintro w' ⟨s0, s1, s2⟩
                go_simp
                with_reducible rfl
              rotate_left
              · simp only [Act.put, List.setIfInBounds_toArray, List.set_cons_zero, List.set_cons_succ, i64_w, i32_w]
                rfl
              refine take_ (i := 11) (N := some 99) (v := ?_) (a' := ?_) #[true, true, true, false, true, true, true, true, true, true, true, true, false, false, false, false] rfl rfl (by kernel_rfl) (fun _ _ _ h => h) (Or.inl ⟨by rfl, ?_⟩) hHeld ?_ ?_
              rotate_left
              · rintro w' ⟨s0, s1, s2⟩
                go_simp
                with_reducible rfl
              rotate_left
              · simp only [Act.put, List.setIfInBounds_toArray, List.set_cons_zero, List.set_cons_succ, i64_w, i32_w]
                rfl
              refine pure_ (i := 12) (N := some 100) (v := ?_) (a' := ?_) #[true, true, true, false, true, true, true, true, true, true, true, true, true, false, false, false] rfl rfl (by kernel_rfl) (fun _ _ _ h => h) (Or.inl ⟨by rfl, ?_⟩) ?_ ?_
              rotate_left
              · intro w'
                go_simp
                with_reducible rfl
              rotate_left
              · simp only [Act.put, List.setIfInBounds_toArray, List.set_cons_zero, List.set_cons_succ, i64_w, i32_w]
                rfl
              refine one_ (i := 3) (N := some 91) #[true, true, true, true, true, true, true, true, true, true, true, true, true, false, false, false] rfl rfl (by kernel_rfl) (by decide) (fun Kc hKc => ?_)
              refine goes_ Try.func12 (by kernel_rfl) rfl #[.pointer (some ⟨gs, 0, none⟩), .int .i64 N0, .agg #[.int .i64 ek', .int .i64 et, .slice LA n' Lc]] (by rfl) rfl rfl (by simp only [List.map_toArray, List.map_cons, List.map_nil]; rfl) ?_
              with_reducible refine (y_put (HA.out.below (by repeat (first | (with_reducible first | exact HL.out | apply below_alloc | apply pw_below_drewN | apply below_drew1) | exact HL.out))) HH.out.tied.good (by omega) N0 HN0.out ek' et el LA n' Lc (HC.out _ (Has.of_below (by repeat (first | (with_reducible first | exact HB.out | apply below_alloc | apply pw_below_drewN | apply below_drew1) | exact HB.out)))) er l2 b2s E.out).mono ?_
              rintro e w9 ⟨rfl, hA, hF⟩
              refine ⟨_, rfl, ?_⟩
              have hF := FS.trans (FS.of_below (by repeat (first | (with_reducible first | exact HL.out | apply below_alloc | apply pw_below_drewN | apply below_drew1) | exact HL.out))) hF; have n0_ := Aside0.mk (FS.below hF HB.out hg (below_size HB.out)); clear HB; have HB := n0_; clear n0_; have n_ := Aside0.mk (RY.fS RR.out hF); clear RR; have RR := n_; clear n_; have n_ := Aside0.mk (hF.blk BE.out (by unfold ST AT; decide)); clear BE; have BE := n_; clear n_; clear HA; have HA := Aside0.mk (show SY w9 gs w1.heap.size mb (N + 1) M M b2s l2 from hA); clear hA HL hF; have HL := Aside0.mk (Below.refl w9.heap.size w9)
              refine hKc.out _ _ ⟨(blk_cell BE.out 0), (blk_cell BE.out 1), (blk_cell BE.out 2)⟩ (fun hHeld => ?_)
              clear hKc Kc
              refine norm_ (a' := ?_) ?_ ?_
              rotate_left
              · show Act.put _ (some 91) _ = _
                simp only [Act.put, List.setIfInBounds_toArray, List.set_cons_zero, List.set_cons_succ, i64_w, i32_w]
                rfl
              refine one_ (i := 13) (N := some 101) #[true, true, true, true, true, true, true, true, true, true, true, true, true, true, false, false] rfl rfl (by kernel_rfl) (by decide) (fun Kc hKc => ?_)
              refine goes_ Try.func13 (by kernel_rfl) rfl #[.pointer (some ⟨gr, 0, none⟩), .int .i64 N0, .agg #[.int .i64 ek', .int .i64 et, .slice LA n' Lc]] (by rfl) rfl rfl (by simp only [List.map_toArray, List.map_cons, List.map_nil]; rfl) ?_
              with_reducible refine (u_put (RR.out.below (by repeat (first | (with_reducible first | exact HL.out | apply below_alloc | apply pw_below_drewN | apply below_drew1) | exact HL.out))) HH.out.tied.good (HH.out.short (by omega)) N0 ek' et el LA n' Lc (HC.out _ (Has.of_below (by repeat (first | (with_reducible first | exact HB.out | apply below_alloc | apply pw_below_drewN | apply below_drew1) | exact HB.out)))) hn' er l2 b2s E.out).mono ?_
              rintro e w10 ⟨rfl, hA, hF⟩
              refine ⟨_, rfl, ?_⟩
              have hF := FU.trans (FU.of_below (by repeat (first | (with_reducible first | exact HL.out | apply below_alloc | apply pw_below_drewN | apply below_drew1) | exact HL.out))) hF; have n0_ := Aside0.mk (FU.below hF HB.out (Nat.le_refl _) (below_size HB.out)); clear HB; have HB := n0_; clear n0_; have n_ := Aside0.mk (SY.fU HA.out hF); clear HA; have HA := n_; clear n_; have n_ := Aside0.mk (hF.blk BE.out (by unfold UT RT; decide)); clear BE; have BE := n_; clear n_; clear RR; have RR := Aside0.mk (show RY w10 gr w2.heap.size w.heap.size M M b2s l2 from hA); clear hA HL hF; have HL := Aside0.mk (Below.refl w10.heap.size w10)
              refine hKc.out _ _ ⟨(blk_cell BE.out 0), (blk_cell BE.out 1), (blk_cell BE.out 2)⟩ (fun hHeld => ?_)
              clear hKc Kc
              refine norm_ (a' := ?_) ?_ ?_
              rotate_left
              · show Act.put _ (some 101) _ = _
                simp only [Act.put, List.setIfInBounds_toArray, List.set_cons_zero, List.set_cons_succ, i64_w, i32_w]
                rfl
              refine pure_ (i := 14) (N := some 102) (v := ?_) (a' := ?_) #[true, true, true, true, true, true, true, true, true, true, true, true, true, true, true, false] rfl rfl (by kernel_rfl) (fun _ _ _ h => h) (Or.inl ⟨by rfl, ?_⟩) ?_ ?_
              rotate_left
              · intro w'
                go_simp
                with_reducible rfl
              rotate_left
              · simp only [Act.put, List.setIfInBounds_toArray, List.set_cons_zero, List.set_cons_succ, i64_w, i32_w]
                rfl
              refine pure_ (i := 15) (N := some 14) (v := ?_) (a' := ?_) #[true, true, true, true, true, true, true, true, true, true, true, true, true, true, true, true] rfl rfl (by kernel_rfl) (fun _ _ _ h => h) (Or.inl ⟨by rfl, ?_⟩) ?_ ?_
              rotate_left
              · intro w'
                go_simp
                with_reducible rfl
              rotate_left
              · simp only [Act.put, List.setIfInBounds_toArray, List.set_cons_zero, List.set_cons_succ, i64_w, i32_w]
                rfl
              refine done_ (by kernel_rfl) ?_
              go_wp2
              all_goals (try (exfalso; omega))
              all_goals go_meet
              all_goals exact ⟨N + 1, l2, b2s, by simp, by omega, H2.out, HB.out, HA.out, RR.out⟩
            · clear qBD_0 qBD_1 qBD_2 qBD_3 qBD_4 qBD_5 lBD
              clear qBE_0 qBE_1 qBE_2 lBE
              clear BD BE HC
              obtain ⟨b, hb⟩ : ∃ b, (findK lk N0).isSome = b := ⟨_, rfl⟩
              have HBK := Aside0.mk hb
              clear hb
              go_wp2_with (first | (go_at_call 14; (with_reducible refine (y_hold (HA.out.below (by repeat (first | (with_reducible first | exact HL.out | apply below_alloc | apply pw_below_drewN | apply below_drew1) | exact HL.out))) (HH.out.fine (by omega)) N0 HN0.out b HBK.out (bump lk N0 1) rfl).mono ?_); rintro e w9 ⟨rfl, hA, hF⟩; have hF0 := hF; have hF := FS.trans (FS.of_below (by repeat (first | (with_reducible first | exact HL.out | apply below_alloc | apply pw_below_drewN | apply below_drew1) | exact HL.out))) hF; have n0_ := Aside0.mk (FS.below hF HB.out hg (below_size HB.out)); clear HB; have HB := n0_; clear n0_; have n_ := Aside0.mk (RY.fS RR.out hF); clear RR; have RR := n_; clear n_; clear HA; have HA := Aside0.mk (show SY w9 gs w1.heap.size mb N M M bs (bump lk N0 1) from hA); clear hA HL hF hF0; have HL := Aside0.mk (Below.refl w9.heap.size w9)) | (go_at_call 15; (with_reducible refine (u_hold (RR.out.below (by repeat (first | (with_reducible first | exact HL.out | apply below_alloc | apply pw_below_drewN | apply below_drew1) | exact HL.out))) (HH.out.fine (by omega)) HH.out.tied.good HH.out.tied.keys (HH.out.short (by omega)) N0 b HBK.out (bump lk N0 1) rfl).mono ?_); rintro e w10 ⟨rfl, hA, hF⟩; have hF0 := hF; have hF := FU.trans (FU.of_below (by repeat (first | (with_reducible first | exact HL.out | apply below_alloc | apply pw_below_drewN | apply below_drew1) | exact HL.out))) hF; have n0_ := Aside0.mk (FU.below hF HB.out (Nat.le_refl _) (below_size HB.out)); clear HB; have HB := n0_; clear n0_; have n_ := Aside0.mk (SY.fU HA.out hF); clear HA; have HA := n_; clear n_; clear RR; have RR := Aside0.mk (show RY w10 gr w2.heap.size w.heap.size M M bs (bump lk N0 1) from hA); clear hA HL hF hF0; have HL := Aside0.mk (Below.refl w10.heap.size w10)))
              all_goals (try (exfalso; omega))
              all_goals go_meet
              all_goals exact ⟨N, _, bs, by simp, by omega, HH.out.hold N0, HB.out, HA.out, RR.out⟩
            · clear qBD_0 qBD_1 qBD_2 qBD_3 qBD_4 qBD_5 lBD
              clear qBE_0 qBE_1 qBE_2 lBE
              clear BD BE HC
              obtain ⟨b, hb⟩ : ∃ b, (findK lk N0).isSome = b := ⟨_, rfl⟩
              have HBK := Aside0.mk hb
              clear hb
              go_wp2_with (first | (go_at_call 16; (with_reducible refine (y_drop (HA.out.below (by repeat (first | (with_reducible first | exact HL.out | apply below_alloc | apply pw_below_drewN | apply below_drew1) | exact HL.out))) (HH.out.fine (by omega)) HH.out.tied.good N0 HN0.out b HBK.out (dropL lk N0) rfl (dropS bs lk N0) rfl).mono ?_); rintro e w9 ⟨rfl, hA, hF⟩; have hF0 := hF; have hF := FS.trans (FS.of_below (by repeat (first | (with_reducible first | exact HL.out | apply below_alloc | apply pw_below_drewN | apply below_drew1) | exact HL.out))) hF; have n0_ := Aside0.mk (FS.below hF HB.out hg (below_size HB.out)); clear HB; have HB := n0_; clear n0_; have n_ := Aside0.mk (RY.fS RR.out hF); clear RR; have RR := n_; clear n_; clear HA; have HA := Aside0.mk (show SY w9 gs w1.heap.size mb N M M (dropS bs lk N0) (dropL lk N0) from hA); clear hA HL hF hF0; have HL := Aside0.mk (Below.refl w9.heap.size w9)) | (go_at_call 17; (with_reducible refine (u_drop (RR.out.below (by repeat (first | (with_reducible first | exact HL.out | apply below_alloc | apply pw_below_drewN | apply below_drew1) | exact HL.out))) (HH.out.fine (by omega)) HH.out.tied.good HH.out.tied.keys (HH.out.short (by omega)) N0 b HBK.out (dropL lk N0) rfl (dropS bs lk N0) rfl).mono ?_); rintro e w10 ⟨rfl, hA, hF⟩; have hF0 := hF; have hF := FU.trans (FU.of_below (by repeat (first | (with_reducible first | exact HL.out | apply below_alloc | apply pw_below_drewN | apply below_drew1) | exact HL.out))) hF; have n0_ := Aside0.mk (FU.below hF HB.out (Nat.le_refl _) (below_size HB.out)); clear HB; have HB := n0_; clear n0_; have n_ := Aside0.mk (SY.fU HA.out hF); clear HA; have HA := n_; clear n_; clear RR; have RR := Aside0.mk (show RY w10 gr w2.heap.size w.heap.size M M (dropS bs lk N0) (dropL lk N0) from hA); clear hA HL hF hF0; have HL := Aside0.mk (Below.refl w10.heap.size w10)))
              all_goals (try (exfalso; omega))
              all_goals go_meet
              all_goals exact ⟨N, _, _, by simp, by omega, HH.out.drop N0, HB.out, HA.out, RR.out⟩
            · clear qBD_0 qBD_1 qBD_2 qBD_3 qBD_4 qBD_5 lBD
              clear qBE_0 qBE_1 qBE_2 lBE
              clear BD BE HC
              obtain ⟨gk, gt, gl, gb, hG⟩ : ∃ gk gt gl gb, getS bs lk N0 = (gk, gt, gl, gb) := ⟨_, _, _, _, rfl⟩
              obtain ⟨n8, hn8⟩ : ∃ n8, gl.length = n8 := ⟨_, rfl⟩
              have HGE := Aside0.mk hG
              have HN8 := Aside0.mk hn8
              clear hG hn8
              go_wp2_with (first | (go_at_call 18; (with_reducible refine (y_get (HA.out.below (by repeat (first | (with_reducible first | exact HL.out | apply below_alloc | apply pw_below_drewN | apply below_drew1) | exact HL.out))) (HH.out.fine (by omega)) HH.out.tied.good HH.out.siz N0 HN0.out gk gt gl gb HGE.out).mono ?_); rintro e w9 ⟨v8, rfl, hR8, hb⟩; have n0_ := Aside0.mk (below_step (by repeat (first | (with_reducible first | exact HB.out | apply below_alloc | apply pw_below_drewN | apply below_drew1) | exact HB.out)) hb); clear HB; have HB := n0_; clear n0_; have hs_ := below_step (by repeat (first | (with_reducible first | exact HL.out | apply below_alloc | apply pw_below_drewN | apply below_drew1) | exact HL.out)) hb; have n_ := Aside0.mk (SY.below HA.out hs_); clear HA; have HA := n_; clear n_; have n_ := Aside0.mk (RY.below RR.out hs_); clear RR; have RR := n_; clear n_; obtain ⟨A8, c8, e8⟩ := Kd.R_slice hR8; rw [HN8.out] at e8; subst e8; have r_ := Kd.R_reads' hR8; rw [HN8.out] at r_; have C8 := Aside0.mk r_.2.2; have L8 := Aside0.mk r_.2.1; clear hR8 r_; clear HL hs_ hb; have HL := Aside0.mk (Below.refl w9.heap.size w9)) | (go_at_call 19; (with_reducible refine (u_get (RR.out.below (by repeat (first | (with_reducible first | exact HL.out | apply below_alloc | apply pw_below_drewN | apply below_drew1) | exact HL.out))) (HH.out.fine (by omega)) HH.out.tied.good (HH.out.short (by omega)) HH.out.siz N0 gk gt gl gb HGE.out).mono ?_); rintro e w10 ⟨v9, rfl, hR9, hb⟩; have n0_ := Aside0.mk (below_step (by repeat (first | (with_reducible first | exact HB.out | apply below_alloc | apply pw_below_drewN | apply below_drew1) | exact HB.out)) hb); clear HB; have HB := n0_; clear n0_; have hs_ := below_step (by repeat (first | (with_reducible first | exact HL.out | apply below_alloc | apply pw_below_drewN | apply below_drew1) | exact HL.out)) hb; have n_ := Aside0.mk (SY.below HA.out hs_); clear HA; have HA := n_; clear n_; have n_ := Aside0.mk (RY.below RR.out hs_); clear RR; have RR := n_; clear n_; have n_ := Aside0.mk (Kd.C_below C8.out hs_); clear C8; have C8 := n_; clear n_; have BX := Aside0.mk (blk_below (o := .cells #[.int .i64 gk, .int .i64 gt, .slice A8 n8 c8] 35 (0, 0)) (g := w9.heap.size) (by repeat (first | (with_reducible refine blk_drewN ?_ _) | (with_reducible refine blk_drew ?_) | exact blk_new' (by first | rfl | simp) | (with_reducible refine blk_alloc ?_ _))) hb); have qBX_0 := blk_cell BX.out 0; have qBX_1 := blk_cell BX.out 1; have qBX_2 := blk_cell BX.out 2; have lBX := blk_lt BX.out; simp only [List.getElem?_toArray, List.getElem?_cons_zero, List.getElem?_cons_succ] at qBX_0 qBX_1 qBX_2; obtain ⟨A9, c9, e9⟩ := Kd.R_slice hR9; rw [HN8.out] at e9; subst e9; have r_ := Kd.R_reads' hR9; rw [HN8.out] at r_; have C9 := Aside0.mk r_.2.2; have L9 := Aside0.mk r_.2.1; clear hR9 r_; clear HL hs_ hb; have HL := Aside0.mk (Below.refl w10.heap.size w10)) | (go_at_call 20; (with_reducible refine (rsame_n gk gt A8 n8 c8 gl gk gt A9 n8 c9 gl true _ (Kd.C_below C8.out (by repeat (first | (with_reducible first | exact HL.out | apply below_alloc | apply pw_below_drewN | apply below_drew1) | exact HL.out))) L8.out (Kd.C_below C9.out (by repeat (first | (with_reducible first | exact HL.out | apply below_alloc | apply pw_below_drewN | apply below_drew1) | exact HL.out))) L9.out (sameE_refl _ _ _)).mono ?_); rintro e w11 ⟨rfl, hb⟩; have n0_ := Aside0.mk (below_step (by repeat (first | (with_reducible first | exact HB.out | apply below_alloc | apply pw_below_drewN | apply below_drew1) | exact HB.out)) hb); clear HB; have HB := n0_; clear n0_; have hs_ := below_step (by repeat (first | (with_reducible first | exact HL.out | apply below_alloc | apply pw_below_drewN | apply below_drew1) | exact HL.out)) hb; have n_ := Aside0.mk (SY.below HA.out hs_); clear HA; have HA := n_; clear n_; have n_ := Aside0.mk (RY.below RR.out hs_); clear RR; have RR := n_; clear n_; clear C8 C9; clear HL hs_ hb; have HL := Aside0.mk (Below.refl w11.heap.size w11)))
              all_goals (try (exfalso; omega))
              all_goals go_meet
              all_goals exact ⟨N, lk, bs, by simp, by omega, HH.out.mono (by omega), HB.out, HA.out, RR.out⟩
            · obtain ⟨er, l2, b2s, hE, hH2⟩ := HH.out.put (lim := M) (by omega) N0 ek' et el
              have E := Aside0.mk hE
              have H2 := Aside0.mk hH2
              clear hE hH2
              go_upto_region 25 with fail
              clear qBD_0 qBD_1 qBD_2 qBD_3 qBD_4 qBD_5 lBD
              clear qBE_0 qBE_1 qBE_2 lBE
              refine start_ (n := 16) (S := fun w' => w'.cell? ⟨w6.heap.size, 0, none⟩ = some (.int .i64 ek') ∧ w'.cell? ⟨w6.heap.size, 1, none⟩ = some (.int .i64 et) ∧ w'.cell? ⟨w6.heap.size, 2, none⟩ = some (.slice LA n' Lc)) (ds := []) #[false, false, false, false, false, false, false, false, false, false, false, false, false, false, false, false] (by kernel_rfl) rfl rfl ⟨(blk_cell BE.out 0), (blk_cell BE.out 1), (blk_cell BE.out 2)⟩ (fun hHeld => ?_)
              refine pure_ (i := 0) (N := some 88) (v := ?_) (a' := ?_) #[true, false, false, false, false, false, false, false, false, false, false, false, false, false, false, false] rfl rfl (by kernel_rfl) (fun _ _ _ h => h) (Or.inl ⟨by rfl, ?_⟩) ?_ ?_
              rotate_left
              · intro w'
                go_simp
                with_reducible rfl
              rotate_left
              · simp only [Act.put, List.setIfInBounds_toArray, List.set_cons_zero, List.set_cons_succ, i64_w, i32_w]
                rfl
              refine pure_ (i := 1) (N := some 89) (v := ?_) (a' := ?_) #[true, true, false, false, false, false, false, false, false, false, false, false, false, false, false, false] rfl rfl (by kernel_rfl) (fun _ _ _ h => h) (Or.inl ⟨by rfl, ?_⟩) ?_ ?_
              rotate_left
              · intro w'
                go_simp
                with_reducible rfl
              rotate_left
              · simp only [Act.put, List.setIfInBounds_toArray, List.set_cons_zero, List.set_cons_succ, i64_w, i32_w]
                rfl
              refine pure_ (i := 4) (N := some 92) (v := ?_) (a' := ?_) #[true, true, false, false, true, false, false, false, false, false, false, false, false, false, false, false] rfl rfl (by kernel_rfl) (fun _ _ _ h => h) (Or.inl ⟨by rfl, ?_⟩) ?_ ?_
              rotate_left
              · intro w'
                go_simp
                with_reducible rfl
              rotate_left
              · simp only [Act.put, List.setIfInBounds_toArray, List.set_cons_zero, List.set_cons_succ, i64_w, i32_w]
                rfl
              refine pure_ (i := 5) (N := some 93) (v := ?_) (a' := ?_) #[true, true, false, false, true, true, false, false, false, false, false, false, false, false, false, false] rfl rfl (by kernel_rfl) (fun _ _ _ h => h) (Or.inl ⟨by rfl, ?_⟩) ?_ ?_
              rotate_left
              · intro w'
                go_simp
                with_reducible rfl
              rotate_left
              · simp only [Act.put, List.setIfInBounds_toArray, List.set_cons_zero, List.set_cons_succ, i64_w, i32_w]
                rfl
              refine pure_ (i := 6) (N := some 94) (v := ?_) (a' := ?_) #[true, true, false, false, true, true, true, false, false, false, false, false, false, false, false, false] rfl rfl (by kernel_rfl) (fun _ _ _ h => h) (Or.inl ⟨by rfl, ?_⟩) ?_ ?_
              rotate_left
              · intro w'
                go_simp
                with_reducible rfl
              rotate_left
              · simp only [Act.put, List.setIfInBounds_toArray, List.set_cons_zero, List.set_cons_succ, i64_w, i32_w]
                rfl
              refine pure_ (i := 8) (N := some 96) (v := ?_) (a' := ?_) #[true, true, false, false, true, true, true, false, true, false, false, false, false, false, false, false] rfl rfl (by kernel_rfl) (fun _ _ _ h => h) (Or.inl ⟨by rfl, ?_⟩) ?_ ?_
              rotate_left
              · intro w'
                go_simp
                with_reducible rfl
              rotate_left
              · simp only [Act.put, List.setIfInBounds_toArray, List.set_cons_zero, List.set_cons_succ, i64_w, i32_w]
                rfl
              refine pure_ (i := 10) (N := some 98) (v := ?_) (a' := ?_) #[true, true, false, false, true, true, true, false, true, false, true, false, false, false, false, false] rfl rfl (by kernel_rfl) (fun _ _ _ h => h) (Or.inl ⟨by rfl, ?_⟩) ?_ ?_
              rotate_left
              · intro w'
                go_simp
                with_reducible rfl
              rotate_left
              · simp only [Act.put, List.setIfInBounds_toArray, List.set_cons_zero, List.set_cons_succ, i64_w, i32_w]
                rfl
              refine take_ (i := 2) (N := some 90) (v := ?_) (a' := ?_) #[true, true, true, false, true, true, true, false, true, false, true, false, false, false, false, false] rfl rfl (by kernel_rfl) (fun _ _ _ h => h) (Or.inl ⟨by rfl, ?_⟩) hHeld ?_ ?_
              rotate_left
              · rintro w' ⟨s0, s1, s2⟩
                go_simp
                with_reducible rfl
              rotate_left
              · simp only [Act.put, List.setIfInBounds_toArray, List.set_cons_zero, List.set_cons_succ, i64_w, i32_w]
                rfl
              refine take_ (i := 7) (N := some 95) (v := ?_) (a' := ?_) #[true, true, true, false, true, true, true, true, true, false, true, false, false, false, false, false] rfl rfl (by kernel_rfl) (fun _ _ _ h => h) (Or.inl ⟨by rfl, ?_⟩) hHeld ?_ ?_
              rotate_left
              · rintro w' ⟨s0, s1, s2⟩
                go_simp
                with_reducible rfl
              rotate_left
              · simp only [Act.put, List.setIfInBounds_toArray, List.set_cons_zero, List.set_cons_succ, i64_w, i32_w]
                rfl
              refine take_ (i := 9) (N := some 97) (v := ?_) (a' := ?_) #[true, true, true, false, true, true, true, true, true, true, true, false, false, false, false, false] rfl rfl (by kernel_rfl) (fun _ _ _ h => h) (Or.inl ⟨by rfl, ?_⟩) hHeld ?_ ?_
              rotate_left
              · rintro w' ⟨s0, s1, s2⟩
                go_simp
                with_reducible rfl
              rotate_left
              · simp only [Act.put, List.setIfInBounds_toArray, List.set_cons_zero, List.set_cons_succ, i64_w, i32_w]
                rfl
              refine take_ (i := 11) (N := some 99) (v := ?_) (a' := ?_) #[true, true, true, false, true, true, true, true, true, true, true, true, false, false, false, false] rfl rfl (by kernel_rfl) (fun _ _ _ h => h) (Or.inl ⟨by rfl, ?_⟩) hHeld ?_ ?_
              rotate_left
              · rintro w' ⟨s0, s1, s2⟩
                go_simp
                with_reducible rfl
              rotate_left
              · simp only [Act.put, List.setIfInBounds_toArray, List.set_cons_zero, List.set_cons_succ, i64_w, i32_w]
                rfl
              refine pure_ (i := 12) (N := some 100) (v := ?_) (a' := ?_) #[true, true, true, false, true, true, true, true, true, true, true, true, true, false, false, false] rfl rfl (by kernel_rfl) (fun _ _ _ h => h) (Or.inl ⟨by rfl, ?_⟩) ?_ ?_
              rotate_left
              · intro w'
                go_simp
                with_reducible rfl
              rotate_left
              · simp only [Act.put, List.setIfInBounds_toArray, List.set_cons_zero, List.set_cons_succ, i64_w, i32_w]
                rfl
              refine one_ (i := 3) (N := some 91) #[true, true, true, true, true, true, true, true, true, true, true, true, true, false, false, false] rfl rfl (by kernel_rfl) (by decide) (fun Kc hKc => ?_)
              refine goes_ Try.func12 (by kernel_rfl) rfl #[.pointer (some ⟨gs, 0, none⟩), .int .i64 N0, .agg #[.int .i64 ek', .int .i64 et, .slice LA n' Lc]] (by rfl) rfl rfl (by simp only [List.map_toArray, List.map_cons, List.map_nil]; rfl) ?_
              with_reducible refine (y_put (HA.out.below (by repeat (first | (with_reducible first | exact HL.out | apply below_alloc | apply pw_below_drewN | apply below_drew1) | exact HL.out))) HH.out.tied.good (by omega) N0 HN0.out ek' et el LA n' Lc (HC.out _ (Has.of_below (by repeat (first | (with_reducible first | exact HB.out | apply below_alloc | apply pw_below_drewN | apply below_drew1) | exact HB.out)))) er l2 b2s E.out).mono ?_
              rintro e w9 ⟨rfl, hA, hF⟩
              refine ⟨_, rfl, ?_⟩
              have hF := FS.trans (FS.of_below (by repeat (first | (with_reducible first | exact HL.out | apply below_alloc | apply pw_below_drewN | apply below_drew1) | exact HL.out))) hF; have n0_ := Aside0.mk (FS.below hF HB.out hg (below_size HB.out)); clear HB; have HB := n0_; clear n0_; have n_ := Aside0.mk (RY.fS RR.out hF); clear RR; have RR := n_; clear n_; have n_ := Aside0.mk (hF.blk BE.out (by unfold ST AT; decide)); clear BE; have BE := n_; clear n_; clear HA; have HA := Aside0.mk (show SY w9 gs w1.heap.size mb (N + 1) M M b2s l2 from hA); clear hA HL hF; have HL := Aside0.mk (Below.refl w9.heap.size w9)
              refine hKc.out _ _ ⟨(blk_cell BE.out 0), (blk_cell BE.out 1), (blk_cell BE.out 2)⟩ (fun hHeld => ?_)
              clear hKc Kc
              refine norm_ (a' := ?_) ?_ ?_
              rotate_left
              · show Act.put _ (some 91) _ = _
                simp only [Act.put, List.setIfInBounds_toArray, List.set_cons_zero, List.set_cons_succ, i64_w, i32_w]
                rfl
              refine one_ (i := 13) (N := some 101) #[true, true, true, true, true, true, true, true, true, true, true, true, true, true, false, false] rfl rfl (by kernel_rfl) (by decide) (fun Kc hKc => ?_)
              refine goes_ Try.func13 (by kernel_rfl) rfl #[.pointer (some ⟨gr, 0, none⟩), .int .i64 N0, .agg #[.int .i64 ek', .int .i64 et, .slice LA n' Lc]] (by rfl) rfl rfl (by simp only [List.map_toArray, List.map_cons, List.map_nil]; rfl) ?_
              with_reducible refine (u_put (RR.out.below (by repeat (first | (with_reducible first | exact HL.out | apply below_alloc | apply pw_below_drewN | apply below_drew1) | exact HL.out))) HH.out.tied.good (HH.out.short (by omega)) N0 ek' et el LA n' Lc (HC.out _ (Has.of_below (by repeat (first | (with_reducible first | exact HB.out | apply below_alloc | apply pw_below_drewN | apply below_drew1) | exact HB.out)))) hn' er l2 b2s E.out).mono ?_
              rintro e w10 ⟨rfl, hA, hF⟩
              refine ⟨_, rfl, ?_⟩
              have hF := FU.trans (FU.of_below (by repeat (first | (with_reducible first | exact HL.out | apply below_alloc | apply pw_below_drewN | apply below_drew1) | exact HL.out))) hF; have n0_ := Aside0.mk (FU.below hF HB.out (Nat.le_refl _) (below_size HB.out)); clear HB; have HB := n0_; clear n0_; have n_ := Aside0.mk (SY.fU HA.out hF); clear HA; have HA := n_; clear n_; have n_ := Aside0.mk (hF.blk BE.out (by unfold UT RT; decide)); clear BE; have BE := n_; clear n_; clear RR; have RR := Aside0.mk (show RY w10 gr w2.heap.size w.heap.size M M b2s l2 from hA); clear hA HL hF; have HL := Aside0.mk (Below.refl w10.heap.size w10)
              refine hKc.out _ _ ⟨(blk_cell BE.out 0), (blk_cell BE.out 1), (blk_cell BE.out 2)⟩ (fun hHeld => ?_)
              clear hKc Kc
              refine norm_ (a' := ?_) ?_ ?_
              rotate_left
              · show Act.put _ (some 101) _ = _
                simp only [Act.put, List.setIfInBounds_toArray, List.set_cons_zero, List.set_cons_succ, i64_w, i32_w]
                rfl
              refine pure_ (i := 14) (N := some 102) (v := ?_) (a' := ?_) #[true, true, true, true, true, true, true, true, true, true, true, true, true, true, true, false] rfl rfl (by kernel_rfl) (fun _ _ _ h => h) (Or.inl ⟨by rfl, ?_⟩) ?_ ?_
              rotate_left
              · intro w'
                go_simp
                with_reducible rfl
              rotate_left
              · simp only [Act.put, List.setIfInBounds_toArray, List.set_cons_zero, List.set_cons_succ, i64_w, i32_w]
                rfl
              refine pure_ (i := 15) (N := some 14) (v := ?_) (a' := ?_) #[true, true, true, true, true, true, true, true, true, true, true, true, true, true, true, true] rfl rfl (by kernel_rfl) (fun _ _ _ h => h) (Or.inl ⟨by rfl, ?_⟩) ?_ ?_
              rotate_left
              · intro w'
                go_simp
                with_reducible rfl
              rotate_left
              · simp only [Act.put, List.setIfInBounds_toArray, List.set_cons_zero, List.set_cons_succ, i64_w, i32_w]
                rfl
              refine done_ (by kernel_rfl) ?_
              go_wp2
              all_goals (try (exfalso; omega))
              all_goals go_meet
              all_goals exact ⟨N + 1, l2, b2s, by simp, by omega, H2.out, HB.out, HA.out, RR.out⟩
          case rest => as_aux_lemma =>
            clear qBD_0 qBD_1 qBD_2 qBD_3 qBD_4 qBD_5 lBD
            clear qBE_0 qBE_1 qBE_2 lBE
            clear HB HA RR HL BE BD HH HC HD
            obtain ⟨N', l', bs', rfl, hN', hH_, hB_, hA_, hR_⟩ := hcut
            have HH := Aside0.mk hH_
            have HB := Aside0.mk hB_
            have HA := Aside0.mk hA_
            have RR := Aside0.mk hR_
            have HL := Aside0.mk (Below.refl wc.heap.size wc)
            clear hH_ hB_ hA_ hR_
            obtain ⟨q, hq⟩ : ∃ q, cntK l' N0 = q := ⟨_, rfl⟩
            have HQ := Aside0.mk hq
            clear hq
            go_wp2_with (first | (go_at_call 21; (with_reducible refine (y_count (HA.out.below (by repeat (first | (with_reducible first | exact HL.out | apply below_alloc | apply pw_below_drewN | apply below_drew1) | exact HL.out))) N0 HN0.out q HQ.out).mono ?_); rintro e w9 ⟨rfl, hb⟩; have n0_ := Aside0.mk (below_step (by repeat (first | (with_reducible first | exact HB.out | apply below_alloc | apply pw_below_drewN | apply below_drew1) | exact HB.out)) hb); clear HB; have HB := n0_; clear n0_; have hs_ := below_step (by repeat (first | (with_reducible first | exact HL.out | apply below_alloc | apply pw_below_drewN | apply below_drew1) | exact HL.out)) hb; have n_ := Aside0.mk (SY.below HA.out hs_); clear HA; have HA := n_; clear n_; have n_ := Aside0.mk (RY.below RR.out hs_); clear RR; have RR := n_; clear n_; clear HL hs_ hb; have HL := Aside0.mk (Below.refl w9.heap.size w9)) | (go_at_call 22; (with_reducible refine (u_count (RR.out.below (by repeat (first | (with_reducible first | exact HL.out | apply below_alloc | apply pw_below_drewN | apply below_drew1) | exact HL.out))) N0 (HH.out.short (by omega)) q HQ.out).mono ?_); rintro e w10 ⟨rfl, hb⟩; have n0_ := Aside0.mk (below_step (by repeat (first | (with_reducible first | exact HB.out | apply below_alloc | apply pw_below_drewN | apply below_drew1) | exact HB.out)) hb); clear HB; have HB := n0_; clear n0_; have hs_ := below_step (by repeat (first | (with_reducible first | exact HL.out | apply below_alloc | apply pw_below_drewN | apply below_drew1) | exact HL.out)) hb; have n_ := Aside0.mk (SY.below HA.out hs_); clear HA; have HA := n_; clear n_; have n_ := Aside0.mk (RY.below RR.out hs_); clear RR; have RR := n_; clear n_; clear HL hs_ hb; have HL := Aside0.mk (Below.refl w10.heap.size w10)) | (go_at_call 23; (with_reducible refine (y_len (HA.out.below (by repeat (first | (with_reducible first | exact HL.out | apply below_alloc | apply pw_below_drewN | apply below_drew1) | exact HL.out))) l'.length rfl).mono ?_); rintro e w11 ⟨rfl, hb⟩; have n0_ := Aside0.mk (below_step (by repeat (first | (with_reducible first | exact HB.out | apply below_alloc | apply pw_below_drewN | apply below_drew1) | exact HB.out)) hb); clear HB; have HB := n0_; clear n0_; have hs_ := below_step (by repeat (first | (with_reducible first | exact HL.out | apply below_alloc | apply pw_below_drewN | apply below_drew1) | exact HL.out)) hb; have n_ := Aside0.mk (SY.below HA.out hs_); clear HA; have HA := n_; clear n_; have n_ := Aside0.mk (RY.below RR.out hs_); clear RR; have RR := n_; clear n_; clear HL hs_ hb; have HL := Aside0.mk (Below.refl w11.heap.size w11)) | (go_at_call 24; (with_reducible refine (u_len (RR.out.below (by repeat (first | (with_reducible first | exact HL.out | apply below_alloc | apply pw_below_drewN | apply below_drew1) | exact HL.out))) l'.length rfl).mono ?_); rintro e w12 ⟨rfl, hb⟩; have n0_ := Aside0.mk (below_step (by repeat (first | (with_reducible first | exact HB.out | apply below_alloc | apply pw_below_drewN | apply below_drew1) | exact HB.out)) hb); clear HB; have HB := n0_; clear n0_; have hs_ := below_step (by repeat (first | (with_reducible first | exact HL.out | apply below_alloc | apply pw_below_drewN | apply below_drew1) | exact HL.out)) hb; have n_ := Aside0.mk (SY.below HA.out hs_); clear HA; have HA := n_; clear n_; have n_ := Aside0.mk (RY.below RR.out hs_); clear RR; have RR := n_; clear n_; clear HL hs_ hb; have HL := Aside0.mk (Below.refl w12.heap.size w12)) | (go_at_call 25; (with_reducible refine (y_charged (HA.out.below (by repeat (first | (with_reducible first | exact HL.out | apply below_alloc | apply pw_below_drewN | apply below_drew1) | exact HL.out))) (sumOf bs') rfl).mono ?_); rintro e w13 ⟨rfl, hb⟩; have n0_ := Aside0.mk (below_step (by repeat (first | (with_reducible first | exact HB.out | apply below_alloc | apply pw_below_drewN | apply below_drew1) | exact HB.out)) hb); clear HB; have HB := n0_; clear n0_; have hs_ := below_step (by repeat (first | (with_reducible first | exact HL.out | apply below_alloc | apply pw_below_drewN | apply below_drew1) | exact HL.out)) hb; have n_ := Aside0.mk (SY.below HA.out hs_); clear HA; have HA := n_; clear n_; have n_ := Aside0.mk (RY.below RR.out hs_); clear RR; have RR := n_; clear n_; clear HL hs_ hb; have HL := Aside0.mk (Below.refl w13.heap.size w13)) | (go_at_call 26; (with_reducible refine (u_charged (RR.out.below (by repeat (first | (with_reducible first | exact HL.out | apply below_alloc | apply pw_below_drewN | apply below_drew1) | exact HL.out))) HH.out.tied.good (sumOf bs') rfl).mono ?_); rintro e w14 ⟨rfl, hb⟩; have n0_ := Aside0.mk (below_step (by repeat (first | (with_reducible first | exact HB.out | apply below_alloc | apply pw_below_drewN | apply below_drew1) | exact HB.out)) hb); clear HB; have HB := n0_; clear n0_; have hs_ := below_step (by repeat (first | (with_reducible first | exact HL.out | apply below_alloc | apply pw_below_drewN | apply below_drew1) | exact HL.out)) hb; have n_ := Aside0.mk (SY.below HA.out hs_); clear HA; have HA := n_; clear n_; have n_ := Aside0.mk (RY.below RR.out hs_); clear RR; have RR := n_; clear n_; clear HL hs_ hb; have HL := Aside0.mk (Below.refl w14.heap.size w14)))
            all_goals (try (exfalso; omega))
            all_goals go_roundw
            all_goals (try (case rel => exact ⟨i + 1, N', l', bs', by go_num, by omega, hN', by rw [show (((i + 1 : Nat) : Int)) = (i : Int) + 1 by omega]; exact HH, HB, HA, RR⟩))
            all_goals (try (case measure => (simp [intOf] <;> omega)))
    · rcases Nat.lt_or_ge i l with h2 | h2
      · have h3 : 40 ≤ i := by omega
        clear hc
        go_wp2
        all_goals go_ret
        all_goals exact ⟨rfl, (by repeat (first | (with_reducible first | exact HB.out | apply below_alloc | apply pw_below_drewN | apply below_drew1) | exact HB.out))⟩
      · clear hc
        go_wp2
        all_goals go_ret
        all_goals exact ⟨rfl, (by repeat (first | (with_reducible first | exact HB.out | apply below_alloc | apply pw_below_drewN | apply below_drew1) | exact HB.out))⟩
end Go.Proofs.Ytibcbeibehaeeaa.Hand
