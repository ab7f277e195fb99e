/- StoreCharges: its walk. -/
import Derived.Test.YtibcbeibehaeeaaJQ
import Derived.Test.YtibcbeibehaeeaaJS
set_option linter.unusedVariables false
set_option linter.unusedSimpArgs false
namespace Go.Proofs.Ytibcbeibehaeeaa.Hand
open Go.RowKit Go.Proofs.Ytibcbeibehaeeaa.PStorePlays Go.Proofs.YtibcbeibehaeeaaW.PrintWords Go.Proofs.YtibcbeibehaeeaaW.PrintLast Go.Proofs.YtibcbeibehaeeaaW.PrintMore
theorem y_lenI {W : World} {gs ga mb N : Nat} {cap lim : Int} {bs : List S114} {l : List Kt} (h : SY W gs ga mb N cap lim bs l) (n : Int) (hn : (l.length : Int) = n) : Calls Try.prog 23 #[.pointer (some ⟨gs, 0, none⟩)] W fun e w' => e = .returned (.int .i64 n) ∧ Below W.heap.size W w' := by
  subst hn
  exact y_len h _ rfl
theorem y_liveI {W : World} {gs ga mb N : Nat} {cap lim : Int} {bs : List S114} {l : List Kt} (h : SY W gs ga mb N cap lim bs l) (hg : Good bs) (n : Int) (hn : (liveOf bs : Int) = n) : Calls Try.prog 30 #[.pointer (some ⟨ga, 0, none⟩)] W fun e w' => e = .returned (.int .i64 n) ∧ Below W.heap.size W w' := by
  subst hn
  exact y_live h hg _ rfl
set_option maxHeartbeats 4000000 in
set_option maxRecDepth 100000 in
theorem StoreCharges_walk_ (y : List Int) (ad : Addr) (c : Nat) (w : World) (hy : y.length ≤ 140737488351232) (HK : Aside0 (∀ i, i < y.length → ∃ b : Nat, b ≤ 255 ∧ ∀ W', Has w W' → W'.cell? (ad.add i) = some (.int .u8 b))) :
    Calls Try.prog 5 #[.slice (some ad) y.length c] w fun e w' => e = .returned (.bool true) ∧ Below w.heap.size w w' := by
  have HB := Aside0.mk (Below.refl w.heap.size w)
  have HL := Aside0.mk (Below.refl w.heap.size w)
  go_enter Try.func5, Try.ntmps5
  go_wp2_with (first | (go_at_call 7; (with_reducible refine (examples_c _).mono ?_); rintro e w1 ⟨rfl, hb⟩; have n0_ := Aside0.mk (below_step (by repeat (first | (with_reducible first | exact HB.out | apply below_alloc | apply pw_below_drewN | apply below_drew1) | exact HB.out)) hb); clear HB; have HB := n0_; clear n0_; have hs_ := below_step (by repeat (first | (with_reducible first | exact HL.out | apply below_alloc | apply pw_below_drewN | apply below_drew1) | exact HL.out)) hb; have hg := below_size HB.out; clear HL hs_ hb; have HL := Aside0.mk (Below.refl w1.heap.size w1)) | (go_at_call 8; (with_reducible refine (x_new 300 _ (by decide) (by decide)).mono ?_); rintro e w2 ⟨rfl, hA, hb⟩; have HA := Aside0.mk hA; clear hA; have n0_ := Aside0.mk (below_step (by repeat (first | (with_reducible first | exact HB.out | apply below_alloc | apply pw_below_drewN | apply below_drew1) | exact HB.out)) hb); clear HB; have HB := n0_; clear n0_; have hs_ := below_step (by repeat (first | (with_reducible first | exact HL.out | apply below_alloc | apply pw_below_drewN | apply below_drew1) | exact HL.out)) hb; clear HL hs_ hb; have HL := Aside0.mk (Below.refl w2.heap.size w2)) | (go_at_call 10; (with_reducible refine (y_new (HA.out.below (by repeat (first | (with_reducible first | exact HL.out | apply below_alloc | apply pw_below_drewN | apply below_drew1) | exact HL.out)))).mono ?_); rintro e w3 ⟨gs, mb, rfl, hA, hb⟩; clear HA; have HA := Aside0.mk hA; clear hA; have n0_ := Aside0.mk (below_step (by repeat (first | (with_reducible first | exact HB.out | apply below_alloc | apply pw_below_drewN | apply below_drew1) | exact HB.out)) hb); clear HB; have HB := n0_; clear n0_; have hs_ := below_step (by repeat (first | (with_reducible first | exact HL.out | apply below_alloc | apply pw_below_drewN | apply below_drew1) | exact HL.out)) hb; clear HL hs_ hb; have HL := Aside0.mk (Below.refl w3.heap.size w3)))
  go_loopw [6] (fun v6 wr => ∃ (i N : Nat) (l : List Kt) (bs : List S114), v6 = .int .i64 (i : Int) ∧ i ≤ 60 ∧ N ≤ i ∧ Aside0 (Held (i : Int) bs l) ∧ Aside0 (Below w.heap.size w wr) ∧ Aside0 (SY wr gs w1.heap.size mb N 300 300 bs l)) (fun v _ => 60 - (intOf v).toNat)
  case atStart => exact ⟨0, 0, [], [], rfl, by omega, by omega, ⟨Held.nil⟩, ⟨(by repeat (first | (with_reducible first | exact HB.out | apply below_alloc | apply pw_below_drewN | apply below_drew1) | exact HB.out))⟩, ⟨HA.out.below (by repeat (first | (with_reducible first | exact HL.out | apply below_alloc | apply pw_below_drewN | apply below_drew1) | exact HL.out))⟩⟩
  case round =>
    clear HB HA HL
    obtain ⟨i, N, l, bs, rfl, hi, hN, HH, HB, HA⟩ := hrel
    have HL := Aside0.mk (Below.refl wr.heap.size wr)
    by_cases hc : i < y.length ∧ i < 60
    · obtain ⟨h2, h3⟩ := hc
      obtain ⟨b, hb255, hD⟩ := HK.out i h2
      have d0 := hD wr (Has.of_below HB.out)
      have HD := Aside0.mk hD
      clear hD
      obtain ⟨n, hn⟩ : ∃ n : Nat, (b : Int) % 8 = (n : Int) := ⟨b % 8, by omega⟩
      have hn8 : n < 8 := by omega
      obtain ⟨q, hq⟩ : ∃ q, cntK l (n : Int) = q := ⟨_, rfl⟩
      have HQ := Aside0.mk hq
      clear hq
      go_upto_region 13 with (first | (go_at_call 21; (with_reducible refine (y_count (HA.out.below (by repeat (first | (with_reducible first | exact HL.out | apply below_alloc | apply pw_below_drewN | apply below_drew1) | exact HL.out))) (n : Int) (by unfold I64k; omega) q HQ.out).mono ?_); rintro e w4 ⟨rfl, hb⟩; have n0_ := Aside0.mk (below_step (by repeat (first | (with_reducible first | exact HB.out | apply below_alloc | apply pw_below_drewN | apply below_drew1) | exact HB.out)) hb); clear HB; have HB := n0_; clear n0_; have hs_ := below_step (by repeat (first | (with_reducible first | exact HL.out | apply below_alloc | apply pw_below_drewN | apply below_drew1) | exact HL.out)) hb; have n_ := Aside0.mk (SY.below HA.out hs_); clear HA; have HA := n_; clear n_; clear HL hs_ hb; have HL := Aside0.mk (Below.refl w4.heap.size w4)))
      clear d0
      have d0 := HD.out w4 (Has.of_below HB.out)
      go_upto_block 2 with fail
      clear d0
      go_cut [53, 54] (fun v53 v54 wx => ∃ (N' : Nat) (l' : List Kt) (bs' : List S114), N' ≤ i + 1 ∧ Held ((i : Int) + 1) bs' l' ∧ Below w.heap.size w wx ∧ SY wx gs w1.heap.size mb N' 300 300 bs' l')
      case first => as_aux_lemma =>
        obtain hkd | hkd | hkd | hkd : (b : Int) / 8 % 4 = 0 ∨ (b : Int) / 8 % 4 = 1 ∨ (b : Int) / 8 % 4 = 2 ∨ (b : Int) / 8 % 4 = 3 := by omega
        · have hmk := print_make (P := Try.prog) 33 2 .i64 8 Try.underlying33 infoI64 (by decide) n (by omega)
          cases hf : findK l (n : Int) with
          | some x =>
            obtain ⟨q0, q1⟩ := HH.out.count hf
            have hsm : (findK l (n : Int)).isSome = true := by rw [hf]; rfl
            have HSM := Aside0.mk hsm
            rw [HQ.out] at q0 q1
            have HF := Aside0.mk hf
            clear hsm hf
            have E := Aside0.mk (putS_has (lim := 300) (bs := bs) (evz_put n hn8) HSM.out)
            go_wp2_with (first | (go_at_call 12; (with_reducible refine (y_put (HA.out.below (by repeat (first | (with_reducible first | exact HL.out | apply below_alloc | apply pw_below_drewN | apply below_drew1) | exact HL.out))) HH.out.tied.good (by omega) (n : Int) (by unfold I64k; omega) (n : Int) 0 (List.replicate n 0) _ n n (C_zero (q := 2) (g := w4.heap.size) (by repeat (first | (with_reducible refine blk_drewN ?_ _) | (with_reducible refine blk_drew ?_) | exact blk_new' (by first | rfl | simp) | (with_reducible refine blk_alloc ?_ _))) (by omega)) 1 l bs E.out).mono ?_); rintro e w5 ⟨rfl, hA, hF⟩; have hF0 := hF; have hF := FS.trans (FS.of_below (by repeat (first | (with_reducible first | exact HL.out | apply below_alloc | apply pw_below_drewN | apply below_drew1) | exact HL.out))) hF; have n0_ := Aside0.mk (FS.below hF HB.out hg (below_size HB.out)); clear HB; have HB := n0_; clear n0_; clear HA; have HA := Aside0.mk (show SY w5 gs w1.heap.size mb (N + 1) 300 300 bs l from hA); clear hA HL hF hF0; have HL := Aside0.mk (Below.refl w5.heap.size w5)))
            all_goals (try (exfalso; omega))
            all_goals go_meet
            all_goals exact ⟨N + 1, l, bs, by omega, HH.out.mono (by omega), HB.out, HA.out⟩
          | none =>
            have hq0 : q = 0 := by rw [← HQ.out]; exact cntK_none hf
            subst hq0
            have hsm : (findK l (n : Int)).isSome = false := by rw [hf]; rfl
            have HSM := Aside0.mk hsm
            have HF := Aside0.mk hf
            clear hsm hf
            obtain ⟨er, l2, b2, hE, her, hH2⟩ := HH.out.put (by omega) n hn8 HF.out
            have E := Aside0.mk hE
            have H2 := Aside0.mk hH2
            clear hE hH2
            rcases her with rfl | rfl
            · go_wp2_with (first | (go_at_call 12; (with_reducible refine (y_put (HA.out.below (by repeat (first | (with_reducible first | exact HL.out | apply below_alloc | apply pw_below_drewN | apply below_drew1) | exact HL.out))) HH.out.tied.good (by omega) (n : Int) (by unfold I64k; omega) (n : Int) 0 (List.replicate n 0) _ n n (C_zero (q := 2) (g := w4.heap.size) (by repeat (first | (with_reducible refine blk_drewN ?_ _) | (with_reducible refine blk_drew ?_) | exact blk_new' (by first | rfl | simp) | (with_reducible refine blk_alloc ?_ _))) (by omega)) 0 l2 b2 E.out).mono ?_); rintro e w5 ⟨rfl, hA, hF⟩; have hF0 := hF; have hF := FS.trans (FS.of_below (by repeat (first | (with_reducible first | exact HL.out | apply below_alloc | apply pw_below_drewN | apply below_drew1) | exact HL.out))) hF; have n0_ := Aside0.mk (FS.below hF HB.out hg (below_size HB.out)); clear HB; have HB := n0_; clear n0_; clear HA; have HA := Aside0.mk (show SY w5 gs w1.heap.size mb (N + 1) 300 300 b2 l2 from hA); clear hA HL hF hF0; have HL := Aside0.mk (Below.refl w5.heap.size w5)))
              all_goals (try (exfalso; omega))
              all_goals go_meet
              all_goals exact ⟨N + 1, l2, b2, by omega, H2.out, HB.out, HA.out⟩
            · go_wp2_with (first | (go_at_call 12; (with_reducible refine (y_put (HA.out.below (by repeat (first | (with_reducible first | exact HL.out | apply below_alloc | apply pw_below_drewN | apply below_drew1) | exact HL.out))) HH.out.tied.good (by omega) (n : Int) (by unfold I64k; omega) (n : Int) 0 (List.replicate n 0) _ n n (C_zero (q := 2) (g := w4.heap.size) (by repeat (first | (with_reducible refine blk_drewN ?_ _) | (with_reducible refine blk_drew ?_) | exact blk_new' (by first | rfl | simp) | (with_reducible refine blk_alloc ?_ _))) (by omega)) 9 l2 b2 E.out).mono ?_); rintro e w5 ⟨rfl, hA, hF⟩; have hF0 := hF; have hF := FS.trans (FS.of_below (by repeat (first | (with_reducible first | exact HL.out | apply below_alloc | apply pw_below_drewN | apply below_drew1) | exact HL.out))) hF; have n0_ := Aside0.mk (FS.below hF HB.out hg (below_size HB.out)); clear HB; have HB := n0_; clear n0_; clear HA; have HA := Aside0.mk (show SY w5 gs w1.heap.size mb (N + 1) 300 300 b2 l2 from hA); clear hA HL hF hF0; have HL := Aside0.mk (Below.refl w5.heap.size w5)))
              all_goals (try (exfalso; omega))
              all_goals go_meet
              all_goals exact ⟨N + 1, l2, b2, by omega, H2.out, HB.out, HA.out⟩
        · have hmk := print_make (P := Try.prog) 33 2 .i64 8 Try.underlying33 infoI64 (by decide) n (by omega)
          cases hf : findK l (n : Int) with
          | some x =>
            obtain ⟨q0, q1⟩ := HH.out.count hf
            have hsm : (findK l (n : Int)).isSome = true := by rw [hf]; rfl
            have HSM := Aside0.mk hsm
            rw [HQ.out] at q0 q1
            have HF := Aside0.mk hf
            clear hsm hf
            have E := Aside0.mk (putS_has (lim := 300) (bs := bs) (evz_put n hn8) HSM.out)
            go_wp2_with (first | (go_at_call 12; (with_reducible refine (y_put (HA.out.below (by repeat (first | (with_reducible first | exact HL.out | apply below_alloc | apply pw_below_drewN | apply below_drew1) | exact HL.out))) HH.out.tied.good (by omega) (n : Int) (by unfold I64k; omega) (n : Int) 0 (List.replicate n 0) _ n n (C_zero (q := 2) (g := w4.heap.size) (by repeat (first | (with_reducible refine blk_drewN ?_ _) | (with_reducible refine blk_drew ?_) | exact blk_new' (by first | rfl | simp) | (with_reducible refine blk_alloc ?_ _))) (by omega)) 1 l bs E.out).mono ?_); rintro e w5 ⟨rfl, hA, hF⟩; have hF0 := hF; have hF := FS.trans (FS.of_below (by repeat (first | (with_reducible first | exact HL.out | apply below_alloc | apply pw_below_drewN | apply below_drew1) | exact HL.out))) hF; have n0_ := Aside0.mk (FS.below hF HB.out hg (below_size HB.out)); clear HB; have HB := n0_; clear n0_; clear HA; have HA := Aside0.mk (show SY w5 gs w1.heap.size mb (N + 1) 300 300 bs l from hA); clear hA HL hF hF0; have HL := Aside0.mk (Below.refl w5.heap.size w5)))
            all_goals (try (exfalso; omega))
            all_goals go_meet
            all_goals exact ⟨N + 1, l, bs, by omega, HH.out.mono (by omega), HB.out, HA.out⟩
          | none =>
            have hq0 : q = 0 := by rw [← HQ.out]; exact cntK_none hf
            subst hq0
            have hsm : (findK l (n : Int)).isSome = false := by rw [hf]; rfl
            have HSM := Aside0.mk hsm
            have HF := Aside0.mk hf
            clear hsm hf
            obtain ⟨er, l2, b2, hE, her, hH2⟩ := HH.out.put (by omega) n hn8 HF.out
            have E := Aside0.mk hE
            have H2 := Aside0.mk hH2
            clear hE hH2
            rcases her with rfl | rfl
            · go_wp2_with (first | (go_at_call 12; (with_reducible refine (y_put (HA.out.below (by repeat (first | (with_reducible first | exact HL.out | apply below_alloc | apply pw_below_drewN | apply below_drew1) | exact HL.out))) HH.out.tied.good (by omega) (n : Int) (by unfold I64k; omega) (n : Int) 0 (List.replicate n 0) _ n n (C_zero (q := 2) (g := w4.heap.size) (by repeat (first | (with_reducible refine blk_drewN ?_ _) | (with_reducible refine blk_drew ?_) | exact blk_new' (by first | rfl | simp) | (with_reducible refine blk_alloc ?_ _))) (by omega)) 0 l2 b2 E.out).mono ?_); rintro e w5 ⟨rfl, hA, hF⟩; have hF0 := hF; have hF := FS.trans (FS.of_below (by repeat (first | (with_reducible first | exact HL.out | apply below_alloc | apply pw_below_drewN | apply below_drew1) | exact HL.out))) hF; have n0_ := Aside0.mk (FS.below hF HB.out hg (below_size HB.out)); clear HB; have HB := n0_; clear n0_; clear HA; have HA := Aside0.mk (show SY w5 gs w1.heap.size mb (N + 1) 300 300 b2 l2 from hA); clear hA HL hF hF0; have HL := Aside0.mk (Below.refl w5.heap.size w5)))
              all_goals (try (exfalso; omega))
              all_goals go_meet
              all_goals exact ⟨N + 1, l2, b2, by omega, H2.out, HB.out, HA.out⟩
            · go_wp2_with (first | (go_at_call 12; (with_reducible refine (y_put (HA.out.below (by repeat (first | (with_reducible first | exact HL.out | apply below_alloc | apply pw_below_drewN | apply below_drew1) | exact HL.out))) HH.out.tied.good (by omega) (n : Int) (by unfold I64k; omega) (n : Int) 0 (List.replicate n 0) _ n n (C_zero (q := 2) (g := w4.heap.size) (by repeat (first | (with_reducible refine blk_drewN ?_ _) | (with_reducible refine blk_drew ?_) | exact blk_new' (by first | rfl | simp) | (with_reducible refine blk_alloc ?_ _))) (by omega)) 9 l2 b2 E.out).mono ?_); rintro e w5 ⟨rfl, hA, hF⟩; have hF0 := hF; have hF := FS.trans (FS.of_below (by repeat (first | (with_reducible first | exact HL.out | apply below_alloc | apply pw_below_drewN | apply below_drew1) | exact HL.out))) hF; have n0_ := Aside0.mk (FS.below hF HB.out hg (below_size HB.out)); clear HB; have HB := n0_; clear n0_; clear HA; have HA := Aside0.mk (show SY w5 gs w1.heap.size mb (N + 1) 300 300 b2 l2 from hA); clear hA HL hF hF0; have HL := Aside0.mk (Below.refl w5.heap.size w5)))
              all_goals (try (exfalso; omega))
              all_goals go_meet
              all_goals exact ⟨N + 1, l2, b2, by omega, H2.out, HB.out, HA.out⟩
        · cases hf : findK l (n : Int) with
          | some x =>
            obtain ⟨q0, q1⟩ := HH.out.count hf
            have hsm : (findK l (n : Int)).isSome = true := by rw [hf]; rfl
            have HSM := Aside0.mk hsm
            rw [HQ.out] at q0 q1
            have HF := Aside0.mk hf
            clear hsm hf
            go_wp2_with (first | (go_at_call 14; (with_reducible refine (y_hold (HA.out.below (by repeat (first | (with_reducible first | exact HL.out | apply below_alloc | apply pw_below_drewN | apply below_drew1) | exact HL.out))) (HH.out.fine (by omega)) (n : Int) (by unfold I64k; omega) true HSM.out (bump l (n : Int) 1) rfl).mono ?_); rintro e w5 ⟨rfl, hA, hF⟩; have hF0 := hF; have hF := FS.trans (FS.of_below (by repeat (first | (with_reducible first | exact HL.out | apply below_alloc | apply pw_below_drewN | apply below_drew1) | exact HL.out))) hF; have n0_ := Aside0.mk (FS.below hF HB.out hg (below_size HB.out)); clear HB; have HB := n0_; clear n0_; clear HA; have HA := Aside0.mk (show SY w5 gs w1.heap.size mb N 300 300 bs (bump l (n : Int) 1) from hA); clear hA HL hF hF0; have HL := Aside0.mk (Below.refl w5.heap.size w5)) | (go_at_call 21; (with_reducible refine (y_count (HA.out.below (by repeat (first | (with_reducible first | exact HL.out | apply below_alloc | apply pw_below_drewN | apply below_drew1) | exact HL.out))) (n : Int) (by unfold I64k; omega) (q + 1) ((cntK_bump HF.out 1).trans (by rw [HQ.out]))).mono ?_); rintro e w6 ⟨rfl, hb⟩; have n0_ := Aside0.mk (below_step (by repeat (first | (with_reducible first | exact HB.out | apply below_alloc | apply pw_below_drewN | apply below_drew1) | exact HB.out)) hb); clear HB; have HB := n0_; clear n0_; have hs_ := below_step (by repeat (first | (with_reducible first | exact HL.out | apply below_alloc | apply pw_below_drewN | apply below_drew1) | exact HL.out)) hb; have n_ := Aside0.mk (SY.below HA.out hs_); clear HA; have HA := n_; clear n_; clear HL hs_ hb; have HL := Aside0.mk (Below.refl w6.heap.size w6)))
            all_goals (try (exfalso; omega))
            all_goals go_meet
            all_goals exact ⟨N, _, bs, by omega, HH.out.hold, HB.out, HA.out⟩
          | none =>
            have hq0 : q = 0 := by rw [← HQ.out]; exact cntK_none hf
            subst hq0
            have hsm : (findK l (n : Int)).isSome = false := by rw [hf]; rfl
            have HSM := Aside0.mk hsm
            have HF := Aside0.mk hf
            clear hsm hf
            go_wp2_with (first | (go_at_call 14; (with_reducible refine (y_hold (HA.out.below (by repeat (first | (with_reducible first | exact HL.out | apply below_alloc | apply pw_below_drewN | apply below_drew1) | exact HL.out))) (HH.out.fine (by omega)) (n : Int) (by unfold I64k; omega) false HSM.out l (bump_none _ _ _ HF.out)).mono ?_); rintro e w5 ⟨rfl, hA, hF⟩; have hF0 := hF; have hF := FS.trans (FS.of_below (by repeat (first | (with_reducible first | exact HL.out | apply below_alloc | apply pw_below_drewN | apply below_drew1) | exact HL.out))) hF; have n0_ := Aside0.mk (FS.below hF HB.out hg (below_size HB.out)); clear HB; have HB := n0_; clear n0_; clear HA; have HA := Aside0.mk (show SY w5 gs w1.heap.size mb N 300 300 bs l from hA); clear hA HL hF hF0; have HL := Aside0.mk (Below.refl w5.heap.size w5)))
            all_goals (try (exfalso; omega))
            all_goals go_meet
            all_goals exact ⟨N, l, bs, by omega, HH.out.mono (by omega), HB.out, HA.out⟩
        · cases hf : findK l (n : Int) with
          | some x =>
            obtain ⟨q0, q1⟩ := HH.out.count hf
            have hsm : (findK l (n : Int)).isSome = true := by rw [hf]; rfl
            have HSM := Aside0.mk hsm
            rw [HQ.out] at q0 q1
            have HF := Aside0.mk hf
            clear hsm hf
            obtain ⟨hd1, hd2⟩ := HH.out.drop HF.out
            rw [HQ.out] at hd2
            have D1 := Aside0.mk hd1
            have D2 := Aside0.mk hd2
            clear hd1 hd2
            go_wp2_with (first | (go_at_call 16; (with_reducible refine (y_drop (HA.out.below (by repeat (first | (with_reducible first | exact HL.out | apply below_alloc | apply pw_below_drewN | apply below_drew1) | exact HL.out))) (HH.out.fine (by omega)) HH.out.tied.good (n : Int) (by unfold I64k; omega) true HSM.out (dropL l (n : Int)) rfl (dropS bs l (n : Int)) rfl).mono ?_); rintro e w5 ⟨rfl, hA, hF⟩; have hF0 := hF; have hF := FS.trans (FS.of_below (by repeat (first | (with_reducible first | exact HL.out | apply below_alloc | apply pw_below_drewN | apply below_drew1) | exact HL.out))) hF; have n0_ := Aside0.mk (FS.below hF HB.out hg (below_size HB.out)); clear HB; have HB := n0_; clear n0_; clear HA; have HA := Aside0.mk (show SY w5 gs w1.heap.size mb N 300 300 (dropS bs l (n : Int)) (dropL l (n : Int)) from hA); clear hA HL hF hF0; have HL := Aside0.mk (Below.refl w5.heap.size w5)) | (go_at_call 21; (with_reducible refine (y_count (HA.out.below (by repeat (first | (with_reducible first | exact HL.out | apply below_alloc | apply pw_below_drewN | apply below_drew1) | exact HL.out))) (n : Int) (by unfold I64k; omega) (q - 1) D2.out).mono ?_); rintro e w6 ⟨rfl, hb⟩; have n0_ := Aside0.mk (below_step (by repeat (first | (with_reducible first | exact HB.out | apply below_alloc | apply pw_below_drewN | apply below_drew1) | exact HB.out)) hb); clear HB; have HB := n0_; clear n0_; have hs_ := below_step (by repeat (first | (with_reducible first | exact HL.out | apply below_alloc | apply pw_below_drewN | apply below_drew1) | exact HL.out)) hb; have n_ := Aside0.mk (SY.below HA.out hs_); clear HA; have HA := n_; clear n_; clear HL hs_ hb; have HL := Aside0.mk (Below.refl w6.heap.size w6)))
            all_goals (try (exfalso; omega))
            all_goals go_meet
            all_goals exact ⟨N, _, _, by omega, D1.out.mono (by omega), HB.out, HA.out⟩
          | none =>
            have hq0 : q = 0 := by rw [← HQ.out]; exact cntK_none hf
            subst hq0
            have hsm : (findK l (n : Int)).isSome = false := by rw [hf]; rfl
            have HSM := Aside0.mk hsm
            have HF := Aside0.mk hf
            clear hsm hf
            go_wp2_with (first | (go_at_call 16; (with_reducible refine (y_drop (HA.out.below (by repeat (first | (with_reducible first | exact HL.out | apply below_alloc | apply pw_below_drewN | apply below_drew1) | exact HL.out))) (HH.out.fine (by omega)) HH.out.tied.good (n : Int) (by unfold I64k; omega) false HSM.out l (dropL_none (bs := bs) HF.out).1 bs (dropL_none (bs := bs) HF.out).2).mono ?_); rintro e w5 ⟨rfl, hA, hF⟩; have hF0 := hF; have hF := FS.trans (FS.of_below (by repeat (first | (with_reducible first | exact HL.out | apply below_alloc | apply pw_below_drewN | apply below_drew1) | exact HL.out))) hF; have n0_ := Aside0.mk (FS.below hF HB.out hg (below_size HB.out)); clear HB; have HB := n0_; clear n0_; clear HA; have HA := Aside0.mk (show SY w5 gs w1.heap.size mb N 300 300 bs l from hA); clear hA HL hF hF0; have HL := Aside0.mk (Below.refl w5.heap.size w5)))
            all_goals (try (exfalso; omega))
            all_goals go_meet
            all_goals exact ⟨N, l, bs, by omega, HH.out.mono (by omega), HB.out, HA.out⟩
      case rest => as_aux_lemma =>
        clear HB HA HL HH HQ HD
        obtain ⟨N', l', bs', hN', hH_, hB_, hA_⟩ := hcut
        have HH := Aside0.mk hH_
        have HB := Aside0.mk hB_
        have HA := Aside0.mk hA_
        have HL := Aside0.mk (Below.refl wc.heap.size wc)
        clear hH_ hB_ hA_
        go_wp2
        go_loopw [10, 11, 12] (fun v10 v11 v12 wr => ∃ k : Nat, v10 = .int .i64 (totK l' gS k) ∧ v11 = .int .i64 (totK l' (fun _ => 1) k) ∧ v12 = .int .i64 (k : Int) ∧ k ≤ 8 ∧ Aside0 (Below w.heap.size w wr) ∧ Aside0 (SY wr gs w1.heap.size mb N' 300 300 bs' l')) (fun _ _ v _ => 8 - (intOf v).toNat)
        case atStart => exact ⟨0, rfl, rfl, rfl, by omega, HB, HA⟩
        case round =>
          clear HB HA HL
          obtain ⟨k, rfl, rfl, rfl, hk, HB, HA⟩ := hrel
          have HL := Aside0.mk (Below.refl wr.heap.size wr)
          obtain ⟨t1, ht1⟩ : ∃ t1, totK l' gS k = t1 := ⟨_, rfl⟩
          obtain ⟨t2, ht2⟩ : ∃ t2, totK l' (fun _ => 1) k = t2 := ⟨_, rfl⟩
          have tb := totK_bd l' k hk
          rw [ht1, ht2] at tb
          rw [ht1, ht2]
          have T1 := Aside0.mk ht1
          have T2 := Aside0.mk ht2
          clear ht1 ht2
          by_cases hk8 : k < 8
          · cases hf : findK l' (k : Int) with
            | some x =>
              have hsm : (findK l' (k : Int)).isSome = true := by rw [hf]; rfl
              obtain ⟨q2, hq2⟩ : ∃ q2, cntK l' (k : Int) = q2 := ⟨_, rfl⟩
              obtain ⟨q20, q21⟩ := HH.out.count hf
              rw [hq2] at q20 q21
              obtain ⟨r, hr⟩ : ∃ r, rnd (10 + 8 * (k : Int)) = r := ⟨_, rfl⟩
              have hrb := rnd_le (10 + 8 * (k : Int))
              rw [hr] at hrb
              have HRR := Aside0.mk hr
              have HQ2 := Aside0.mk hq2
              have HF := Aside0.mk hf
              have HSM := Aside0.mk hsm
              clear hf hq2 hr hsm
              go_wp2_with (first | (go_at_call 18; (with_reducible refine (y_get (HA.out.below (by repeat (first | (with_reducible first | exact HL.out | apply below_alloc | apply pw_below_drewN | apply below_drew1) | exact HL.out))) (HH.out.fine (by omega)) HH.out.tied.good HH.out.siz (k : Int) (by unfold I64k; omega) (k : Int) 0 (List.replicate k 0) true (HH.out.get hk8 HF.out)).mono ?_); rintro e w5 ⟨v8, rfl, hR8, hb⟩; have n0_ := Aside0.mk (below_step (by repeat (first | (with_reducible first | exact HB.out | apply below_alloc | apply pw_below_drewN | apply below_drew1) | exact HB.out)) hb); clear HB; have HB := n0_; clear n0_; have hs_ := below_step (by repeat (first | (with_reducible first | exact HL.out | apply below_alloc | apply pw_below_drewN | apply below_drew1) | exact HL.out)) hb; have n_ := Aside0.mk (SY.below HA.out hs_); clear HA; have HA := n_; clear n_; obtain ⟨A8, c8, e8⟩ := Kd.R_slice hR8; rw [List.length_replicate] at e8; subst e8; have r8_ := Kd.R_reads' hR8; rw [List.length_replicate] at r8_; have C8 := Aside0.mk r8_.2.2; clear hR8 r8_; clear HL hs_ hb; have HL := Aside0.mk (Below.refl w5.heap.size w5)) | (go_at_call 21; (with_reducible refine (y_count (HA.out.below (by repeat (first | (with_reducible first | exact HL.out | apply below_alloc | apply pw_below_drewN | apply below_drew1) | exact HL.out))) (k : Int) (by unfold I64k; omega) q2 HQ2.out).mono ?_); rintro e w6 ⟨rfl, hb⟩; have n0_ := Aside0.mk (below_step (by repeat (first | (with_reducible first | exact HB.out | apply below_alloc | apply pw_below_drewN | apply below_drew1) | exact HB.out)) hb); clear HB; have HB := n0_; clear n0_; have hs_ := below_step (by repeat (first | (with_reducible first | exact HL.out | apply below_alloc | apply pw_below_drewN | apply below_drew1) | exact HL.out)) hb; have n_ := Aside0.mk (SY.below HA.out hs_); clear HA; have HA := n_; clear n_; have n_ := Aside0.mk (Kd.C_below C8.out hs_); clear C8; have C8 := n_; clear n_; have BX := Aside0.mk (blk_below (o := .cells #[.int .i64 (k : Int), .int .i64 0, .slice A8 k c8] 35 (0, 0)) (g := w5.heap.size) (by repeat (first | (with_reducible refine blk_drewN ?_ _) | (with_reducible refine blk_drew ?_) | exact blk_new' (by first | rfl | simp) | (with_reducible refine blk_alloc ?_ _))) hb); have qBX_0 := blk_cell BX.out 0; have qBX_1 := blk_cell BX.out 1; have qBX_2 := blk_cell BX.out 2; have lBX := blk_lt BX.out; simp only [List.getElem?_toArray, List.getElem?_cons_zero, List.getElem?_cons_succ] at qBX_0 qBX_1 qBX_2; clear HL hs_ hb; have HL := Aside0.mk (Below.refl w6.heap.size w6)) | (go_at_call 28; (with_reducible refine (wsize_n (k : Int) 0 A8 k c8 (List.replicate k 0) (10 + 8 * (k : Int)) _ C8.out (by rw [evz_put k hk8]; show ((evz k).size : Int) = _; rw [evz_size]; omega)).mono ?_); rintro e w7 ⟨rfl, hb⟩; have n0_ := Aside0.mk (below_step (by repeat (first | (with_reducible first | exact HB.out | apply below_alloc | apply pw_below_drewN | apply below_drew1) | exact HB.out)) hb); clear HB; have HB := n0_; clear n0_; have hs_ := below_step (by repeat (first | (with_reducible first | exact HL.out | apply below_alloc | apply pw_below_drewN | apply below_drew1) | exact HL.out)) hb; have n_ := Aside0.mk (SY.below HA.out hs_); clear HA; have HA := n_; clear n_; have n_ := Aside0.mk (blk_below BX.out hs_); clear qBX_0 qBX_1 qBX_2 lBX; clear BX; have BX := n_; clear n_; have qBX_0 := blk_cell BX.out 0; have qBX_1 := blk_cell BX.out 1; have qBX_2 := blk_cell BX.out 2; have lBX := blk_lt BX.out; simp only [List.getElem?_toArray, List.getElem?_cons_zero, List.getElem?_cons_succ] at qBX_0 qBX_1 qBX_2; clear HL hs_ hb; have HL := Aside0.mk (Below.refl w7.heap.size w7)) | (go_at_call 27; (with_reducible refine (round_b' (10 + 8 * (k : Int)) r HRR.out _).mono ?_); rintro e w8 ⟨rfl, hb⟩; have n0_ := Aside0.mk (below_step (by repeat (first | (with_reducible first | exact HB.out | apply below_alloc | apply pw_below_drewN | apply below_drew1) | exact HB.out)) hb); clear HB; have HB := n0_; clear n0_; have hs_ := below_step (by repeat (first | (with_reducible first | exact HL.out | apply below_alloc | apply pw_below_drewN | apply below_drew1) | exact HL.out)) hb; have n_ := Aside0.mk (SY.below HA.out hs_); clear HA; have HA := n_; clear n_; have n_ := Aside0.mk (blk_below BX.out hs_); clear qBX_0 qBX_1 qBX_2 lBX; clear BX; have BX := n_; clear n_; have qBX_0 := blk_cell BX.out 0; have qBX_1 := blk_cell BX.out 1; have qBX_2 := blk_cell BX.out 2; have lBX := blk_lt BX.out; simp only [List.getElem?_toArray, List.getElem?_cons_zero, List.getElem?_cons_succ] at qBX_0 qBX_1 qBX_2; clear HL hs_ hb; have HL := Aside0.mk (Below.refl w8.heap.size w8)))
              all_goals go_roundw
              all_goals (try (case rel => exact ⟨k + 1, by (simp only [totK, HSM.out, if_true, T1.out, gS, HRR.out]), by (simp only [totK, HSM.out, if_true, T2.out]), by go_num, by omega, HB, HA⟩))
              all_goals (try (case measure => (simp [intOf] <;> omega)))
            | none =>
              have hsm : (findK l' (k : Int)).isSome = false := by rw [hf]; rfl
              have HF := Aside0.mk hf
              have HSM := Aside0.mk hsm
              clear hf hsm
              go_wp2_with (first | (go_at_call 18; (with_reducible refine (y_get (HA.out.below (by repeat (first | (with_reducible first | exact HL.out | apply below_alloc | apply pw_below_drewN | apply below_drew1) | exact HL.out))) (HH.out.fine (by omega)) HH.out.tied.good HH.out.siz (k : Int) (by unfold I64k; omega) 0 0 [] false (getS_none HF.out)).mono ?_); rintro e w5 ⟨v8, rfl, hR8, hb⟩; have n0_ := Aside0.mk (below_step (by repeat (first | (with_reducible first | exact HB.out | apply below_alloc | apply pw_below_drewN | apply below_drew1) | exact HB.out)) hb); clear HB; have HB := n0_; clear n0_; have hs_ := below_step (by repeat (first | (with_reducible first | exact HL.out | apply below_alloc | apply pw_below_drewN | apply below_drew1) | exact HL.out)) hb; have n_ := Aside0.mk (SY.below HA.out hs_); clear HA; have HA := n_; clear n_; obtain ⟨A8, c8, e8⟩ := Kd.R_slice hR8; subst e8; clear hR8; clear HL hs_ hb; have HL := Aside0.mk (Below.refl w5.heap.size w5)) | (go_at_call 21; (with_reducible refine (y_count (HA.out.below (by repeat (first | (with_reducible first | exact HL.out | apply below_alloc | apply pw_below_drewN | apply below_drew1) | exact HL.out))) (k : Int) (by unfold I64k; omega) 0 (cntK_none HF.out)).mono ?_); rintro e w6 ⟨rfl, hb⟩; have n0_ := Aside0.mk (below_step (by repeat (first | (with_reducible first | exact HB.out | apply below_alloc | apply pw_below_drewN | apply below_drew1) | exact HB.out)) hb); clear HB; have HB := n0_; clear n0_; have hs_ := below_step (by repeat (first | (with_reducible first | exact HL.out | apply below_alloc | apply pw_below_drewN | apply below_drew1) | exact HL.out)) hb; have n_ := Aside0.mk (SY.below HA.out hs_); clear HA; have HA := n_; clear n_; clear HL hs_ hb; have HL := Aside0.mk (Below.refl w6.heap.size w6)))
              all_goals go_roundw
              all_goals (try (case rel => exact ⟨k + 1, by (simp [totK, HSM.out, T1.out]), by (simp [totK, HSM.out, T2.out]), by go_num, by omega, HB, HA⟩))
              all_goals (try (case measure => (simp [intOf] <;> omega)))
          · obtain rfl : k = 8 := by omega
            clear hk hk8
            obtain ⟨s1, s2, s3⟩ := HH.out.sums
            rw [T1.out] at s1
            rw [T2.out] at s2
            have S1 := Aside0.mk s1
            have S2 := Aside0.mk s2
            have S3 := Aside0.mk s3
            clear s1 s2 s3
            go_wp2_with (first | (go_at_call 25; (with_reducible refine (y_charged (HA.out.below (by repeat (first | (with_reducible first | exact HL.out | apply below_alloc | apply pw_below_drewN | apply below_drew1) | exact HL.out))) t1 S1.out).mono ?_); rintro e w5 ⟨rfl, hb⟩; have n0_ := Aside0.mk (below_step (by repeat (first | (with_reducible first | exact HB.out | apply below_alloc | apply pw_below_drewN | apply below_drew1) | exact HB.out)) hb); clear HB; have HB := n0_; clear n0_; have hs_ := below_step (by repeat (first | (with_reducible first | exact HL.out | apply below_alloc | apply pw_below_drewN | apply below_drew1) | exact HL.out)) hb; have n_ := Aside0.mk (SY.below HA.out hs_); clear HA; have HA := n_; clear n_; clear HL hs_ hb; have HL := Aside0.mk (Below.refl w5.heap.size w5)) | (go_at_call 23; (with_reducible refine (y_lenI (HA.out.below (by repeat (first | (with_reducible first | exact HL.out | apply below_alloc | apply pw_below_drewN | apply below_drew1) | exact HL.out))) t2 S2.out).mono ?_); rintro e w6 ⟨rfl, hb⟩; have n0_ := Aside0.mk (below_step (by repeat (first | (with_reducible first | exact HB.out | apply below_alloc | apply pw_below_drewN | apply below_drew1) | exact HB.out)) hb); clear HB; have HB := n0_; clear n0_; have hs_ := below_step (by repeat (first | (with_reducible first | exact HL.out | apply below_alloc | apply pw_below_drewN | apply below_drew1) | exact HL.out)) hb; have n_ := Aside0.mk (SY.below HA.out hs_); clear HA; have HA := n_; clear n_; clear HL hs_ hb; have HL := Aside0.mk (Below.refl w6.heap.size w6)) | (go_at_call 30; (with_reducible refine (y_liveI (HA.out.below (by repeat (first | (with_reducible first | exact HL.out | apply below_alloc | apply pw_below_drewN | apply below_drew1) | exact HL.out))) HH.out.tied.good t2 (by rw [S3.out]; exact S2.out)).mono ?_); rintro e w7 ⟨rfl, hb⟩; have n0_ := Aside0.mk (below_step (by repeat (first | (with_reducible first | exact HB.out | apply below_alloc | apply pw_below_drewN | apply below_drew1) | exact HB.out)) hb); clear HB; have HB := n0_; clear n0_; have hs_ := below_step (by repeat (first | (with_reducible first | exact HL.out | apply below_alloc | apply pw_below_drewN | apply below_drew1) | exact HL.out)) hb; have n_ := Aside0.mk (SY.below HA.out hs_); clear HA; have HA := n_; clear n_; clear HL hs_ hb; have HL := Aside0.mk (Below.refl w7.heap.size w7)))
            all_goals go_roundw
            all_goals (try (case rel => exact ⟨i + 1, N', l', bs', by go_num, by omega, hN', by rw [show (((i + 1 : Nat) : Int)) = (i : Int) + 1 by omega]; exact HH, HB, HA⟩))
            all_goals (try (case measure => (simp [intOf] <;> omega)))
    · rcases Nat.lt_or_ge i y.length with h2 | h2
      · have h3 : 60 ≤ i := by omega
        clear hc
        go_wp2
        all_goals go_ret
        all_goals exact ⟨rfl, (by repeat (first | (with_reducible first | exact HB.out | apply below_alloc | apply pw_below_drewN | apply below_drew1) | exact HB.out))⟩
      · clear hc
        go_wp2
        all_goals go_ret
        all_goals exact ⟨rfl, (by repeat (first | (with_reducible first | exact HB.out | apply below_alloc | apply pw_below_drewN | apply below_drew1) | exact HB.out))⟩
set_option maxHeartbeats 1000000 in
set_option maxRecDepth 100000 in
theorem charges0 (c : Nat) (w : World) : Calls Try.prog 5 #[.slice none 0 c] w fun e w' => e = .returned (.bool true) ∧ Below w.heap.size w w' := by
  have HB := Aside0.mk (Below.refl w.heap.size w)
  have HL := Aside0.mk (Below.refl w.heap.size w)
  go_enter Try.func5, Try.ntmps5
  go_wp2_with (first | (go_at_call 7; (with_reducible refine (examples_c _).mono ?_); rintro e w1 ⟨rfl, hb⟩; have n0_ := Aside0.mk (below_step (by repeat (first | (with_reducible first | exact HB.out | apply below_alloc | apply pw_below_drewN | apply below_drew1) | exact HB.out)) hb); clear HB; have HB := n0_; clear n0_; have hs_ := below_step (by repeat (first | (with_reducible first | exact HL.out | apply below_alloc | apply pw_below_drewN | apply below_drew1) | exact HL.out)) hb; have hg := below_size HB.out; clear HL hs_ hb; have HL := Aside0.mk (Below.refl w1.heap.size w1)) | (go_at_call 8; (with_reducible refine (x_new 300 _ (by decide) (by decide)).mono ?_); rintro e w2 ⟨rfl, hA, hb⟩; have HA := Aside0.mk hA; clear hA; have n0_ := Aside0.mk (below_step (by repeat (first | (with_reducible first | exact HB.out | apply below_alloc | apply pw_below_drewN | apply below_drew1) | exact HB.out)) hb); clear HB; have HB := n0_; clear n0_; have hs_ := below_step (by repeat (first | (with_reducible first | exact HL.out | apply below_alloc | apply pw_below_drewN | apply below_drew1) | exact HL.out)) hb; clear HL hs_ hb; have HL := Aside0.mk (Below.refl w2.heap.size w2)) | (go_at_call 10; (with_reducible refine (y_new (HA.out.below (by repeat (first | (with_reducible first | exact HL.out | apply below_alloc | apply pw_below_drewN | apply below_drew1) | exact HL.out)))).mono ?_); rintro e w3 ⟨gs, mb, rfl, hA, hb⟩; clear HA; have HA := Aside0.mk hA; clear hA; have n0_ := Aside0.mk (below_step (by repeat (first | (with_reducible first | exact HB.out | apply below_alloc | apply pw_below_drewN | apply below_drew1) | exact HB.out)) hb); clear HB; have HB := n0_; clear n0_; have hs_ := below_step (by repeat (first | (with_reducible first | exact HL.out | apply below_alloc | apply pw_below_drewN | apply below_drew1) | exact HL.out)) hb; clear HL hs_ hb; have HL := Aside0.mk (Below.refl w3.heap.size w3)))
  go_loopw [6] (fun v6 wr => v6 = .int .i64 0 ∧ Aside0 (Below w.heap.size w wr)) (fun _ _ => 0)
  case atStart => exact ⟨rfl, ⟨(by repeat (first | (with_reducible first | exact HB.out | apply below_alloc | apply pw_below_drewN | apply below_drew1) | exact HB.out))⟩⟩
  case round =>
    clear HB HA HL
    obtain ⟨rfl, HB⟩ := hrel
    go_wp2
    all_goals go_ret
    all_goals exact ⟨rfl, (by repeat (first | (with_reducible first | exact HB.out | apply below_alloc | apply pw_below_drewN | apply below_drew1) | exact HB.out))⟩
end Go.Proofs.Ytibcbeibehaeeaa.Hand
