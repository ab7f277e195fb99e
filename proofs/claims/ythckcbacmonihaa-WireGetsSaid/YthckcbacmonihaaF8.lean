/- Chapter 5: WireGets. -/
import Derived.Test.YthckcbacmonihaaF4
import Derived.Test.YthckcbacmonihaaO0
import Derived.OpenShut
set_option linter.unusedVariables false
set_option linter.unusedSimpArgs false
namespace Go.Proofs.Ythckcbacmonihaa.Hand
open Go.RowKit Go.Proofs.Ythckcbacmonihaa.PWireTells Go.Proofs.YthckcbacmonihaaW.PrintWords Go.Proofs.YthckcbacmonihaaW.PrintLast Go.Proofs.YthckcbacmonihaaW.PrintMore
theorem piece_to (s : ByteArray) (a : Nat) (h : a ≤ s.size) (W : World) : (Instr.slice 9 (.string s) none (some (.int .i64 (a : Int))) none).run Try.prog W = .ok (.string (s.extract 0 a)) W := by
  rw [run_slice_string_h (P := Try.prog) W 9 s Try.underlying9 .i64 _ (by omega) (by omega), Int.toNat_natCast]
theorem conv_one (x : Int) (W : World) : (convert 34 9 (.slice (some ⟨W.heap.size, 0, none⟩) 1 1)).run Try.prog (W.alloc (.cells #[.int .u8 x] 5)) = .ok (.string (strOfNums [x])) (W.alloc (.cells #[.int .u8 x] 5)) :=
  own_string (P := Try.prog) Try.underlying34 Try.underlying5 Try.underlying9 (own_lit W 0 5 .u8 [x] (Nat.zero_le _) (by simp))
theorem str_bt (l : List Int) (j : Nat) (h : j < l.length) (h0 : 0 ≤ l[j]) (h1 : l[j] ≤ 255) : bt (strOfNums l) (j : Int) = l[j] := by
  rw [bt_nat (strOfNums l) j (by rw [str_size]; exact h)]
  have e : (strOfNums l)[j]'(by rw [str_size]; exact h) = UInt8.ofNat (l[j]).toNat := by
    show ((l.map fun x => UInt8.ofNat x.toNat).toArray)[j]'(by simpa using h) = _
    simp
  rw [e]
  exact byte_of _ h0 (by omega)
theorem gets_facts (s : ByteArray) (more : Int) (ho : okE s) : ∃ (k t : Int) (l : List Int) (u : ByteArray), Aside0 (getE s = (k, t, l, 0)) ∧ Aside0 (putE k t l = (s, true)) ∧ Aside0 (getE (s ++ strOfNums [more]) = (0, 0, [], 7)) ∧ Aside0 (getE u = (0, 0, [], 7)) ∧ s.extract 0 (s.size - 1) = u ∧ u.size ≤ 1000 ∧ l.length ≤ 8 ∧ 10 ≤ s.size ∧ s.size ≤ 74 := by
  obtain ⟨k, t, l, x, hg⟩ : ∃ k t l x, getE s = (k, t, l, x) := ⟨_, _, _, _, rfl⟩
  have hx : x = 0 := by
    rw [getE_yes ho] at hg
    injection hg with _ hg; injection hg with _ hg; injection hg with _ hg
    exact hg.symm
  subst hx
  obtain ⟨hs1, hs2⟩ : 10 ≤ s.size ∧ s.size ≤ 74 := by unfold okE at ho; omega
  have hb := getE_i64 s k t 0 l hg
  have hz : s.size = 10 + 8 * l.length := by
    have := put_get s k t l hg
    rw [← this, evI_size k t l l.length (Nat.le_refl _)]
  have no1 : ∀ r : ByteArray, r.size % 8 ≠ 2 → getE r = (0, 0, [], 7) := fun r hr => getE_no (fun h => by unfold okE at h; omega)
  exact ⟨k, t, l, _, ⟨hg⟩, ⟨by rw [putE_yes hb.2.2.1 hb.2.2.2.1 hb.2.2.2.2, put_get s k t l hg]⟩, ⟨no1 _ (by rw [ByteArray.size_append, str_size]; simp; omega)⟩, ⟨no1 _ (by rw [ByteArray.size_extract]; omega)⟩, rfl, by rw [ByteArray.size_extract]; omega, hb.2.2.2.2, hs1, hs2⟩
set_option maxHeartbeats 1000000 in
set_option maxRecDepth 100000 in
theorem gets_no (s : ByteArray) (more : Int) (A : Option Addr) (c : Nat) (w : World) (hs : s.size ≤ 140737488351232) (m0 : 0 ≤ more) (m1 : more ≤ 255) (ho : ¬ okE s) :
    Calls Try.prog 5 #[.string s, .slice A 0 c, .int .u8 more] w fun e w' => e = .returned (.bool true) ∧ Below w.heap.size w w' := by
  have HB := Aside0.mk (Below.refl w.heap.size w)
  have HL := Aside0.mk (Below.refl w.heap.size w)
  have HG := Aside0.mk (getE_no ho)
  clear ho
  go_enter Try.func5, Try.ntmps5
  go_wp2_with (first | (go_at_call 8; (with_reducible refine (examples_c _).mono ?_); rintro e w1 ⟨rfl, hb⟩; have n0_ := Aside0.mk (below_step (by repeat (first | (with_reducible first | exact HB.out | apply below_alloc | apply pw_below_drewN | apply below_drew1) | exact HB.out)) hb); clear HB; have HB := n0_; clear n0_; have hs_ := below_step (by repeat (first | (with_reducible first | exact HL.out | apply below_alloc | apply pw_below_drewN | apply below_drew1) | exact HL.out)) hb; clear HL hs_ hb; have HL := Aside0.mk (Below.refl w1.heap.size w1)) | (go_at_call 12; (with_reducible refine (wget_c s _ (by omega) 0 0 7 [] HG.out).mono ?_); rintro e w2 ⟨v2, rfl, hR2, hb⟩; have n0_ := Aside0.mk (below_step (by repeat (first | (with_reducible first | exact HB.out | apply below_alloc | apply pw_below_drewN | apply below_drew1) | exact HB.out)) hb); clear HB; have HB := n0_; clear n0_; have hs_ := below_step (by repeat (first | (with_reducible first | exact HL.out | apply below_alloc | apply pw_below_drewN | apply below_drew1) | exact HL.out)) hb; have R2 := Aside0.mk (hR2); clear hR2; obtain ⟨A2, k2, e2⟩ := Kd.R_slice R2.out; subst e2; clear HL hs_ hb; have HL := Aside0.mk (Below.refl w2.heap.size w2)))
  go_ret
  exact ⟨rfl, (by repeat (first | (with_reducible first | exact HB.out | apply below_alloc | apply pw_below_drewN | apply below_drew1) | exact HB.out))⟩
set_option maxHeartbeats 1000000 in
set_option maxRecDepth 100000 in
theorem gets_yes (s : ByteArray) (more : Int) (A : Option Addr) (c : Nat) (k t : Int) (l : List Int) (w : World) (hs : s.size ≤ 140737488351232) (m0 : 0 ≤ more) (m1 : more ≤ 255) (ho : okE s) (hg : getE s = (k, t, l, 0)) :
    Calls Try.prog 5 #[.string s, .slice A 0 c, .int .u8 more] w fun e w' => e = .returned (.bool true) ∧ Below w.heap.size w w' := by
  have HB := Aside0.mk (Below.refl w.heap.size w)
  have HL := Aside0.mk (Below.refl w.heap.size w)
  obtain ⟨hs1, hs2⟩ : 10 ≤ s.size ∧ s.size ≤ 74 := by unfold okE at ho; omega
  have hb := getE_i64 s k t 0 l hg
  have HP : Aside0 (putE k t l = (s, true)) := ⟨by rw [putE_yes hb.2.2.1 hb.2.2.2.1 hb.2.2.2.2, put_get s k t l hg]⟩
  have hz : s.size = 10 + 8 * l.length := by
    have := put_get s k t l hg
    rw [← this, evI_size k t l l.length (Nat.le_refl _)]
  have hl8 := hb.2.2.2.2
  obtain ⟨u, hu⟩ : ∃ u, s.extract 0 (s.size - 1) = u := ⟨_, rfl⟩
  have hcut := piece_to s (s.size - 1) (by omega)
  rw [hu] at hcut
  have hsub : ((s.size : Int) - 1) = ((s.size - 1 : Nat) : Int) := by omega
  have no1 : ∀ r : ByteArray, r.size % 8 ≠ 2 → getE r = (0, 0, [], 7) := fun r hr => getE_no (fun h => by unfold okE at h; omega)
  have HN1 : Aside0 (getE (s ++ strOfNums [more]) = (0, 0, [], 7)) := ⟨no1 _ (by rw [ByteArray.size_append, str_size]; simp; omega)⟩
  have HN2 : Aside0 (getE u = (0, 0, [], 7)) := ⟨no1 _ (by rw [← hu, ByteArray.size_extract]; omega)⟩
  have hu9 : u.size ≤ 1000 := by rw [← hu, ByteArray.size_extract]; omega
  have HG := Aside0.mk hg
  have hcv := conv_one more
  have hsum : s.size + (strOfNums [more]).size ≤ 9223372036854775807 := by rw [str_size]; simp; omega
  have hne : s.size ≠ 0 := by omega
  clear hb hg ho hu no1 hz
  go_enter Try.func5, Try.ntmps5
  go_wp2_with (first | (go_at_call 8; (with_reducible refine (examples_c _).mono ?_); rintro e w1 ⟨rfl, hb⟩; have n0_ := Aside0.mk (below_step (by repeat (first | (with_reducible first | exact HB.out | apply below_alloc | apply pw_below_drewN | apply below_drew1) | exact HB.out)) hb); clear HB; have HB := n0_; clear n0_; have hs_ := below_step (by repeat (first | (with_reducible first | exact HL.out | apply below_alloc | apply pw_below_drewN | apply below_drew1) | exact HL.out)) hb; clear HL hs_ hb; have HL := Aside0.mk (Below.refl w1.heap.size w1)) | (go_at_call 12; (with_reducible refine (wget_c s _ (by omega) k t 0 l HG.out).mono ?_); rintro e w2 ⟨v2, rfl, hR2, hb⟩; have n0_ := Aside0.mk (below_step (by repeat (first | (with_reducible first | exact HB.out | apply below_alloc | apply pw_below_drewN | apply below_drew1) | exact HB.out)) hb); clear HB; have HB := n0_; clear n0_; have hs_ := below_step (by repeat (first | (with_reducible first | exact HL.out | apply below_alloc | apply pw_below_drewN | apply below_drew1) | exact HL.out)) hb; have R2 := Aside0.mk (hR2); clear hR2; obtain ⟨A2, k2, e2⟩ := Kd.R_slice R2.out; subst e2; clear HL hs_ hb; have HL := Aside0.mk (Below.refl w2.heap.size w2)) | (go_at_call 9; (with_reducible refine (wput_n k t l l.length A2 k2 s true _ (Kd.C_below (Kd.R_reads' R2.out).2.2 (by repeat (first | (with_reducible first | exact HL.out | apply below_alloc | apply pw_below_drewN | apply below_drew1) | exact HL.out))) HP.out).mono ?_); rintro e w3 ⟨rfl, hb⟩; have n0_ := Aside0.mk (below_step (by repeat (first | (with_reducible first | exact HB.out | apply below_alloc | apply pw_below_drewN | apply below_drew1) | exact HB.out)) hb); clear HB; have HB := n0_; clear n0_; have hs_ := below_step (by repeat (first | (with_reducible first | exact HL.out | apply below_alloc | apply pw_below_drewN | apply below_drew1) | exact HL.out)) hb; have n_ := Aside0.mk (Kd.R_below R2.out hs_); clear R2; have R2 := n_; clear n_; clear HL hs_ hb; have HL := Aside0.mk (Below.refl w3.heap.size w3)) | (go_at_call 12; (with_reducible refine (wget_c (s ++ strOfNums [more]) _ (by rw [ByteArray.size_append, str_size]; simp; omega) 0 0 7 [] HN1.out).mono ?_); rintro e w4 ⟨v4, rfl, hR4, hb⟩; have n0_ := Aside0.mk (below_step (by repeat (first | (with_reducible first | exact HB.out | apply below_alloc | apply pw_below_drewN | apply below_drew1) | exact HB.out)) hb); clear HB; have HB := n0_; clear n0_; have hs_ := below_step (by repeat (first | (with_reducible first | exact HL.out | apply below_alloc | apply pw_below_drewN | apply below_drew1) | exact HL.out)) hb; have n_ := Aside0.mk (Kd.R_below R2.out hs_); clear R2; have R2 := n_; clear n_; obtain ⟨A4, k4, e4⟩ := Kd.R_slice hR4; subst e4; clear hR4; clear HL hs_ hb; have HL := Aside0.mk (Below.refl w4.heap.size w4)) | (go_at_call 12; (with_reducible refine (wget_c u _ (by omega) 0 0 7 [] HN2.out).mono ?_); rintro e w5 ⟨v5, rfl, hR5, hb⟩; have n0_ := Aside0.mk (below_step (by repeat (first | (with_reducible first | exact HB.out | apply below_alloc | apply pw_below_drewN | apply below_drew1) | exact HB.out)) hb); clear HB; have HB := n0_; clear n0_; have hs_ := below_step (by repeat (first | (with_reducible first | exact HL.out | apply below_alloc | apply pw_below_drewN | apply below_drew1) | exact HL.out)) hb; have n_ := Aside0.mk (Kd.R_below R2.out hs_); clear R2; have R2 := n_; clear n_; obtain ⟨A5, k5, e5⟩ := Kd.R_slice hR5; subst e5; clear hR5; clear HL hs_ hb; have HL := Aside0.mk (Below.refl w5.heap.size w5)))
  go_ret
  exact ⟨rfl, (by repeat (first | (with_reducible first | exact HB.out | apply below_alloc | apply pw_below_drewN | apply below_drew1) | exact HB.out))⟩
set_option maxHeartbeats 1000000 in
set_option maxRecDepth 100000 in
theorem gets_l (s : ByteArray) (more : Int) (b0 : Int) (n : Nat) (l : List Int) (A : Addr) (c : Nat) (w : World) (hs : s.size ≤ 140737488351232) (m0 : 0 ≤ more) (m1 : more ≤ 255) (hl0 : 0 < l.length) (hlm : l.length ≤ 140737488351232) (hk : ∀ W', Has w W' → ∀ i : Nat, i < l.length → ∃ x, 0 ≤ x ∧ x ≤ 255 ∧ W'.cell? (A.add i) = some (.int .u8 x))
    (h0 : ∀ W', Has w W' → W'.cell? A = some (.int .u8 b0)) (hb0 : 0 ≤ b0) (hb1 : b0 ≤ 255) (hn : b0 % 9 = (n : Int)) :
    Calls Try.prog 5 #[.string s, .slice (some A) l.length c, .int .u8 more] w fun e w' => e = .returned (.bool true) ∧ Below w.heap.size w w' := by
  have HB := Aside0.mk (Below.refl w.heap.size w)
  have HL := Aside0.mk (Below.refl w.heap.size w)
  have HK := Aside0.mk hk
  have H0 := Aside0.mk h0
  have n8 : n ≤ 8 := by omega
  have n8i : (n : Int) ≤ 8 := by omega
  clear hk h0
  obtain ⟨m, hm⟩ : ∃ m : Nat, 10 + 8 * n = m := ⟨_, rfl⟩
  have hmi : 10 + 8 * (n : Int) = (m : Int) := by omega
  have hm1 : 10 ≤ m := by omega
  have hm2 : m ≤ 74 := by omega
  have hmk := print_make (P := Try.prog) 34 5 .u8 1 Try.underlying34 info5 (by decide) m (by omega)
  go_enter Try.func5, Try.ntmps5
  go_wp2_with (first | (go_at_call 8; (with_reducible refine (examples_c _).mono ?_); rintro e w1 ⟨rfl, hb⟩; have n0_ := Aside0.mk (below_step (by repeat (first | (with_reducible first | exact HB.out | apply below_alloc | apply pw_below_drewN | apply below_drew1) | exact HB.out)) hb); clear HB; have HB := n0_; clear n0_; have c0 := H0.out w1 (Has.of_below HB.out); clear HL; have HL := Aside0.mk (Below.refl w1.heap.size w1)))
  go_loopw [10] (fun v10 wr => ∃ (i : Nat) (xs : List Int), v10 = .int .i64 i ∧ i ≤ m ∧ xs.length = m ∧ Aside0 (wr.ownsRow w1.heap.size 5 1 (.slice (some ⟨w1.heap.size, 0, none⟩) m m) m (nums .u8 xs)) ∧ Aside0 (Below w1.heap.size w1 wr)) (fun v _ => m - (intOf v).toNat)
  case atStart => exact ⟨0, List.replicate m 0, rfl, by omega, by simp, ⟨own_made w1 w1.heap.size 5 .u8 m (Nat.le_refl _) (by omega)⟩, ⟨below_alloc (Below.refl _ _) _⟩⟩
  case round =>
    obtain ⟨i, xs, rfl, him, hxl, HO, HW⟩ := hrel
    have HBr := Aside0.mk (below_then HB.out (below_size HB.out) HW.out)
    have HB1 := HB
    clear HB HL
    by_cases h1 : i < m
    · by_cases h2 : i < l.length
      · obtain ⟨x, x0, x1, hcx⟩ := HK.out wr (Has.of_below HBr.out) i h2
        obtain ⟨q, qf⟩ := own_at HO.out (i : Int) (by omega) (by omega)
        have HS := own_store HO.out (i : Int) x
        rw [Int.toNat_natCast] at q qf HS
        have HS1 := Aside0.mk HS.1
        have HS2 := Aside0.mk (below_set (j := i) (v := .int .u8 x) HW.out (Nat.le_refl w1.heap.size))
        clear HS c0
        go_wp2
        go_roundw
        case rel => exact ⟨i + 1, xs.set i x, by go_num, by omega, by simp [hxl], HS1, HS2⟩
        case measure => simp [intOf]; omega
      · skip
        obtain ⟨p, pf⟩ := own_at HO.out 1 (by omega) (by omega)
        have HS := own_store HO.out 1 (n : Int)
        rw [show (1 : Int).toNat = 1 from rfl] at p pf HS
        have hcvS := own_string (P := Try.prog) Try.underlying34 Try.underlying5 Try.underlying9 HS.1
        obtain ⟨S, hS⟩ : ∃ S, strOfNums (xs.set 1 (n : Int)) = S := ⟨_, rfl⟩
        have hxs : (xs.set 1 (n : Int)).length = m := by rw [List.length_set]; exact hxl
        have hSz : S.size = m := by rw [← hS, str_size, hxs]
        have hSb : bt S 1 = (n : Int) := by
          have := str_bt (xs.set 1 (n : Int)) 1 (by omega) (by simp) (by simp; omega)
          rw [hS] at this
          exact this.trans (by simp)
        obtain ⟨k, t, l', u, HG, HP, HN1, HN2, hu, hu9, hl8, hs1, hs2⟩ := gets_facts S more ⟨by omega, by omega, by omega⟩
        have hcut := piece_to S (S.size - 1) (by omega)
        rw [hu] at hcut
        rw [hS] at hcvS
        have hsub : ((S.size : Int) - 1) = ((S.size - 1 : Nat) : Int) := by omega
        have hcv := conv_one more
        have hsum : S.size + (strOfNums [more]).size ≤ 9223372036854775807 := by rw [str_size]; simp; omega
        have hne : S.size ≠ 0 := by omega
        have HB := Aside0.mk (below_set (j := 1) (v := .int .u8 (n : Int)) HBr.out (below_size HB1.out))
        have HL := Aside0.mk (Below.refl (wr.setCell ⟨w1.heap.size, 1, none⟩ (.int .u8 (n : Int))).heap.size (wr.setCell ⟨w1.heap.size, 1, none⟩ (.int .u8 (n : Int))))
        clear HS hu hS hSb hxs HBr HO HW c0 hSz
        go_wp2_with (first | (go_at_call 12; (with_reducible refine (wget_c S _ (by omega) k t 0 l' HG.out).mono ?_); rintro e w2 ⟨v2, rfl, hR2, hb⟩; have n0_ := Aside0.mk (below_step (by repeat (first | (with_reducible first | exact HB.out | apply below_alloc | apply pw_below_drewN | apply below_drew1) | exact HB.out)) hb); clear HB; have HB := n0_; clear n0_; have hs_ := below_step (by repeat (first | (with_reducible first | exact HL.out | apply below_alloc | apply pw_below_drewN | apply below_drew1) | exact HL.out)) hb; have R2 := Aside0.mk (hR2); clear hR2; obtain ⟨A2, k2, e2⟩ := Kd.R_slice R2.out; subst e2; clear HL hs_ hb; have HL := Aside0.mk (Below.refl w2.heap.size w2)) | (go_at_call 9; (with_reducible refine (wput_n k t l' l'.length A2 k2 S true _ (Kd.C_below (Kd.R_reads' R2.out).2.2 (by repeat (first | (with_reducible first | exact HL.out | apply below_alloc | apply pw_below_drewN | apply below_drew1) | exact HL.out))) HP.out).mono ?_); rintro e w3 ⟨rfl, hb⟩; have n0_ := Aside0.mk (below_step (by repeat (first | (with_reducible first | exact HB.out | apply below_alloc | apply pw_below_drewN | apply below_drew1) | exact HB.out)) hb); clear HB; have HB := n0_; clear n0_; have hs_ := below_step (by repeat (first | (with_reducible first | exact HL.out | apply below_alloc | apply pw_below_drewN | apply below_drew1) | exact HL.out)) hb; have n_ := Aside0.mk (Kd.R_below R2.out hs_); clear R2; have R2 := n_; clear n_; clear HL hs_ hb; have HL := Aside0.mk (Below.refl w3.heap.size w3)) | (go_at_call 12; (with_reducible refine (wget_c (S ++ strOfNums [more]) _ (by rw [ByteArray.size_append, str_size]; simp; omega) 0 0 7 [] HN1.out).mono ?_); rintro e w4 ⟨v4, rfl, hR4, hb⟩; have n0_ := Aside0.mk (below_step (by repeat (first | (with_reducible first | exact HB.out | apply below_alloc | apply pw_below_drewN | apply below_drew1) | exact HB.out)) hb); clear HB; have HB := n0_; clear n0_; have hs_ := below_step (by repeat (first | (with_reducible first | exact HL.out | apply below_alloc | apply pw_below_drewN | apply below_drew1) | exact HL.out)) hb; have n_ := Aside0.mk (Kd.R_below R2.out hs_); clear R2; have R2 := n_; clear n_; obtain ⟨A4, k4, e4⟩ := Kd.R_slice hR4; subst e4; clear hR4; clear HL hs_ hb; have HL := Aside0.mk (Below.refl w4.heap.size w4)) | (go_at_call 12; (with_reducible refine (wget_c u _ (by omega) 0 0 7 [] HN2.out).mono ?_); rintro e w5 ⟨v5, rfl, hR5, hb⟩; have n0_ := Aside0.mk (below_step (by repeat (first | (with_reducible first | exact HB.out | apply below_alloc | apply pw_below_drewN | apply below_drew1) | exact HB.out)) hb); clear HB; have HB := n0_; clear n0_; have hs_ := below_step (by repeat (first | (with_reducible first | exact HL.out | apply below_alloc | apply pw_below_drewN | apply below_drew1) | exact HL.out)) hb; have n_ := Aside0.mk (Kd.R_below R2.out hs_); clear R2; have R2 := n_; clear n_; obtain ⟨A5, k5, e5⟩ := Kd.R_slice hR5; subst e5; clear hR5; clear HL hs_ hb; have HL := Aside0.mk (Below.refl w5.heap.size w5)))
        go_ret
        exact ⟨rfl, (by repeat (first | (with_reducible first | exact HB.out | apply below_alloc | apply pw_below_drewN | apply below_drew1) | exact HB.out))⟩
    · obtain rfl : m = i := by omega
      obtain ⟨p, pf⟩ := own_at HO.out 1 (by omega) (by omega)
      have HS := own_store HO.out 1 (n : Int)
      rw [show (1 : Int).toNat = 1 from rfl] at p pf HS
      have hcvS := own_string (P := Try.prog) Try.underlying34 Try.underlying5 Try.underlying9 HS.1
      obtain ⟨S, hS⟩ : ∃ S, strOfNums (xs.set 1 (n : Int)) = S := ⟨_, rfl⟩
      have hxs : (xs.set 1 (n : Int)).length = m := by rw [List.length_set]; exact hxl
      have hSz : S.size = m := by rw [← hS, str_size, hxs]
      have hSb : bt S 1 = (n : Int) := by
        have := str_bt (xs.set 1 (n : Int)) 1 (by omega) (by simp) (by simp; omega)
        rw [hS] at this
        exact this.trans (by simp)
      obtain ⟨k, t, l', u, HG, HP, HN1, HN2, hu, hu9, hl8, hs1, hs2⟩ := gets_facts S more ⟨by omega, by omega, by omega⟩
      have hcut := piece_to S (S.size - 1) (by omega)
      rw [hu] at hcut
      rw [hS] at hcvS
      have hsub : ((S.size : Int) - 1) = ((S.size - 1 : Nat) : Int) := by omega
      have hcv := conv_one more
      have hsum : S.size + (strOfNums [more]).size ≤ 9223372036854775807 := by rw [str_size]; simp; omega
      have hne : S.size ≠ 0 := by omega
      have HB := Aside0.mk (below_set (j := 1) (v := .int .u8 (n : Int)) HBr.out (below_size HB1.out))
      have HL := Aside0.mk (Below.refl (wr.setCell ⟨w1.heap.size, 1, none⟩ (.int .u8 (n : Int))).heap.size (wr.setCell ⟨w1.heap.size, 1, none⟩ (.int .u8 (n : Int))))
      clear HS hu hS hSb hxs HBr HO HW c0 hSz
      go_wp2_with (first | (go_at_call 12; (with_reducible refine (wget_c S _ (by omega) k t 0 l' HG.out).mono ?_); rintro e w2 ⟨v2, rfl, hR2, hb⟩; have n0_ := Aside0.mk (below_step (by repeat (first | (with_reducible first | exact HB.out | apply below_alloc | apply pw_below_drewN | apply below_drew1) | exact HB.out)) hb); clear HB; have HB := n0_; clear n0_; have hs_ := below_step (by repeat (first | (with_reducible first | exact HL.out | apply below_alloc | apply pw_below_drewN | apply below_drew1) | exact HL.out)) hb; have R2 := Aside0.mk (hR2); clear hR2; obtain ⟨A2, k2, e2⟩ := Kd.R_slice R2.out; subst e2; clear HL hs_ hb; have HL := Aside0.mk (Below.refl w2.heap.size w2)) | (go_at_call 9; (with_reducible refine (wput_n k t l' l'.length A2 k2 S true _ (Kd.C_below (Kd.R_reads' R2.out).2.2 (by repeat (first | (with_reducible first | exact HL.out | apply below_alloc | apply pw_below_drewN | apply below_drew1) | exact HL.out))) HP.out).mono ?_); rintro e w3 ⟨rfl, hb⟩; have n0_ := Aside0.mk (below_step (by repeat (first | (with_reducible first | exact HB.out | apply below_alloc | apply pw_below_drewN | apply below_drew1) | exact HB.out)) hb); clear HB; have HB := n0_; clear n0_; have hs_ := below_step (by repeat (first | (with_reducible first | exact HL.out | apply below_alloc | apply pw_below_drewN | apply below_drew1) | exact HL.out)) hb; have n_ := Aside0.mk (Kd.R_below R2.out hs_); clear R2; have R2 := n_; clear n_; clear HL hs_ hb; have HL := Aside0.mk (Below.refl w3.heap.size w3)) | (go_at_call 12; (with_reducible refine (wget_c (S ++ strOfNums [more]) _ (by rw [ByteArray.size_append, str_size]; simp; omega) 0 0 7 [] HN1.out).mono ?_); rintro e w4 ⟨v4, rfl, hR4, hb⟩; have n0_ := Aside0.mk (below_step (by repeat (first | (with_reducible first | exact HB.out | apply below_alloc | apply pw_below_drewN | apply below_drew1) | exact HB.out)) hb); clear HB; have HB := n0_; clear n0_; have hs_ := below_step (by repeat (first | (with_reducible first | exact HL.out | apply below_alloc | apply pw_below_drewN | apply below_drew1) | exact HL.out)) hb; have n_ := Aside0.mk (Kd.R_below R2.out hs_); clear R2; have R2 := n_; clear n_; obtain ⟨A4, k4, e4⟩ := Kd.R_slice hR4; subst e4; clear hR4; clear HL hs_ hb; have HL := Aside0.mk (Below.refl w4.heap.size w4)) | (go_at_call 12; (with_reducible refine (wget_c u _ (by omega) 0 0 7 [] HN2.out).mono ?_); rintro e w5 ⟨v5, rfl, hR5, hb⟩; have n0_ := Aside0.mk (below_step (by repeat (first | (with_reducible first | exact HB.out | apply below_alloc | apply pw_below_drewN | apply below_drew1) | exact HB.out)) hb); clear HB; have HB := n0_; clear n0_; have hs_ := below_step (by repeat (first | (with_reducible first | exact HL.out | apply below_alloc | apply pw_below_drewN | apply below_drew1) | exact HL.out)) hb; have n_ := Aside0.mk (Kd.R_below R2.out hs_); clear R2; have R2 := n_; clear n_; obtain ⟨A5, k5, e5⟩ := Kd.R_slice hR5; subst e5; clear hR5; clear HL hs_ hb; have HL := Aside0.mk (Below.refl w5.heap.size w5)))
      go_ret
      exact ⟨rfl, (by repeat (first | (with_reducible first | exact HB.out | apply below_alloc | apply pw_below_drewN | apply below_drew1) | exact HB.out))⟩

theorem WireGets_walk (s : ByteArray) (y : List Int) (A : Option Addr) (c : Nat) (more : Int) (w : World) (w0 : s.size ≤ 140737488351232) (hl : y.length ≤ c) (hk : ∀ W', Has w W' → Kd.C (Kd.int .u8) W' A y.length y) (hg : ShortRow (Try.prog.bytesOf 5) (fun n => (Lit.int .u8 n).wf = true) y) (w2 : (Lit.int .u8 more).wf = true) :
    Calls Try.prog 5 #[.string s, .slice A y.length c, .int .u8 more] w fun e w' => e = .returned (.bool true) ∧ Below w.heap.size w w' := by
  obtain ⟨m0, m1⟩ := Go.bounds_u8 w2
  rcases Nat.eq_zero_or_pos y.length with h0 | h0
  · rw [h0]
    by_cases ho : okE s
    · obtain ⟨k, t, l, x, hg⟩ : ∃ k t l x, getE s = (k, t, l, x) := ⟨_, _, _, _, rfl⟩
      have hx : x = 0 := by
        rw [getE_yes ho] at hg
        injection hg with _ hg; injection hg with _ hg; injection hg with _ hg
        exact hg.symm
      subst hx
      exact gets_yes s more A c k t l w w0 m0 m1 ho hg
    · exact gets_no s more A c w w0 m0 m1 ho
  · obtain ⟨ad, rfl, _⟩ := (hk w (Has.refl w)).2.2 h0
    have hcell : ∀ W', Has w W' → ∀ i : Nat, i < y.length → W'.cell? (ad.add i) = some (.int .u8 (rd y (i : Int))) := by
      intro W' hW i hi
      obtain ⟨ad', e, hc⟩ := Kd.at_int (hk W' hW) (i : Int) (by omega) (by omega)
      injection e with e
      subst e
      rwa [Int.toNat_natCast] at hc
    have hbd : ∀ i : Nat, i < y.length → 0 ≤ rd y (i : Int) ∧ rd y (i : Int) ≤ 255 := by
      intro i hi
      refine Go.bounds_u8 (hg.2 _ ?_)
      unfold rd
      rw [List.getD_eq_getElem?_getD, Int.toNat_natCast, List.getElem?_eq_getElem hi]
      exact List.getElem_mem hi
    have hb0 := hbd 0 h0
    obtain ⟨n, hn⟩ := Int.eq_ofNat_of_zero_le (show 0 ≤ rd y ((0 : Nat) : Int) % 9 by omega)
    have e1 : Try.prog.bytesOf 5 = 1 := by kernel_rfl
    have hlm := hg.1
    rw [e1, Nat.mul_one] at hlm
    exact gets_l s more (rd y ((0 : Nat) : Int)) n y ad c w w0 m0 m1 h0 hlm (fun W' hW i hi => ⟨_, (hbd i hi).1, (hbd i hi).2, hcell W' hW i hi⟩) (fun W' hW => by
      have := hcell W' hW 0 h0
      simpa [Addr.add] using this) hb0.1 hb0.2 hn
end Go.Proofs.Ythckcbacmonihaa.Hand
