/- CodecSets: the walks, a half of them. -/
import Derived.Test.YtdihnjcplhlhkaaC9
import Derived.OpenShut
set_option linter.unusedVariables false
namespace Go.Proofs.Ytdihnjcplhlhkaa.Hand
open Go.RowKit Go.Proofs.Ytdihnjcplhlhkaa.PCodecTells Go.Proofs.YtdihnjcplhlhkaaW.PrintWords Go.Proofs.YtdihnjcplhlhkaaW.PrintLast Go.Proofs.YtdihnjcplhlhkaaW.PrintMore
set_option maxHeartbeats 1000000 in
set_option maxRecDepth 100000 in
theorem sets_1_no (s : ByteArray) (a width n y : Int) (i : Nat) (w : World) (hs : s.size ≤ 140737488351232) (n0 : 0 ≤ n) (n1 : n ≤ 18446744073709551615) (a0 : 0 ≤ a) (d0 : 0 ≤ width) (e1 : width % 8 = 0) (e2 : a % 30 = (i : Int)) (hi : i < 30) (e3 : n % 256 = y) (y0 : 0 ≤ y) (y1 : y < 256) (hz : s.size < i + 1) :
    Calls Try.prog 5 #[.string s, .int .u8 a, .int .u8 width, .int .u64 n] w fun e w' => e = .returned (.bool true) ∧ Below w.heap.size w w' := by
  have HB := Aside0.mk (Below.refl w.heap.size w)
  have p8 : (256 : Int) ^ 1 = 256 := by decide
  have fy : y / 256 ^ 1 = 0 := by rw [p8]; omega
  have py : putV 1 y = (strOfNums (dg 1 y), true) := putV_yes 1 y (by omega) (by omega) fy
  have g : getV s (i : Int) 1 = (0, false) := getV_no s _ _ (.inr (.inr (.inr (by omega))))
  have st : setV s (i : Int) 1 y = (⟨#[]⟩, false) := by unfold setV; rw [g]; simp
  have ST := Aside0.mk st; have HS : Aside0 (s.size ≤ 1000000000000000) := ⟨by omega⟩; have Y0 := Aside0.mk y0; have Y1 : Aside0 (y ≤ 18446744073709551615) := ⟨by omega⟩
  clear st g py fy p8
  go_enter Try.func5, Try.ntmps5
  go_wp2_with (first | (go_at_call 8; (with_reducible refine (examples_c _).mono ?_); rintro e w1 ⟨rfl, hb⟩; have n0_ := Aside0.mk (below_step (by repeat (first | (with_reducible first | exact HB.out | apply below_alloc | apply pw_below_drewN | apply below_drew1) | exact HB.out)) hb); clear HB; have HB := n0_; clear n0_) | (go_at_call 13; (with_reducible refine (set_at _ _ _ _ _ _ _ ST.out HS.out Y0.out Y1.out).mono ?_); rintro e w1 ⟨rfl, hb⟩; have n0_ := Aside0.mk (below_step (by repeat (first | (with_reducible first | exact HB.out | apply below_alloc | apply pw_below_drewN | apply below_drew1) | exact HB.out)) hb); clear HB; have HB := n0_; clear n0_))
  go_ret
  exact ⟨rfl, (by repeat (first | (with_reducible first | exact HB.out | apply below_alloc | apply pw_below_drewN | apply below_drew1) | exact HB.out))⟩
set_option maxHeartbeats 1000000 in
set_option maxRecDepth 100000 in
theorem sets_1_yes (s : ByteArray) (a width n y : Int) (i : Nat) (w : World) (hs : s.size ≤ 140737488351232) (n0 : 0 ≤ n) (n1 : n ≤ 18446744073709551615) (a0 : 0 ≤ a) (d0 : 0 ≤ width) (e1 : width % 8 = 0) (e2 : a % 30 = (i : Int)) (hi : i < 30) (e3 : n % 256 = y) (y0 : 0 ≤ y) (y1 : y < 256) (hz : i + 1 ≤ s.size) :
    Calls Try.prog 5 #[.string s, .int .u8 a, .int .u8 width, .int .u64 n] w fun e w' => e = .returned (.bool true) ∧ Below w.heap.size w w' := by
  have HB := Aside0.mk (Below.refl w.heap.size w)
  have p8 : (256 : Int) ^ 1 = 256 := by decide
  have fy : y / 256 ^ 1 = 0 := by rw [p8]; omega
  have py : putV 1 y = (strOfNums (dg 1 y), true) := putV_yes 1 y (by omega) (by omega) fy
  obtain ⟨S, hS⟩ : ∃ S, strOfNums (dg 1 y) = S := ⟨_, rfl⟩
  have wy := beI_whole y y0 1 fy
  have sS : S.size = 1 := by rw [← hS, str_size, dg_len]
  rw [hS] at wy py
  obtain ⟨A, hA⟩ : ∃ A, s.extract 0 i = A := ⟨_, rfl⟩
  obtain ⟨Q, hQ⟩ : ∃ Q, s.extract (i + 1) s.size = Q := ⟨_, rfl⟩
  have sA : A.size = i := by rw [← hA, ByteArray.size_extract]; omega
  have sQ : Q.size = s.size - (i + 1) := by rw [← hQ, ByteArray.size_extract]; omega
  obtain ⟨X, hX⟩ : ∃ X, A ++ S ++ Q = X := ⟨_, rfl⟩
  have g : (getV s (i : Int) 1).2 = true := by
    have e := getV_yes s i 1 (by omega) (by omega) (by omega)
    exact congrArg Prod.snd e
  have st : setV s (i : Int) 1 y = (X, true) := by
    unfold setV
    rw [g, py, if_pos ⟨rfl, rfl⟩, Int.toNat_natCast, show ((i : Int) + 1).toNat = i + 1 from by omega, hA, hQ, hX]
  have zX : X.size = s.size := by rw [← hX, ByteArray.size_append, ByteArray.size_append, sA, sS, sQ]; omega
  have gx : getV X (i : Int) 1 = (y, true) := by
    have e := getV_yes X i 1 (by omega) (by omega) (by omega)
    have b := beI_mid A S Q 0 1 (by omega)
    rw [hX, wy, sA, Nat.add_zero] at b
    rw [b] at e
    exact e
  have x1 : X.extract 0 i = A := by rw [← hX, ByteArray.append_assoc, ByteArray.extract_append_eq_left sA.symm]
  have x2 : X.extract (i + 1) X.size = Q := by
    have : (A ++ S).size = i + 1 := by rw [ByteArray.size_append, sA, sS]
    rw [← hX, ByteArray.extract_append_eq_right this.symm (by rw [ByteArray.size_append])]
  have hs1 : ∀ W : World, (Instr.slice 9 (.string s) none (some (.int .i64 (i : Int))) none).run Try.prog W = .ok (.string A) W := fun W => by rw [piece_to s i (by omega) W, hA]
  have hs2 : ∀ W : World, (Instr.slice 9 (.string X) none (some (.int .i64 (i : Int))) none).run Try.prog W = .ok (.string A) W := fun W => by rw [piece_to X i (by omega) W, x1]
  have hs3 : ∀ W : World, (Instr.slice 9 (.string s) (some (.int .i64 ((i : Int) + 1))) none none).run Try.prog W = .ok (.string Q) W := fun W => by rw [piece_from s _ (i + 1) (by omega) (by omega) W, hQ]
  have hs4 : ∀ W : World, (Instr.slice 9 (.string X) (some (.int .i64 ((i : Int) + 1))) none none).run Try.prog W = .ok (.string Q) W := fun W => by rw [piece_from X _ (i + 1) (by omega) (by omega) W, x2]
  have ST := Aside0.mk st; have HS : Aside0 (s.size ≤ 1000000000000000) := ⟨by omega⟩; have Y0 := Aside0.mk y0; have Y1 : Aside0 (y ≤ 18446744073709551615) := ⟨by omega⟩; have GX := Aside0.mk gx; have HX : Aside0 (X.size ≤ 1000000000000000) := ⟨by omega⟩
  have t1 : (i : Int) + 1 ≤ (s.size : Int) := by omega
  have t2 : (0 : Int) ≤ (i : Int) := by omega
  clear st g gx py fy p8 x1 x2 hX hA hQ hS wy sS sA sQ
  go_enter Try.func5, Try.ntmps5
  go_wp2_with (first | (go_at_call 8; (with_reducible refine (examples_c _).mono ?_); rintro e w1 ⟨rfl, hb⟩; have n0_ := Aside0.mk (below_step (by repeat (first | (with_reducible first | exact HB.out | apply below_alloc | apply pw_below_drewN | apply below_drew1) | exact HB.out)) hb); clear HB; have HB := n0_; clear n0_) | (go_at_call 13; (with_reducible refine (set_at _ _ _ _ _ _ _ ST.out HS.out Y0.out Y1.out).mono ?_); rintro e w1 ⟨rfl, hb⟩; have n0_ := Aside0.mk (below_step (by repeat (first | (with_reducible first | exact HB.out | apply below_alloc | apply pw_below_drewN | apply below_drew1) | exact HB.out)) hb); clear HB; have HB := n0_; clear n0_) | (go_at_call 11; (with_reducible refine (get_at _ _ _ _ _ _ GX.out HX.out).mono ?_); rintro e w1 ⟨rfl, hb⟩; have n0_ := Aside0.mk (below_step (by repeat (first | (with_reducible first | exact HB.out | apply below_alloc | apply pw_below_drewN | apply below_drew1) | exact HB.out)) hb); clear HB; have HB := n0_; clear n0_))
  go_quiet (fail)
  go_wp2
  go_ret
  exact ⟨rfl, (by repeat (first | (with_reducible first | exact HB.out | apply below_alloc | apply pw_below_drewN | apply below_drew1) | exact HB.out))⟩
set_option maxHeartbeats 1000000 in
set_option maxRecDepth 100000 in
theorem sets_2_no (s : ByteArray) (a width n y : Int) (i : Nat) (w : World) (hs : s.size ≤ 140737488351232) (n0 : 0 ≤ n) (n1 : n ≤ 18446744073709551615) (a0 : 0 ≤ a) (d0 : 0 ≤ width) (e1 : width % 8 = 1) (e2 : a % 30 = (i : Int)) (hi : i < 30) (e3 : n % 65536 = y) (y0 : 0 ≤ y) (y1 : y < 65536) (hz : s.size < i + 2) :
    Calls Try.prog 5 #[.string s, .int .u8 a, .int .u8 width, .int .u64 n] w fun e w' => e = .returned (.bool true) ∧ Below w.heap.size w w' := by
  have HB := Aside0.mk (Below.refl w.heap.size w)
  have p8 : (256 : Int) ^ 2 = 65536 := by decide
  have fy : y / 256 ^ 2 = 0 := by rw [p8]; omega
  have py : putV 2 y = (strOfNums (dg 2 y), true) := putV_yes 2 y (by omega) (by omega) fy
  have g : getV s (i : Int) 2 = (0, false) := getV_no s _ _ (.inr (.inr (.inr (by omega))))
  have st : setV s (i : Int) 2 y = (⟨#[]⟩, false) := by unfold setV; rw [g]; simp
  have ST := Aside0.mk st; have HS : Aside0 (s.size ≤ 1000000000000000) := ⟨by omega⟩; have Y0 := Aside0.mk y0; have Y1 : Aside0 (y ≤ 18446744073709551615) := ⟨by omega⟩
  clear st g py fy p8
  go_enter Try.func5, Try.ntmps5
  go_wp2_with (first | (go_at_call 8; (with_reducible refine (examples_c _).mono ?_); rintro e w1 ⟨rfl, hb⟩; have n0_ := Aside0.mk (below_step (by repeat (first | (with_reducible first | exact HB.out | apply below_alloc | apply pw_below_drewN | apply below_drew1) | exact HB.out)) hb); clear HB; have HB := n0_; clear n0_) | (go_at_call 13; (with_reducible refine (set_at _ _ _ _ _ _ _ ST.out HS.out Y0.out Y1.out).mono ?_); rintro e w1 ⟨rfl, hb⟩; have n0_ := Aside0.mk (below_step (by repeat (first | (with_reducible first | exact HB.out | apply below_alloc | apply pw_below_drewN | apply below_drew1) | exact HB.out)) hb); clear HB; have HB := n0_; clear n0_))
  go_ret
  exact ⟨rfl, (by repeat (first | (with_reducible first | exact HB.out | apply below_alloc | apply pw_below_drewN | apply below_drew1) | exact HB.out))⟩
set_option maxHeartbeats 1000000 in
set_option maxRecDepth 100000 in
theorem sets_2_yes (s : ByteArray) (a width n y : Int) (i : Nat) (w : World) (hs : s.size ≤ 140737488351232) (n0 : 0 ≤ n) (n1 : n ≤ 18446744073709551615) (a0 : 0 ≤ a) (d0 : 0 ≤ width) (e1 : width % 8 = 1) (e2 : a % 30 = (i : Int)) (hi : i < 30) (e3 : n % 65536 = y) (y0 : 0 ≤ y) (y1 : y < 65536) (hz : i + 2 ≤ s.size) :
    Calls Try.prog 5 #[.string s, .int .u8 a, .int .u8 width, .int .u64 n] w fun e w' => e = .returned (.bool true) ∧ Below w.heap.size w w' := by
  have HB := Aside0.mk (Below.refl w.heap.size w)
  have p8 : (256 : Int) ^ 2 = 65536 := by decide
  have fy : y / 256 ^ 2 = 0 := by rw [p8]; omega
  have py : putV 2 y = (strOfNums (dg 2 y), true) := putV_yes 2 y (by omega) (by omega) fy
  obtain ⟨S, hS⟩ : ∃ S, strOfNums (dg 2 y) = S := ⟨_, rfl⟩
  have wy := beI_whole y y0 2 fy
  have sS : S.size = 2 := by rw [← hS, str_size, dg_len]
  rw [hS] at wy py
  obtain ⟨A, hA⟩ : ∃ A, s.extract 0 i = A := ⟨_, rfl⟩
  obtain ⟨Q, hQ⟩ : ∃ Q, s.extract (i + 2) s.size = Q := ⟨_, rfl⟩
  have sA : A.size = i := by rw [← hA, ByteArray.size_extract]; omega
  have sQ : Q.size = s.size - (i + 2) := by rw [← hQ, ByteArray.size_extract]; omega
  obtain ⟨X, hX⟩ : ∃ X, A ++ S ++ Q = X := ⟨_, rfl⟩
  have g : (getV s (i : Int) 2).2 = true := by
    have e := getV_yes s i 2 (by omega) (by omega) (by omega)
    exact congrArg Prod.snd e
  have st : setV s (i : Int) 2 y = (X, true) := by
    unfold setV
    rw [g, py, if_pos ⟨rfl, rfl⟩, Int.toNat_natCast, show ((i : Int) + 2).toNat = i + 2 from by omega, hA, hQ, hX]
  have zX : X.size = s.size := by rw [← hX, ByteArray.size_append, ByteArray.size_append, sA, sS, sQ]; omega
  have gx : getV X (i : Int) 2 = (y, true) := by
    have e := getV_yes X i 2 (by omega) (by omega) (by omega)
    have b := beI_mid A S Q 0 2 (by omega)
    rw [hX, wy, sA, Nat.add_zero] at b
    rw [b] at e
    exact e
  have x1 : X.extract 0 i = A := by rw [← hX, ByteArray.append_assoc, ByteArray.extract_append_eq_left sA.symm]
  have x2 : X.extract (i + 2) X.size = Q := by
    have : (A ++ S).size = i + 2 := by rw [ByteArray.size_append, sA, sS]
    rw [← hX, ByteArray.extract_append_eq_right this.symm (by rw [ByteArray.size_append])]
  have hs1 : ∀ W : World, (Instr.slice 9 (.string s) none (some (.int .i64 (i : Int))) none).run Try.prog W = .ok (.string A) W := fun W => by rw [piece_to s i (by omega) W, hA]
  have hs2 : ∀ W : World, (Instr.slice 9 (.string X) none (some (.int .i64 (i : Int))) none).run Try.prog W = .ok (.string A) W := fun W => by rw [piece_to X i (by omega) W, x1]
  have hs3 : ∀ W : World, (Instr.slice 9 (.string s) (some (.int .i64 ((i : Int) + 2))) none none).run Try.prog W = .ok (.string Q) W := fun W => by rw [piece_from s _ (i + 2) (by omega) (by omega) W, hQ]
  have hs4 : ∀ W : World, (Instr.slice 9 (.string X) (some (.int .i64 ((i : Int) + 2))) none none).run Try.prog W = .ok (.string Q) W := fun W => by rw [piece_from X _ (i + 2) (by omega) (by omega) W, x2]
  have ST := Aside0.mk st; have HS : Aside0 (s.size ≤ 1000000000000000) := ⟨by omega⟩; have Y0 := Aside0.mk y0; have Y1 : Aside0 (y ≤ 18446744073709551615) := ⟨by omega⟩; have GX := Aside0.mk gx; have HX : Aside0 (X.size ≤ 1000000000000000) := ⟨by omega⟩
  have t1 : (i : Int) + 2 ≤ (s.size : Int) := by omega
  have t2 : (0 : Int) ≤ (i : Int) := by omega
  clear st g gx py fy p8 x1 x2 hX hA hQ hS wy sS sA sQ
  go_enter Try.func5, Try.ntmps5
  go_wp2_with (first | (go_at_call 8; (with_reducible refine (examples_c _).mono ?_); rintro e w1 ⟨rfl, hb⟩; have n0_ := Aside0.mk (below_step (by repeat (first | (with_reducible first | exact HB.out | apply below_alloc | apply pw_below_drewN | apply below_drew1) | exact HB.out)) hb); clear HB; have HB := n0_; clear n0_) | (go_at_call 13; (with_reducible refine (set_at _ _ _ _ _ _ _ ST.out HS.out Y0.out Y1.out).mono ?_); rintro e w1 ⟨rfl, hb⟩; have n0_ := Aside0.mk (below_step (by repeat (first | (with_reducible first | exact HB.out | apply below_alloc | apply pw_below_drewN | apply below_drew1) | exact HB.out)) hb); clear HB; have HB := n0_; clear n0_) | (go_at_call 11; (with_reducible refine (get_at _ _ _ _ _ _ GX.out HX.out).mono ?_); rintro e w1 ⟨rfl, hb⟩; have n0_ := Aside0.mk (below_step (by repeat (first | (with_reducible first | exact HB.out | apply below_alloc | apply pw_below_drewN | apply below_drew1) | exact HB.out)) hb); clear HB; have HB := n0_; clear n0_))
  go_quiet (fail)
  go_wp2
  go_ret
  exact ⟨rfl, (by repeat (first | (with_reducible first | exact HB.out | apply below_alloc | apply pw_below_drewN | apply below_drew1) | exact HB.out))⟩
set_option maxHeartbeats 1000000 in
set_option maxRecDepth 100000 in
theorem sets_3_no (s : ByteArray) (a width n y : Int) (i : Nat) (w : World) (hs : s.size ≤ 140737488351232) (n0 : 0 ≤ n) (n1 : n ≤ 18446744073709551615) (a0 : 0 ≤ a) (d0 : 0 ≤ width) (e1 : width % 8 = 2) (e2 : a % 30 = (i : Int)) (hi : i < 30) (e3 : n % 16777216 = y) (y0 : 0 ≤ y) (y1 : y < 16777216) (hz : s.size < i + 3) :
    Calls Try.prog 5 #[.string s, .int .u8 a, .int .u8 width, .int .u64 n] w fun e w' => e = .returned (.bool true) ∧ Below w.heap.size w w' := by
  have HB := Aside0.mk (Below.refl w.heap.size w)
  have p8 : (256 : Int) ^ 3 = 16777216 := by decide
  have fy : y / 256 ^ 3 = 0 := by rw [p8]; omega
  have py : putV 3 y = (strOfNums (dg 3 y), true) := putV_yes 3 y (by omega) (by omega) fy
  have g : getV s (i : Int) 3 = (0, false) := getV_no s _ _ (.inr (.inr (.inr (by omega))))
  have st : setV s (i : Int) 3 y = (⟨#[]⟩, false) := by unfold setV; rw [g]; simp
  have ST := Aside0.mk st; have HS : Aside0 (s.size ≤ 1000000000000000) := ⟨by omega⟩; have Y0 := Aside0.mk y0; have Y1 : Aside0 (y ≤ 18446744073709551615) := ⟨by omega⟩
  clear st g py fy p8
  go_enter Try.func5, Try.ntmps5
  go_wp2_with (first | (go_at_call 8; (with_reducible refine (examples_c _).mono ?_); rintro e w1 ⟨rfl, hb⟩; have n0_ := Aside0.mk (below_step (by repeat (first | (with_reducible first | exact HB.out | apply below_alloc | apply pw_below_drewN | apply below_drew1) | exact HB.out)) hb); clear HB; have HB := n0_; clear n0_) | (go_at_call 13; (with_reducible refine (set_at _ _ _ _ _ _ _ ST.out HS.out Y0.out Y1.out).mono ?_); rintro e w1 ⟨rfl, hb⟩; have n0_ := Aside0.mk (below_step (by repeat (first | (with_reducible first | exact HB.out | apply below_alloc | apply pw_below_drewN | apply below_drew1) | exact HB.out)) hb); clear HB; have HB := n0_; clear n0_))
  go_ret
  exact ⟨rfl, (by repeat (first | (with_reducible first | exact HB.out | apply below_alloc | apply pw_below_drewN | apply below_drew1) | exact HB.out))⟩
set_option maxHeartbeats 1000000 in
set_option maxRecDepth 100000 in
theorem sets_3_yes (s : ByteArray) (a width n y : Int) (i : Nat) (w : World) (hs : s.size ≤ 140737488351232) (n0 : 0 ≤ n) (n1 : n ≤ 18446744073709551615) (a0 : 0 ≤ a) (d0 : 0 ≤ width) (e1 : width % 8 = 2) (e2 : a % 30 = (i : Int)) (hi : i < 30) (e3 : n % 16777216 = y) (y0 : 0 ≤ y) (y1 : y < 16777216) (hz : i + 3 ≤ s.size) :
    Calls Try.prog 5 #[.string s, .int .u8 a, .int .u8 width, .int .u64 n] w fun e w' => e = .returned (.bool true) ∧ Below w.heap.size w w' := by
  have HB := Aside0.mk (Below.refl w.heap.size w)
  have p8 : (256 : Int) ^ 3 = 16777216 := by decide
  have fy : y / 256 ^ 3 = 0 := by rw [p8]; omega
  have py : putV 3 y = (strOfNums (dg 3 y), true) := putV_yes 3 y (by omega) (by omega) fy
  obtain ⟨S, hS⟩ : ∃ S, strOfNums (dg 3 y) = S := ⟨_, rfl⟩
  have wy := beI_whole y y0 3 fy
  have sS : S.size = 3 := by rw [← hS, str_size, dg_len]
  rw [hS] at wy py
  obtain ⟨A, hA⟩ : ∃ A, s.extract 0 i = A := ⟨_, rfl⟩
  obtain ⟨Q, hQ⟩ : ∃ Q, s.extract (i + 3) s.size = Q := ⟨_, rfl⟩
  have sA : A.size = i := by rw [← hA, ByteArray.size_extract]; omega
  have sQ : Q.size = s.size - (i + 3) := by rw [← hQ, ByteArray.size_extract]; omega
  obtain ⟨X, hX⟩ : ∃ X, A ++ S ++ Q = X := ⟨_, rfl⟩
  have g : (getV s (i : Int) 3).2 = true := by
    have e := getV_yes s i 3 (by omega) (by omega) (by omega)
    exact congrArg Prod.snd e
  have st : setV s (i : Int) 3 y = (X, true) := by
    unfold setV
    rw [g, py, if_pos ⟨rfl, rfl⟩, Int.toNat_natCast, show ((i : Int) + 3).toNat = i + 3 from by omega, hA, hQ, hX]
  have zX : X.size = s.size := by rw [← hX, ByteArray.size_append, ByteArray.size_append, sA, sS, sQ]; omega
  have gx : getV X (i : Int) 3 = (y, true) := by
    have e := getV_yes X i 3 (by omega) (by omega) (by omega)
    have b := beI_mid A S Q 0 3 (by omega)
    rw [hX, wy, sA, Nat.add_zero] at b
    rw [b] at e
    exact e
  have x1 : X.extract 0 i = A := by rw [← hX, ByteArray.append_assoc, ByteArray.extract_append_eq_left sA.symm]
  have x2 : X.extract (i + 3) X.size = Q := by
    have : (A ++ S).size = i + 3 := by rw [ByteArray.size_append, sA, sS]
    rw [← hX, ByteArray.extract_append_eq_right this.symm (by rw [ByteArray.size_append])]
  have hs1 : ∀ W : World, (Instr.slice 9 (.string s) none (some (.int .i64 (i : Int))) none).run Try.prog W = .ok (.string A) W := fun W => by rw [piece_to s i (by omega) W, hA]
  have hs2 : ∀ W : World, (Instr.slice 9 (.string X) none (some (.int .i64 (i : Int))) none).run Try.prog W = .ok (.string A) W := fun W => by rw [piece_to X i (by omega) W, x1]
  have hs3 : ∀ W : World, (Instr.slice 9 (.string s) (some (.int .i64 ((i : Int) + 3))) none none).run Try.prog W = .ok (.string Q) W := fun W => by rw [piece_from s _ (i + 3) (by omega) (by omega) W, hQ]
  have hs4 : ∀ W : World, (Instr.slice 9 (.string X) (some (.int .i64 ((i : Int) + 3))) none none).run Try.prog W = .ok (.string Q) W := fun W => by rw [piece_from X _ (i + 3) (by omega) (by omega) W, x2]
  have ST := Aside0.mk st; have HS : Aside0 (s.size ≤ 1000000000000000) := ⟨by omega⟩; have Y0 := Aside0.mk y0; have Y1 : Aside0 (y ≤ 18446744073709551615) := ⟨by omega⟩; have GX := Aside0.mk gx; have HX : Aside0 (X.size ≤ 1000000000000000) := ⟨by omega⟩
  have t1 : (i : Int) + 3 ≤ (s.size : Int) := by omega
  have t2 : (0 : Int) ≤ (i : Int) := by omega
  clear st g gx py fy p8 x1 x2 hX hA hQ hS wy sS sA sQ
  go_enter Try.func5, Try.ntmps5
  go_wp2_with (first | (go_at_call 8; (with_reducible refine (examples_c _).mono ?_); rintro e w1 ⟨rfl, hb⟩; have n0_ := Aside0.mk (below_step (by repeat (first | (with_reducible first | exact HB.out | apply below_alloc | apply pw_below_drewN | apply below_drew1) | exact HB.out)) hb); clear HB; have HB := n0_; clear n0_) | (go_at_call 13; (with_reducible refine (set_at _ _ _ _ _ _ _ ST.out HS.out Y0.out Y1.out).mono ?_); rintro e w1 ⟨rfl, hb⟩; have n0_ := Aside0.mk (below_step (by repeat (first | (with_reducible first | exact HB.out | apply below_alloc | apply pw_below_drewN | apply below_drew1) | exact HB.out)) hb); clear HB; have HB := n0_; clear n0_) | (go_at_call 11; (with_reducible refine (get_at _ _ _ _ _ _ GX.out HX.out).mono ?_); rintro e w1 ⟨rfl, hb⟩; have n0_ := Aside0.mk (below_step (by repeat (first | (with_reducible first | exact HB.out | apply below_alloc | apply pw_below_drewN | apply below_drew1) | exact HB.out)) hb); clear HB; have HB := n0_; clear n0_))
  go_quiet (fail)
  go_wp2
  go_ret
  exact ⟨rfl, (by repeat (first | (with_reducible first | exact HB.out | apply below_alloc | apply pw_below_drewN | apply below_drew1) | exact HB.out))⟩
set_option maxHeartbeats 1000000 in
set_option maxRecDepth 100000 in
theorem sets_4_no (s : ByteArray) (a width n y : Int) (i : Nat) (w : World) (hs : s.size ≤ 140737488351232) (n0 : 0 ≤ n) (n1 : n ≤ 18446744073709551615) (a0 : 0 ≤ a) (d0 : 0 ≤ width) (e1 : width % 8 = 3) (e2 : a % 30 = (i : Int)) (hi : i < 30) (e3 : n % 4294967296 = y) (y0 : 0 ≤ y) (y1 : y < 4294967296) (hz : s.size < i + 4) :
    Calls Try.prog 5 #[.string s, .int .u8 a, .int .u8 width, .int .u64 n] w fun e w' => e = .returned (.bool true) ∧ Below w.heap.size w w' := by
  have HB := Aside0.mk (Below.refl w.heap.size w)
  have p8 : (256 : Int) ^ 4 = 4294967296 := by decide
  have fy : y / 256 ^ 4 = 0 := by rw [p8]; omega
  have py : putV 4 y = (strOfNums (dg 4 y), true) := putV_yes 4 y (by omega) (by omega) fy
  have g : getV s (i : Int) 4 = (0, false) := getV_no s _ _ (.inr (.inr (.inr (by omega))))
  have st : setV s (i : Int) 4 y = (⟨#[]⟩, false) := by unfold setV; rw [g]; simp
  have ST := Aside0.mk st; have HS : Aside0 (s.size ≤ 1000000000000000) := ⟨by omega⟩; have Y0 := Aside0.mk y0; have Y1 : Aside0 (y ≤ 18446744073709551615) := ⟨by omega⟩
  clear st g py fy p8
  go_enter Try.func5, Try.ntmps5
  go_wp2_with (first | (go_at_call 8; (with_reducible refine (examples_c _).mono ?_); rintro e w1 ⟨rfl, hb⟩; have n0_ := Aside0.mk (below_step (by repeat (first | (with_reducible first | exact HB.out | apply below_alloc | apply pw_below_drewN | apply below_drew1) | exact HB.out)) hb); clear HB; have HB := n0_; clear n0_) | (go_at_call 13; (with_reducible refine (set_at _ _ _ _ _ _ _ ST.out HS.out Y0.out Y1.out).mono ?_); rintro e w1 ⟨rfl, hb⟩; have n0_ := Aside0.mk (below_step (by repeat (first | (with_reducible first | exact HB.out | apply below_alloc | apply pw_below_drewN | apply below_drew1) | exact HB.out)) hb); clear HB; have HB := n0_; clear n0_))
  go_ret
  exact ⟨rfl, (by repeat (first | (with_reducible first | exact HB.out | apply below_alloc | apply pw_below_drewN | apply below_drew1) | exact HB.out))⟩
set_option maxHeartbeats 1000000 in
set_option maxRecDepth 100000 in
theorem sets_4_yes (s : ByteArray) (a width n y : Int) (i : Nat) (w : World) (hs : s.size ≤ 140737488351232) (n0 : 0 ≤ n) (n1 : n ≤ 18446744073709551615) (a0 : 0 ≤ a) (d0 : 0 ≤ width) (e1 : width % 8 = 3) (e2 : a % 30 = (i : Int)) (hi : i < 30) (e3 : n % 4294967296 = y) (y0 : 0 ≤ y) (y1 : y < 4294967296) (hz : i + 4 ≤ s.size) :
    Calls Try.prog 5 #[.string s, .int .u8 a, .int .u8 width, .int .u64 n] w fun e w' => e = .returned (.bool true) ∧ Below w.heap.size w w' := by
  have HB := Aside0.mk (Below.refl w.heap.size w)
  have p8 : (256 : Int) ^ 4 = 4294967296 := by decide
  have fy : y / 256 ^ 4 = 0 := by rw [p8]; omega
  have py : putV 4 y = (strOfNums (dg 4 y), true) := putV_yes 4 y (by omega) (by omega) fy
  obtain ⟨S, hS⟩ : ∃ S, strOfNums (dg 4 y) = S := ⟨_, rfl⟩
  have wy := beI_whole y y0 4 fy
  have sS : S.size = 4 := by rw [← hS, str_size, dg_len]
  rw [hS] at wy py
  obtain ⟨A, hA⟩ : ∃ A, s.extract 0 i = A := ⟨_, rfl⟩
  obtain ⟨Q, hQ⟩ : ∃ Q, s.extract (i + 4) s.size = Q := ⟨_, rfl⟩
  have sA : A.size = i := by rw [← hA, ByteArray.size_extract]; omega
  have sQ : Q.size = s.size - (i + 4) := by rw [← hQ, ByteArray.size_extract]; omega
  obtain ⟨X, hX⟩ : ∃ X, A ++ S ++ Q = X := ⟨_, rfl⟩
  have g : (getV s (i : Int) 4).2 = true := by
    have e := getV_yes s i 4 (by omega) (by omega) (by omega)
    exact congrArg Prod.snd e
  have st : setV s (i : Int) 4 y = (X, true) := by
    unfold setV
    rw [g, py, if_pos ⟨rfl, rfl⟩, Int.toNat_natCast, show ((i : Int) + 4).toNat = i + 4 from by omega, hA, hQ, hX]
  have zX : X.size = s.size := by rw [← hX, ByteArray.size_append, ByteArray.size_append, sA, sS, sQ]; omega
  have gx : getV X (i : Int) 4 = (y, true) := by
    have e := getV_yes X i 4 (by omega) (by omega) (by omega)
    have b := beI_mid A S Q 0 4 (by omega)
    rw [hX, wy, sA, Nat.add_zero] at b
    rw [b] at e
    exact e
  have x1 : X.extract 0 i = A := by rw [← hX, ByteArray.append_assoc, ByteArray.extract_append_eq_left sA.symm]
  have x2 : X.extract (i + 4) X.size = Q := by
    have : (A ++ S).size = i + 4 := by rw [ByteArray.size_append, sA, sS]
    rw [← hX, ByteArray.extract_append_eq_right this.symm (by rw [ByteArray.size_append])]
  have hs1 : ∀ W : World, (Instr.slice 9 (.string s) none (some (.int .i64 (i : Int))) none).run Try.prog W = .ok (.string A) W := fun W => by rw [piece_to s i (by omega) W, hA]
  have hs2 : ∀ W : World, (Instr.slice 9 (.string X) none (some (.int .i64 (i : Int))) none).run Try.prog W = .ok (.string A) W := fun W => by rw [piece_to X i (by omega) W, x1]
  have hs3 : ∀ W : World, (Instr.slice 9 (.string s) (some (.int .i64 ((i : Int) + 4))) none none).run Try.prog W = .ok (.string Q) W := fun W => by rw [piece_from s _ (i + 4) (by omega) (by omega) W, hQ]
  have hs4 : ∀ W : World, (Instr.slice 9 (.string X) (some (.int .i64 ((i : Int) + 4))) none none).run Try.prog W = .ok (.string Q) W := fun W => by rw [piece_from X _ (i + 4) (by omega) (by omega) W, x2]
  have ST := Aside0.mk st; have HS : Aside0 (s.size ≤ 1000000000000000) := ⟨by omega⟩; have Y0 := Aside0.mk y0; have Y1 : Aside0 (y ≤ 18446744073709551615) := ⟨by omega⟩; have GX := Aside0.mk gx; have HX : Aside0 (X.size ≤ 1000000000000000) := ⟨by omega⟩
  have t1 : (i : Int) + 4 ≤ (s.size : Int) := by omega
  have t2 : (0 : Int) ≤ (i : Int) := by omega
  clear st g gx py fy p8 x1 x2 hX hA hQ hS wy sS sA sQ
  go_enter Try.func5, Try.ntmps5
  go_wp2_with (first | (go_at_call 8; (with_reducible refine (examples_c _).mono ?_); rintro e w1 ⟨rfl, hb⟩; have n0_ := Aside0.mk (below_step (by repeat (first | (with_reducible first | exact HB.out | apply below_alloc | apply pw_below_drewN | apply below_drew1) | exact HB.out)) hb); clear HB; have HB := n0_; clear n0_) | (go_at_call 13; (with_reducible refine (set_at _ _ _ _ _ _ _ ST.out HS.out Y0.out Y1.out).mono ?_); rintro e w1 ⟨rfl, hb⟩; have n0_ := Aside0.mk (below_step (by repeat (first | (with_reducible first | exact HB.out | apply below_alloc | apply pw_below_drewN | apply below_drew1) | exact HB.out)) hb); clear HB; have HB := n0_; clear n0_) | (go_at_call 11; (with_reducible refine (get_at _ _ _ _ _ _ GX.out HX.out).mono ?_); rintro e w1 ⟨rfl, hb⟩; have n0_ := Aside0.mk (below_step (by repeat (first | (with_reducible first | exact HB.out | apply below_alloc | apply pw_below_drewN | apply below_drew1) | exact HB.out)) hb); clear HB; have HB := n0_; clear n0_))
  go_quiet (fail)
  go_wp2
  go_ret
  exact ⟨rfl, (by repeat (first | (with_reducible first | exact HB.out | apply below_alloc | apply pw_below_drewN | apply below_drew1) | exact HB.out))⟩
end Go.Proofs.Ytdihnjcplhlhkaa.Hand
