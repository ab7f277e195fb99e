/- CodecSets: the walks, the other half. -/
import Derived.Test.YtdihnjcplhlhkaaC9
import Derived.OpenShut
set_option linter.unusedVariables false
namespace Go.Proofs.Ytdihnjcplhlhkaa.Hand
open Go.RowKit Go.Proofs.Ytdihnjcplhlhkaa.PCodecTells Go.Proofs.YtdihnjcplhlhkaaW.PrintWords Go.Proofs.YtdihnjcplhlhkaaW.PrintLast Go.Proofs.YtdihnjcplhlhkaaW.PrintMore
set_option maxHeartbeats 1000000 in
set_option maxRecDepth 100000 in
theorem sets_5_no (s : ByteArray) (a width n y : Int) (i : Nat) (w : World) (hs : s.size ≤ 140737488351232) (n0 : 0 ≤ n) (n1 : n ≤ 18446744073709551615) (a0 : 0 ≤ a) (d0 : 0 ≤ width) (e1 : width % 8 = 4) (e2 : a % 30 = (i : Int)) (hi : i < 30) (e3 : n % 1099511627776 = y) (y0 : 0 ≤ y) (y1 : y < 1099511627776) (hz : s.size < i + 5) :
    Calls Try.prog 5 #[.string s, .int .u8 a, .int .u8 width, .int .u64 n] w fun e w' => e = .returned (.bool true) ∧ Below w.heap.size w w' := by
  have HB := Aside0.mk (Below.refl w.heap.size w)
  have p8 : (256 : Int) ^ 5 = 1099511627776 := by decide
  have fy : y / 256 ^ 5 = 0 := by rw [p8]; omega
  have py : putV 5 y = (strOfNums (dg 5 y), true) := putV_yes 5 y (by omega) (by omega) fy
  have g : getV s (i : Int) 5 = (0, false) := getV_no s _ _ (.inr (.inr (.inr (by omega))))
  have st : setV s (i : Int) 5 y = (⟨#[]⟩, false) := by unfold setV; rw [g]; simp
  have ST := Aside0.mk st; have HS : Aside0 (s.size ≤ 1000000000000000) := ⟨by omega⟩; have Y0 := Aside0.mk y0; have Y1 : Aside0 (y ≤ 18446744073709551615) := ⟨by omega⟩
  clear st g py fy p8
  go_enter Try.func5, Try.ntmps5
  go_wp2_with (first | (go_at_call 8; (with_reducible refine (examples_c _).mono ?_); rintro e w1 ⟨rfl, hb⟩; have n0_ := Aside0.mk (below_step (by repeat (first | (with_reducible first | exact HB.out | apply below_alloc | apply pw_below_drewN | apply below_drew1) | exact HB.out)) hb); clear HB; have HB := n0_; clear n0_) | (go_at_call 13; (with_reducible refine (set_at _ _ _ _ _ _ _ ST.out HS.out Y0.out Y1.out).mono ?_); rintro e w1 ⟨rfl, hb⟩; have n0_ := Aside0.mk (below_step (by repeat (first | (with_reducible first | exact HB.out | apply below_alloc | apply pw_below_drewN | apply below_drew1) | exact HB.out)) hb); clear HB; have HB := n0_; clear n0_))
  go_ret
  exact ⟨rfl, (by repeat (first | (with_reducible first | exact HB.out | apply below_alloc | apply pw_below_drewN | apply below_drew1) | exact HB.out))⟩
set_option maxHeartbeats 1000000 in
set_option maxRecDepth 100000 in
theorem sets_5_yes (s : ByteArray) (a width n y : Int) (i : Nat) (w : World) (hs : s.size ≤ 140737488351232) (n0 : 0 ≤ n) (n1 : n ≤ 18446744073709551615) (a0 : 0 ≤ a) (d0 : 0 ≤ width) (e1 : width % 8 = 4) (e2 : a % 30 = (i : Int)) (hi : i < 30) (e3 : n % 1099511627776 = y) (y0 : 0 ≤ y) (y1 : y < 1099511627776) (hz : i + 5 ≤ s.size) :
    Calls Try.prog 5 #[.string s, .int .u8 a, .int .u8 width, .int .u64 n] w fun e w' => e = .returned (.bool true) ∧ Below w.heap.size w w' := by
  have HB := Aside0.mk (Below.refl w.heap.size w)
  have p8 : (256 : Int) ^ 5 = 1099511627776 := by decide
  have fy : y / 256 ^ 5 = 0 := by rw [p8]; omega
  have py : putV 5 y = (strOfNums (dg 5 y), true) := putV_yes 5 y (by omega) (by omega) fy
  obtain ⟨S, hS⟩ : ∃ S, strOfNums (dg 5 y) = S := ⟨_, rfl⟩
  have wy := beI_whole y y0 5 fy
  have sS : S.size = 5 := by rw [← hS, str_size, dg_len]
  rw [hS] at wy py
  obtain ⟨A, hA⟩ : ∃ A, s.extract 0 i = A := ⟨_, rfl⟩
  obtain ⟨Q, hQ⟩ : ∃ Q, s.extract (i + 5) s.size = Q := ⟨_, rfl⟩
  have sA : A.size = i := by rw [← hA, ByteArray.size_extract]; omega
  have sQ : Q.size = s.size - (i + 5) := by rw [← hQ, ByteArray.size_extract]; omega
  obtain ⟨X, hX⟩ : ∃ X, A ++ S ++ Q = X := ⟨_, rfl⟩
  have g : (getV s (i : Int) 5).2 = true := by
    have e := getV_yes s i 5 (by omega) (by omega) (by omega)
    exact congrArg Prod.snd e
  have st : setV s (i : Int) 5 y = (X, true) := by
    unfold setV
    rw [g, py, if_pos ⟨rfl, rfl⟩, Int.toNat_natCast, show ((i : Int) + 5).toNat = i + 5 from by omega, hA, hQ, hX]
  have zX : X.size = s.size := by rw [← hX, ByteArray.size_append, ByteArray.size_append, sA, sS, sQ]; omega
  have gx : getV X (i : Int) 5 = (y, true) := by
    have e := getV_yes X i 5 (by omega) (by omega) (by omega)
    have b := beI_mid A S Q 0 5 (by omega)
    rw [hX, wy, sA, Nat.add_zero] at b
    rw [b] at e
    exact e
  have x1 : X.extract 0 i = A := by rw [← hX, ByteArray.append_assoc, ByteArray.extract_append_eq_left sA.symm]
  have x2 : X.extract (i + 5) X.size = Q := by
    have : (A ++ S).size = i + 5 := by rw [ByteArray.size_append, sA, sS]
    rw [← hX, ByteArray.extract_append_eq_right this.symm (by rw [ByteArray.size_append])]
  have hs1 : ∀ W : World, (Instr.slice 9 (.string s) none (some (.int .i64 (i : Int))) none).run Try.prog W = .ok (.string A) W := fun W => by rw [piece_to s i (by omega) W, hA]
  have hs2 : ∀ W : World, (Instr.slice 9 (.string X) none (some (.int .i64 (i : Int))) none).run Try.prog W = .ok (.string A) W := fun W => by rw [piece_to X i (by omega) W, x1]
  have hs3 : ∀ W : World, (Instr.slice 9 (.string s) (some (.int .i64 ((i : Int) + 5))) none none).run Try.prog W = .ok (.string Q) W := fun W => by rw [piece_from s _ (i + 5) (by omega) (by omega) W, hQ]
  have hs4 : ∀ W : World, (Instr.slice 9 (.string X) (some (.int .i64 ((i : Int) + 5))) none none).run Try.prog W = .ok (.string Q) W := fun W => by rw [piece_from X _ (i + 5) (by omega) (by omega) W, x2]
  have ST := Aside0.mk st; have HS : Aside0 (s.size ≤ 1000000000000000) := ⟨by omega⟩; have Y0 := Aside0.mk y0; have Y1 : Aside0 (y ≤ 18446744073709551615) := ⟨by omega⟩; have GX := Aside0.mk gx; have HX : Aside0 (X.size ≤ 1000000000000000) := ⟨by omega⟩
  have t1 : (i : Int) + 5 ≤ (s.size : Int) := by omega
  have t2 : (0 : Int) ≤ (i : Int) := by omega
  clear st g gx py fy p8 x1 x2 hX hA hQ hS wy sS sA sQ
  go_enter Try.func5, Try.ntmps5
  go_wp2_with (first | (go_at_call 8; (with_reducible refine (examples_c _).mono ?_); rintro e w1 ⟨rfl, hb⟩; have n0_ := Aside0.mk (below_step (by repeat (first | (with_reducible first | exact HB.out | apply below_alloc | apply pw_below_drewN | apply below_drew1) | exact HB.out)) hb); clear HB; have HB := n0_; clear n0_) | (go_at_call 13; (with_reducible refine (set_at _ _ _ _ _ _ _ ST.out HS.out Y0.out Y1.out).mono ?_); rintro e w1 ⟨rfl, hb⟩; have n0_ := Aside0.mk (below_step (by repeat (first | (with_reducible first | exact HB.out | apply below_alloc | apply pw_below_drewN | apply below_drew1) | exact HB.out)) hb); clear HB; have HB := n0_; clear n0_) | (go_at_call 11; (with_reducible refine (get_at _ _ _ _ _ _ GX.out HX.out).mono ?_); rintro e w1 ⟨rfl, hb⟩; have n0_ := Aside0.mk (below_step (by repeat (first | (with_reducible first | exact HB.out | apply below_alloc | apply pw_below_drewN | apply below_drew1) | exact HB.out)) hb); clear HB; have HB := n0_; clear n0_))
  go_quiet (fail)
  go_wp2
  go_ret
  exact ⟨rfl, (by repeat (first | (with_reducible first | exact HB.out | apply below_alloc | apply pw_below_drewN | apply below_drew1) | exact HB.out))⟩
set_option maxHeartbeats 1000000 in
set_option maxRecDepth 100000 in
theorem sets_6_no (s : ByteArray) (a width n y : Int) (i : Nat) (w : World) (hs : s.size ≤ 140737488351232) (n0 : 0 ≤ n) (n1 : n ≤ 18446744073709551615) (a0 : 0 ≤ a) (d0 : 0 ≤ width) (e1 : width % 8 = 5) (e2 : a % 30 = (i : Int)) (hi : i < 30) (e3 : n % 281474976710656 = y) (y0 : 0 ≤ y) (y1 : y < 281474976710656) (hz : s.size < i + 6) :
    Calls Try.prog 5 #[.string s, .int .u8 a, .int .u8 width, .int .u64 n] w fun e w' => e = .returned (.bool true) ∧ Below w.heap.size w w' := by
  have HB := Aside0.mk (Below.refl w.heap.size w)
  have p8 : (256 : Int) ^ 6 = 281474976710656 := by decide
  have fy : y / 256 ^ 6 = 0 := by rw [p8]; omega
  have py : putV 6 y = (strOfNums (dg 6 y), true) := putV_yes 6 y (by omega) (by omega) fy
  have g : getV s (i : Int) 6 = (0, false) := getV_no s _ _ (.inr (.inr (.inr (by omega))))
  have st : setV s (i : Int) 6 y = (⟨#[]⟩, false) := by unfold setV; rw [g]; simp
  have ST := Aside0.mk st; have HS : Aside0 (s.size ≤ 1000000000000000) := ⟨by omega⟩; have Y0 := Aside0.mk y0; have Y1 : Aside0 (y ≤ 18446744073709551615) := ⟨by omega⟩
  clear st g py fy p8
  go_enter Try.func5, Try.ntmps5
  go_wp2_with (first | (go_at_call 8; (with_reducible refine (examples_c _).mono ?_); rintro e w1 ⟨rfl, hb⟩; have n0_ := Aside0.mk (below_step (by repeat (first | (with_reducible first | exact HB.out | apply below_alloc | apply pw_below_drewN | apply below_drew1) | exact HB.out)) hb); clear HB; have HB := n0_; clear n0_) | (go_at_call 13; (with_reducible refine (set_at _ _ _ _ _ _ _ ST.out HS.out Y0.out Y1.out).mono ?_); rintro e w1 ⟨rfl, hb⟩; have n0_ := Aside0.mk (below_step (by repeat (first | (with_reducible first | exact HB.out | apply below_alloc | apply pw_below_drewN | apply below_drew1) | exact HB.out)) hb); clear HB; have HB := n0_; clear n0_))
  go_ret
  exact ⟨rfl, (by repeat (first | (with_reducible first | exact HB.out | apply below_alloc | apply pw_below_drewN | apply below_drew1) | exact HB.out))⟩
set_option maxHeartbeats 1000000 in
set_option maxRecDepth 100000 in
theorem sets_6_yes (s : ByteArray) (a width n y : Int) (i : Nat) (w : World) (hs : s.size ≤ 140737488351232) (n0 : 0 ≤ n) (n1 : n ≤ 18446744073709551615) (a0 : 0 ≤ a) (d0 : 0 ≤ width) (e1 : width % 8 = 5) (e2 : a % 30 = (i : Int)) (hi : i < 30) (e3 : n % 281474976710656 = y) (y0 : 0 ≤ y) (y1 : y < 281474976710656) (hz : i + 6 ≤ s.size) :
    Calls Try.prog 5 #[.string s, .int .u8 a, .int .u8 width, .int .u64 n] w fun e w' => e = .returned (.bool true) ∧ Below w.heap.size w w' := by
  have HB := Aside0.mk (Below.refl w.heap.size w)
  have p8 : (256 : Int) ^ 6 = 281474976710656 := by decide
  have fy : y / 256 ^ 6 = 0 := by rw [p8]; omega
  have py : putV 6 y = (strOfNums (dg 6 y), true) := putV_yes 6 y (by omega) (by omega) fy
  obtain ⟨S, hS⟩ : ∃ S, strOfNums (dg 6 y) = S := ⟨_, rfl⟩
  have wy := beI_whole y y0 6 fy
  have sS : S.size = 6 := by rw [← hS, str_size, dg_len]
  rw [hS] at wy py
  obtain ⟨A, hA⟩ : ∃ A, s.extract 0 i = A := ⟨_, rfl⟩
  obtain ⟨Q, hQ⟩ : ∃ Q, s.extract (i + 6) s.size = Q := ⟨_, rfl⟩
  have sA : A.size = i := by rw [← hA, ByteArray.size_extract]; omega
  have sQ : Q.size = s.size - (i + 6) := by rw [← hQ, ByteArray.size_extract]; omega
  obtain ⟨X, hX⟩ : ∃ X, A ++ S ++ Q = X := ⟨_, rfl⟩
  have g : (getV s (i : Int) 6).2 = true := by
    have e := getV_yes s i 6 (by omega) (by omega) (by omega)
    exact congrArg Prod.snd e
  have st : setV s (i : Int) 6 y = (X, true) := by
    unfold setV
    rw [g, py, if_pos ⟨rfl, rfl⟩, Int.toNat_natCast, show ((i : Int) + 6).toNat = i + 6 from by omega, hA, hQ, hX]
  have zX : X.size = s.size := by rw [← hX, ByteArray.size_append, ByteArray.size_append, sA, sS, sQ]; omega
  have gx : getV X (i : Int) 6 = (y, true) := by
    have e := getV_yes X i 6 (by omega) (by omega) (by omega)
    have b := beI_mid A S Q 0 6 (by omega)
    rw [hX, wy, sA, Nat.add_zero] at b
    rw [b] at e
    exact e
  have x1 : X.extract 0 i = A := by rw [← hX, ByteArray.append_assoc, ByteArray.extract_append_eq_left sA.symm]
  have x2 : X.extract (i + 6) X.size = Q := by
    have : (A ++ S).size = i + 6 := by rw [ByteArray.size_append, sA, sS]
    rw [← hX, ByteArray.extract_append_eq_right this.symm (by rw [ByteArray.size_append])]
  have hs1 : ∀ W : World, (Instr.slice 9 (.string s) none (some (.int .i64 (i : Int))) none).run Try.prog W = .ok (.string A) W := fun W => by rw [piece_to s i (by omega) W, hA]
  have hs2 : ∀ W : World, (Instr.slice 9 (.string X) none (some (.int .i64 (i : Int))) none).run Try.prog W = .ok (.string A) W := fun W => by rw [piece_to X i (by omega) W, x1]
  have hs3 : ∀ W : World, (Instr.slice 9 (.string s) (some (.int .i64 ((i : Int) + 6))) none none).run Try.prog W = .ok (.string Q) W := fun W => by rw [piece_from s _ (i + 6) (by omega) (by omega) W, hQ]
  have hs4 : ∀ W : World, (Instr.slice 9 (.string X) (some (.int .i64 ((i : Int) + 6))) none none).run Try.prog W = .ok (.string Q) W := fun W => by rw [piece_from X _ (i + 6) (by omega) (by omega) W, x2]
  have ST := Aside0.mk st; have HS : Aside0 (s.size ≤ 1000000000000000) := ⟨by omega⟩; have Y0 := Aside0.mk y0; have Y1 : Aside0 (y ≤ 18446744073709551615) := ⟨by omega⟩; have GX := Aside0.mk gx; have HX : Aside0 (X.size ≤ 1000000000000000) := ⟨by omega⟩
  have t1 : (i : Int) + 6 ≤ (s.size : Int) := by omega
  have t2 : (0 : Int) ≤ (i : Int) := by omega
  clear st g gx py fy p8 x1 x2 hX hA hQ hS wy sS sA sQ
  go_enter Try.func5, Try.ntmps5
  go_wp2_with (first | (go_at_call 8; (with_reducible refine (examples_c _).mono ?_); rintro e w1 ⟨rfl, hb⟩; have n0_ := Aside0.mk (below_step (by repeat (first | (with_reducible first | exact HB.out | apply below_alloc | apply pw_below_drewN | apply below_drew1) | exact HB.out)) hb); clear HB; have HB := n0_; clear n0_) | (go_at_call 13; (with_reducible refine (set_at _ _ _ _ _ _ _ ST.out HS.out Y0.out Y1.out).mono ?_); rintro e w1 ⟨rfl, hb⟩; have n0_ := Aside0.mk (below_step (by repeat (first | (with_reducible first | exact HB.out | apply below_alloc | apply pw_below_drewN | apply below_drew1) | exact HB.out)) hb); clear HB; have HB := n0_; clear n0_) | (go_at_call 11; (with_reducible refine (get_at _ _ _ _ _ _ GX.out HX.out).mono ?_); rintro e w1 ⟨rfl, hb⟩; have n0_ := Aside0.mk (below_step (by repeat (first | (with_reducible first | exact HB.out | apply below_alloc | apply pw_below_drewN | apply below_drew1) | exact HB.out)) hb); clear HB; have HB := n0_; clear n0_))
  go_quiet (fail)
  go_wp2
  go_ret
  exact ⟨rfl, (by repeat (first | (with_reducible first | exact HB.out | apply below_alloc | apply pw_below_drewN | apply below_drew1) | exact HB.out))⟩
set_option maxHeartbeats 1000000 in
set_option maxRecDepth 100000 in
theorem sets_7_no (s : ByteArray) (a width n y : Int) (i : Nat) (w : World) (hs : s.size ≤ 140737488351232) (n0 : 0 ≤ n) (n1 : n ≤ 18446744073709551615) (a0 : 0 ≤ a) (d0 : 0 ≤ width) (e1 : width % 8 = 6) (e2 : a % 30 = (i : Int)) (hi : i < 30) (e3 : n % 72057594037927936 = y) (y0 : 0 ≤ y) (y1 : y < 72057594037927936) (hz : s.size < i + 7) :
    Calls Try.prog 5 #[.string s, .int .u8 a, .int .u8 width, .int .u64 n] w fun e w' => e = .returned (.bool true) ∧ Below w.heap.size w w' := by
  have HB := Aside0.mk (Below.refl w.heap.size w)
  have p8 : (256 : Int) ^ 7 = 72057594037927936 := by decide
  have fy : y / 256 ^ 7 = 0 := by rw [p8]; omega
  have py : putV 7 y = (strOfNums (dg 7 y), true) := putV_yes 7 y (by omega) (by omega) fy
  have g : getV s (i : Int) 7 = (0, false) := getV_no s _ _ (.inr (.inr (.inr (by omega))))
  have st : setV s (i : Int) 7 y = (⟨#[]⟩, false) := by unfold setV; rw [g]; simp
  have ST := Aside0.mk st; have HS : Aside0 (s.size ≤ 1000000000000000) := ⟨by omega⟩; have Y0 := Aside0.mk y0; have Y1 : Aside0 (y ≤ 18446744073709551615) := ⟨by omega⟩
  clear st g py fy p8
  go_enter Try.func5, Try.ntmps5
  go_wp2_with (first | (go_at_call 8; (with_reducible refine (examples_c _).mono ?_); rintro e w1 ⟨rfl, hb⟩; have n0_ := Aside0.mk (below_step (by repeat (first | (with_reducible first | exact HB.out | apply below_alloc | apply pw_below_drewN | apply below_drew1) | exact HB.out)) hb); clear HB; have HB := n0_; clear n0_) | (go_at_call 13; (with_reducible refine (set_at _ _ _ _ _ _ _ ST.out HS.out Y0.out Y1.out).mono ?_); rintro e w1 ⟨rfl, hb⟩; have n0_ := Aside0.mk (below_step (by repeat (first | (with_reducible first | exact HB.out | apply below_alloc | apply pw_below_drewN | apply below_drew1) | exact HB.out)) hb); clear HB; have HB := n0_; clear n0_))
  go_ret
  exact ⟨rfl, (by repeat (first | (with_reducible first | exact HB.out | apply below_alloc | apply pw_below_drewN | apply below_drew1) | exact HB.out))⟩
set_option maxHeartbeats 1000000 in
set_option maxRecDepth 100000 in
theorem sets_7_yes (s : ByteArray) (a width n y : Int) (i : Nat) (w : World) (hs : s.size ≤ 140737488351232) (n0 : 0 ≤ n) (n1 : n ≤ 18446744073709551615) (a0 : 0 ≤ a) (d0 : 0 ≤ width) (e1 : width % 8 = 6) (e2 : a % 30 = (i : Int)) (hi : i < 30) (e3 : n % 72057594037927936 = y) (y0 : 0 ≤ y) (y1 : y < 72057594037927936) (hz : i + 7 ≤ s.size) :
    Calls Try.prog 5 #[.string s, .int .u8 a, .int .u8 width, .int .u64 n] w fun e w' => e = .returned (.bool true) ∧ Below w.heap.size w w' := by
  have HB := Aside0.mk (Below.refl w.heap.size w)
  have p8 : (256 : Int) ^ 7 = 72057594037927936 := by decide
  have fy : y / 256 ^ 7 = 0 := by rw [p8]; omega
  have py : putV 7 y = (strOfNums (dg 7 y), true) := putV_yes 7 y (by omega) (by omega) fy
  obtain ⟨S, hS⟩ : ∃ S, strOfNums (dg 7 y) = S := ⟨_, rfl⟩
  have wy := beI_whole y y0 7 fy
  have sS : S.size = 7 := by rw [← hS, str_size, dg_len]
  rw [hS] at wy py
  obtain ⟨A, hA⟩ : ∃ A, s.extract 0 i = A := ⟨_, rfl⟩
  obtain ⟨Q, hQ⟩ : ∃ Q, s.extract (i + 7) s.size = Q := ⟨_, rfl⟩
  have sA : A.size = i := by rw [← hA, ByteArray.size_extract]; omega
  have sQ : Q.size = s.size - (i + 7) := by rw [← hQ, ByteArray.size_extract]; omega
  obtain ⟨X, hX⟩ : ∃ X, A ++ S ++ Q = X := ⟨_, rfl⟩
  have g : (getV s (i : Int) 7).2 = true := by
    have e := getV_yes s i 7 (by omega) (by omega) (by omega)
    exact congrArg Prod.snd e
  have st : setV s (i : Int) 7 y = (X, true) := by
    unfold setV
    rw [g, py, if_pos ⟨rfl, rfl⟩, Int.toNat_natCast, show ((i : Int) + 7).toNat = i + 7 from by omega, hA, hQ, hX]
  have zX : X.size = s.size := by rw [← hX, ByteArray.size_append, ByteArray.size_append, sA, sS, sQ]; omega
  have gx : getV X (i : Int) 7 = (y, true) := by
    have e := getV_yes X i 7 (by omega) (by omega) (by omega)
    have b := beI_mid A S Q 0 7 (by omega)
    rw [hX, wy, sA, Nat.add_zero] at b
    rw [b] at e
    exact e
  have x1 : X.extract 0 i = A := by rw [← hX, ByteArray.append_assoc, ByteArray.extract_append_eq_left sA.symm]
  have x2 : X.extract (i + 7) X.size = Q := by
    have : (A ++ S).size = i + 7 := by rw [ByteArray.size_append, sA, sS]
    rw [← hX, ByteArray.extract_append_eq_right this.symm (by rw [ByteArray.size_append])]
  have hs1 : ∀ W : World, (Instr.slice 9 (.string s) none (some (.int .i64 (i : Int))) none).run Try.prog W = .ok (.string A) W := fun W => by rw [piece_to s i (by omega) W, hA]
  have hs2 : ∀ W : World, (Instr.slice 9 (.string X) none (some (.int .i64 (i : Int))) none).run Try.prog W = .ok (.string A) W := fun W => by rw [piece_to X i (by omega) W, x1]
  have hs3 : ∀ W : World, (Instr.slice 9 (.string s) (some (.int .i64 ((i : Int) + 7))) none none).run Try.prog W = .ok (.string Q) W := fun W => by rw [piece_from s _ (i + 7) (by omega) (by omega) W, hQ]
  have hs4 : ∀ W : World, (Instr.slice 9 (.string X) (some (.int .i64 ((i : Int) + 7))) none none).run Try.prog W = .ok (.string Q) W := fun W => by rw [piece_from X _ (i + 7) (by omega) (by omega) W, x2]
  have ST := Aside0.mk st; have HS : Aside0 (s.size ≤ 1000000000000000) := ⟨by omega⟩; have Y0 := Aside0.mk y0; have Y1 : Aside0 (y ≤ 18446744073709551615) := ⟨by omega⟩; have GX := Aside0.mk gx; have HX : Aside0 (X.size ≤ 1000000000000000) := ⟨by omega⟩
  have t1 : (i : Int) + 7 ≤ (s.size : Int) := by omega
  have t2 : (0 : Int) ≤ (i : Int) := by omega
  clear st g gx py fy p8 x1 x2 hX hA hQ hS wy sS sA sQ
  go_enter Try.func5, Try.ntmps5
  go_wp2_with (first | (go_at_call 8; (with_reducible refine (examples_c _).mono ?_); rintro e w1 ⟨rfl, hb⟩; have n0_ := Aside0.mk (below_step (by repeat (first | (with_reducible first | exact HB.out | apply below_alloc | apply pw_below_drewN | apply below_drew1) | exact HB.out)) hb); clear HB; have HB := n0_; clear n0_) | (go_at_call 13; (with_reducible refine (set_at _ _ _ _ _ _ _ ST.out HS.out Y0.out Y1.out).mono ?_); rintro e w1 ⟨rfl, hb⟩; have n0_ := Aside0.mk (below_step (by repeat (first | (with_reducible first | exact HB.out | apply below_alloc | apply pw_below_drewN | apply below_drew1) | exact HB.out)) hb); clear HB; have HB := n0_; clear n0_) | (go_at_call 11; (with_reducible refine (get_at _ _ _ _ _ _ GX.out HX.out).mono ?_); rintro e w1 ⟨rfl, hb⟩; have n0_ := Aside0.mk (below_step (by repeat (first | (with_reducible first | exact HB.out | apply below_alloc | apply pw_below_drewN | apply below_drew1) | exact HB.out)) hb); clear HB; have HB := n0_; clear n0_))
  go_quiet (fail)
  go_wp2
  go_ret
  exact ⟨rfl, (by repeat (first | (with_reducible first | exact HB.out | apply below_alloc | apply pw_below_drewN | apply below_drew1) | exact HB.out))⟩
set_option maxHeartbeats 1000000 in
set_option maxRecDepth 100000 in
theorem sets_8_no (s : ByteArray) (a width n y : Int) (i : Nat) (w : World) (hs : s.size ≤ 140737488351232) (n0 : 0 ≤ n) (n1 : n ≤ 18446744073709551615) (a0 : 0 ≤ a) (d0 : 0 ≤ width) (e1 : width % 8 = 7) (e2 : a % 30 = (i : Int)) (hi : i < 30) (e3 : n = y) (y0 : 0 ≤ y) (y1 : y < 18446744073709551616) (hz : s.size < i + 8) :
    Calls Try.prog 5 #[.string s, .int .u8 a, .int .u8 width, .int .u64 n] w fun e w' => e = .returned (.bool true) ∧ Below w.heap.size w w' := by
  have HB := Aside0.mk (Below.refl w.heap.size w)
  have p8 : (256 : Int) ^ 8 = 18446744073709551616 := by decide
  have fy : y / 256 ^ 8 = 0 := by rw [p8]; omega
  have py : putV 8 y = (strOfNums (dg 8 y), true) := putV_yes 8 y (by omega) (by omega) fy
  have g : getV s (i : Int) 8 = (0, false) := getV_no s _ _ (.inr (.inr (.inr (by omega))))
  have st : setV s (i : Int) 8 y = (⟨#[]⟩, false) := by unfold setV; rw [g]; simp
  have ST := Aside0.mk st; have HS : Aside0 (s.size ≤ 1000000000000000) := ⟨by omega⟩; have Y0 := Aside0.mk y0; have Y1 : Aside0 (y ≤ 18446744073709551615) := ⟨by omega⟩
  clear st g py fy p8
  go_enter Try.func5, Try.ntmps5
  go_wp2_with (first | (go_at_call 8; (with_reducible refine (examples_c _).mono ?_); rintro e w1 ⟨rfl, hb⟩; have n0_ := Aside0.mk (below_step (by repeat (first | (with_reducible first | exact HB.out | apply below_alloc | apply pw_below_drewN | apply below_drew1) | exact HB.out)) hb); clear HB; have HB := n0_; clear n0_) | (go_at_call 13; (with_reducible refine (set_at _ _ _ _ _ _ _ ST.out HS.out Y0.out Y1.out).mono ?_); rintro e w1 ⟨rfl, hb⟩; have n0_ := Aside0.mk (below_step (by repeat (first | (with_reducible first | exact HB.out | apply below_alloc | apply pw_below_drewN | apply below_drew1) | exact HB.out)) hb); clear HB; have HB := n0_; clear n0_))
  go_ret
  exact ⟨rfl, (by repeat (first | (with_reducible first | exact HB.out | apply below_alloc | apply pw_below_drewN | apply below_drew1) | exact HB.out))⟩
set_option maxHeartbeats 1000000 in
set_option maxRecDepth 100000 in
theorem sets_8_yes (s : ByteArray) (a width n y : Int) (i : Nat) (w : World) (hs : s.size ≤ 140737488351232) (n0 : 0 ≤ n) (n1 : n ≤ 18446744073709551615) (a0 : 0 ≤ a) (d0 : 0 ≤ width) (e1 : width % 8 = 7) (e2 : a % 30 = (i : Int)) (hi : i < 30) (e3 : n = y) (y0 : 0 ≤ y) (y1 : y < 18446744073709551616) (hz : i + 8 ≤ s.size) :
    Calls Try.prog 5 #[.string s, .int .u8 a, .int .u8 width, .int .u64 n] w fun e w' => e = .returned (.bool true) ∧ Below w.heap.size w w' := by
  have HB := Aside0.mk (Below.refl w.heap.size w)
  have p8 : (256 : Int) ^ 8 = 18446744073709551616 := by decide
  have fy : y / 256 ^ 8 = 0 := by rw [p8]; omega
  have py : putV 8 y = (strOfNums (dg 8 y), true) := putV_yes 8 y (by omega) (by omega) fy
  obtain ⟨S, hS⟩ : ∃ S, strOfNums (dg 8 y) = S := ⟨_, rfl⟩
  have wy := beI_whole y y0 8 fy
  have sS : S.size = 8 := by rw [← hS, str_size, dg_len]
  rw [hS] at wy py
  obtain ⟨A, hA⟩ : ∃ A, s.extract 0 i = A := ⟨_, rfl⟩
  obtain ⟨Q, hQ⟩ : ∃ Q, s.extract (i + 8) s.size = Q := ⟨_, rfl⟩
  have sA : A.size = i := by rw [← hA, ByteArray.size_extract]; omega
  have sQ : Q.size = s.size - (i + 8) := by rw [← hQ, ByteArray.size_extract]; omega
  obtain ⟨X, hX⟩ : ∃ X, A ++ S ++ Q = X := ⟨_, rfl⟩
  have g : (getV s (i : Int) 8).2 = true := by
    have e := getV_yes s i 8 (by omega) (by omega) (by omega)
    exact congrArg Prod.snd e
  have st : setV s (i : Int) 8 y = (X, true) := by
    unfold setV
    rw [g, py, if_pos ⟨rfl, rfl⟩, Int.toNat_natCast, show ((i : Int) + 8).toNat = i + 8 from by omega, hA, hQ, hX]
  have zX : X.size = s.size := by rw [← hX, ByteArray.size_append, ByteArray.size_append, sA, sS, sQ]; omega
  have gx : getV X (i : Int) 8 = (y, true) := by
    have e := getV_yes X i 8 (by omega) (by omega) (by omega)
    have b := beI_mid A S Q 0 8 (by omega)
    rw [hX, wy, sA, Nat.add_zero] at b
    rw [b] at e
    exact e
  have x1 : X.extract 0 i = A := by rw [← hX, ByteArray.append_assoc, ByteArray.extract_append_eq_left sA.symm]
  have x2 : X.extract (i + 8) X.size = Q := by
    have : (A ++ S).size = i + 8 := by rw [ByteArray.size_append, sA, sS]
    rw [← hX, ByteArray.extract_append_eq_right this.symm (by rw [ByteArray.size_append])]
  have hs1 : ∀ W : World, (Instr.slice 9 (.string s) none (some (.int .i64 (i : Int))) none).run Try.prog W = .ok (.string A) W := fun W => by rw [piece_to s i (by omega) W, hA]
  have hs2 : ∀ W : World, (Instr.slice 9 (.string X) none (some (.int .i64 (i : Int))) none).run Try.prog W = .ok (.string A) W := fun W => by rw [piece_to X i (by omega) W, x1]
  have hs3 : ∀ W : World, (Instr.slice 9 (.string s) (some (.int .i64 ((i : Int) + 8))) none none).run Try.prog W = .ok (.string Q) W := fun W => by rw [piece_from s _ (i + 8) (by omega) (by omega) W, hQ]
  have hs4 : ∀ W : World, (Instr.slice 9 (.string X) (some (.int .i64 ((i : Int) + 8))) none none).run Try.prog W = .ok (.string Q) W := fun W => by rw [piece_from X _ (i + 8) (by omega) (by omega) W, x2]
  have ST := Aside0.mk st; have HS : Aside0 (s.size ≤ 1000000000000000) := ⟨by omega⟩; have Y0 := Aside0.mk y0; have Y1 : Aside0 (y ≤ 18446744073709551615) := ⟨by omega⟩; have GX := Aside0.mk gx; have HX : Aside0 (X.size ≤ 1000000000000000) := ⟨by omega⟩
  have t1 : (i : Int) + 8 ≤ (s.size : Int) := by omega
  have t2 : (0 : Int) ≤ (i : Int) := by omega
  clear st g gx py fy p8 x1 x2 hX hA hQ hS wy sS sA sQ
  go_enter Try.func5, Try.ntmps5
  go_wp2_with (first | (go_at_call 8; (with_reducible refine (examples_c _).mono ?_); rintro e w1 ⟨rfl, hb⟩; have n0_ := Aside0.mk (below_step (by repeat (first | (with_reducible first | exact HB.out | apply below_alloc | apply pw_below_drewN | apply below_drew1) | exact HB.out)) hb); clear HB; have HB := n0_; clear n0_) | (go_at_call 13; (with_reducible refine (set_at _ _ _ _ _ _ _ ST.out HS.out Y0.out Y1.out).mono ?_); rintro e w1 ⟨rfl, hb⟩; have n0_ := Aside0.mk (below_step (by repeat (first | (with_reducible first | exact HB.out | apply below_alloc | apply pw_below_drewN | apply below_drew1) | exact HB.out)) hb); clear HB; have HB := n0_; clear n0_) | (go_at_call 11; (with_reducible refine (get_at _ _ _ _ _ _ GX.out HX.out).mono ?_); rintro e w1 ⟨rfl, hb⟩; have n0_ := Aside0.mk (below_step (by repeat (first | (with_reducible first | exact HB.out | apply below_alloc | apply pw_below_drewN | apply below_drew1) | exact HB.out)) hb); clear HB; have HB := n0_; clear n0_))
  go_quiet (fail)
  go_wp2
  go_ret
  exact ⟨rfl, (by repeat (first | (with_reducible first | exact HB.out | apply below_alloc | apply pw_below_drewN | apply below_drew1) | exact HB.out))⟩
end Go.Proofs.Ytdihnjcplhlhkaa.Hand
