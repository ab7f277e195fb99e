/- CodecInts and CodecParts: the walks. -/
import Derived.Test.YtdihnjcplhlhkaaC5
import Derived.OpenShut
set_option linter.unusedVariables false
namespace Go.Proofs.Ytdihnjcplhlhkaa.Hand
open Go.RowKit Go.Proofs.Ytdihnjcplhlhkaa.PCodecTells Go.Proofs.YtdihnjcplhlhkaaW.PrintWords Go.Proofs.YtdihnjcplhlhkaaW.PrintLast Go.Proofs.YtdihnjcplhlhkaaW.PrintMore

theorem putV_yes (k : Nat) (n : Int) (h1 : 1 ≤ k) (h2 : k ≤ 8) (h : n / 256 ^ k = 0) : putV k n = (strOfNums (dg k n), true) := by
  unfold putV
  rw [if_neg (by omega), if_neg (by omega), Int.toNat_natCast, if_pos h]
theorem putV_nope (k : Nat) (n : Int) (h : ¬ n / 256 ^ k = 0) : putV k n = (⟨#[]⟩, false) := by
  unfold putV
  rw [Int.toNat_natCast, if_neg h]
  repeat' split
  all_goals rfl
theorem getV_yes (s : ByteArray) (a n : Nat) (h1 : 1 ≤ n) (h2 : n ≤ 8) (h : a + n ≤ s.size) : getV s a n = (beI s a n, true) := by
  unfold getV
  rw [if_neg (by omega), if_neg (by omega), if_neg (by omega), if_neg (by omega), Int.toNat_natCast, Int.toNat_natCast]
theorem or_high_nat (a b : Nat) (h : b < 4294967296) : a * 4294967296 ||| b = a * 4294967296 + b := by
  have := Nat.two_pow_add_eq_or_of_lt (i := 32) (b := b) h a
  rw [show (2 : Nat) ^ 32 = 4294967296 from by decide] at this
  rw [Nat.mul_comm a, this]
theorem or_high (x y : Int) (h0 : 0 ≤ x) (h1 : x < 4294967296) (h2 : 0 ≤ y) (h3 : y < 4294967296) : bits .or .u64 (x * 4294967296) y = x * 4294967296 + y := by
  obtain ⟨a, rfl⟩ := Int.eq_ofNat_of_zero_le h0
  obtain ⟨b, rfl⟩ := Int.eq_ofNat_of_zero_le h2
  have e : ((a : Int) * 4294967296) = ((a * 4294967296 : Nat) : Int) := by omega
  rw [e, u64_or_nat _ _ (by omega) (by omega), or_high_nat a b (by omega)]
  omega
theorem and_low (n : Int) (h0 : 0 ≤ n) (h1 : n ≤ 18446744073709551615) : bits .and .u64 n 255 = n % 256 := by
  obtain ⟨a, rfl⟩ := Int.eq_ofNat_of_zero_le h0
  have := u64_and_nat a 255 (by omega) (by omega)
  rw [show ((255 : Nat) : Int) = 255 from rfl] at this
  rw [this, show (255 : Nat) = 2 ^ 8 - 1 from by decide, Nat.and_two_pow_sub_one_eq_mod]
  omega
theorem fits64 (n : Int) (h0 : 0 ≤ n) (h1 : n ≤ 18446744073709551615) : n / 256 ^ 8 = 0 := by
  have : (256 : Int) ^ 8 = 18446744073709551616 := by decide
  rw [this]; omega
set_option maxHeartbeats 1000000 in
set_option maxRecDepth 100000 in
theorem CodecInts_walk (n : Int) (A : ByteArray) (w : World) (w0 : (Lit.int .i64 n).wf = true) (w1 : A.size ≤ 140737488351232) :
    Calls Try.prog 6 #[.int .i64 n, .string A] w fun e w' => e = .returned (.bool true) ∧ Below w.heap.size w w' := by
  have HB := Aside0.mk (Below.refl w.heap.size w)
  obtain ⟨n0, n1⟩ := Go.bounds_i64 w0
  obtain ⟨u, hu⟩ : ∃ u, IntKind.u64.wrap n = u := ⟨_, rfl⟩
  have hub := wrapU n
  rw [hu] at hub
  have hun : wrap64 u = n := by rw [← hu, IntKind.wrap_u64]; unfold wrap64; omega
  have hp := putV_yes 8 u (by omega) (by omega) (fits64 u hub.1 hub.2)
  obtain ⟨S, hS⟩ : ∃ S, strOfNums (dg 8 u) = S := ⟨_, rfl⟩
  have hw := beI_whole u hub.1 8 (fits64 u hub.1 hub.2)
  have hI : intV n = S := by unfold intV; rw [hu]; exact (congrArg Prod.fst hp).trans hS
  have hS8 : S.size = 8 := by rw [← hS, str_size, dg_len]
  rw [hS] at hw
  obtain ⟨X, hX⟩ : ∃ X, A ++ S = X := ⟨_, rfl⟩
  have hXs : X.size = A.size + 8 := by rw [← hX, ByteArray.size_append, hS8]
  have g1 : gintV X A.size = (n, true) := by
    have e := getV_yes X A.size 8 (by omega) (by omega) (by omega)
    unfold gintV
    rw [show ((8 : Int)) = ((8 : Nat) : Int) from rfl, e]
    have := beI_end A S 0 8 (by omega)
    rw [hX, hw, Nat.add_zero] at this
    rw [this, hun]
  have g2 : getV S 0 8 = (u, true) := by
    have e := getV_yes S 0 8 (by omega) (by omega) (by omega)
    rw [hw] at e
    exact e
  have g3 : gintV X ((A.size : Int) + 1) = (0, false) := by
    unfold gintV
    rw [getV_no X _ 8 (.inr (.inr (.inr (by omega))))]
    exact Prod.ext (by unfold wrap64; omega) rfl
  have G1 := Aside0.mk g1; have G2 := Aside0.mk g2; have G3 := Aside0.mk g3; have GI := Aside0.mk hI
  have ZX : Aside0 (X.size ≤ 1000000000000000) := ⟨by omega⟩
  have ZS : Aside0 (S.size ≤ 1000000000000000) := ⟨by omega⟩
  have z1 : A.size + S.size ≤ 9223372036854775807 := by omega
  have z2 : A.size + 8 ≤ 9223372036854775807 := by omega
  clear g1 g2 g3 hI hw hp hS hun hXs
  go_enter Try.func6, Try.ntmps6
  go_wp2_with (first | (go_at_call 8; (with_reducible refine (examples_c _).mono ?_); rintro e w1 ⟨rfl, hb⟩; have n0_ := Aside0.mk (below_step (by repeat (first | (with_reducible first | exact HB.out | apply below_alloc | apply pw_below_drewN | apply below_drew1) | exact HB.out)) hb); clear HB; have HB := n0_; clear n0_) | (go_at_call 17; (with_reducible refine (int_at _ _ _ GI.out).mono ?_); rintro e w1 ⟨rfl, hb⟩; have n0_ := Aside0.mk (below_step (by repeat (first | (with_reducible first | exact HB.out | apply below_alloc | apply pw_below_drewN | apply below_drew1) | exact HB.out)) hb); clear HB; have HB := n0_; clear n0_) | (go_at_call 15; (with_reducible refine (gint_at _ _ _ _ _ G1.out ZX.out).mono ?_); rintro e w1 ⟨rfl, hb⟩; have n0_ := Aside0.mk (below_step (by repeat (first | (with_reducible first | exact HB.out | apply below_alloc | apply pw_below_drewN | apply below_drew1) | exact HB.out)) hb); clear HB; have HB := n0_; clear n0_) | (go_at_call 15; (with_reducible refine (gint_at _ _ _ _ _ G3.out ZX.out).mono ?_); rintro e w1 ⟨rfl, hb⟩; have n0_ := Aside0.mk (below_step (by repeat (first | (with_reducible first | exact HB.out | apply below_alloc | apply pw_below_drewN | apply below_drew1) | exact HB.out)) hb); clear HB; have HB := n0_; clear n0_) | (go_at_call 11; (with_reducible refine (get_at _ _ _ _ _ _ G2.out ZS.out).mono ?_); rintro e w1 ⟨rfl, hb⟩; have n0_ := Aside0.mk (below_step (by repeat (first | (with_reducible first | exact HB.out | apply below_alloc | apply pw_below_drewN | apply below_drew1) | exact HB.out)) hb); clear HB; have HB := n0_; clear n0_))
  go_ret
  exact ⟨rfl, (by repeat (first | (with_reducible first | exact HB.out | apply below_alloc | apply pw_below_drewN | apply below_drew1) | exact HB.out))⟩
set_option maxHeartbeats 1000000 in
set_option maxRecDepth 100000 in
theorem CodecParts_walk (n : Int) (A Q : ByteArray) (w : World) (w0 : (Lit.int .u64 n).wf = true) (w1 : A.size ≤ 140737488351232) (w2 : Q.size ≤ 140737488351232) :
    Calls Try.prog 7 #[.int .u64 n, .string A, .string Q] w fun e w' => e = .returned (.bool true) ∧ Below w.heap.size w w' := by
  have HB := Aside0.mk (Below.refl w.heap.size w)
  obtain ⟨n0, n1'⟩ := Go.bounds_u64 w0
  have n1 : n ≤ 18446744073709551615 := by omega
  clear w0 n1'
  have hp : putV 8 n = (strOfNums (dg 8 n), true) := putV_yes 8 n (by omega) (by omega) (fits64 n n0 n1)
  obtain ⟨S, hS⟩ : ∃ S, strOfNums (dg 8 n) = S := ⟨_, rfl⟩
  have hw := beI_whole n n0 8 (fits64 n n0 n1)
  have hlast := bt_dg n 8 7 (by omega)
  have hS8 : S.size = 8 := by rw [← hS, str_size, dg_len]
  rw [hS] at hw hp hlast
  obtain ⟨X, hX⟩ : ∃ X, A ++ S ++ Q = X := ⟨_, rfl⟩
  have hXs : X.size = A.size + 8 + Q.size := by rw [← hX, ByteArray.size_append, ByteArray.size_append, hS8]
  have m1 := beI_mid A S Q 0 4 (by omega)
  have m2 := beI_mid A S Q 4 4 (by omega)
  have m3 := beI_mid A S Q 7 1 (by omega)
  rw [hX] at m1 m2 m3
  have b1 := beI_bd S 0 4
  have b2 := beI_bd S 4 4
  have e32 : (256 : Int) ^ 4 = 4294967296 := by decide
  rw [e32] at b1 b2
  have hsum : beI S 0 4 * 4294967296 + beI S 4 4 = n := by
    have : beI S 0 8 = beI S 0 4 * 4294967296 + beI S 4 4 := by simp only [beI, Nat.zero_add, Nat.add_zero, Nat.reduceAdd]; omega
    rw [← this, hw]
  have hone : beI S 7 1 = n % 256 := by
    simp only [beI]
    have : bt S ((7 + 0 : Nat) : Int) = n % 256 := by have := hlast; simpa using this
    omega
  have g1 := getV_yes X (A.size + 0) 4 (by omega) (by omega) (by omega)
  have g2 := getV_yes X (A.size + 4) 4 (by omega) (by omega) (by omega)
  have g3 := getV_yes X (A.size + 7) 1 (by omega) (by omega) (by omega)
  rw [m1] at g1; rw [m2] at g2; rw [m3, hone] at g3
  have g4 : getV X X.size 1 = (0, false) := getV_no X _ 1 (.inr (.inr (.inr (by omega))))
  have g5 : getV X (-1) 1 = (0, false) := getV_no X _ 1 (.inr (.inr (.inl (by omega))))
  have g6 : getV X 0 9 = (0, false) := getV_no X _ 9 (.inr (.inl (by omega)))
  have hor : bits .or .u64 (beI S 0 4 * 4294967296) (beI S 4 4) = n := by
    rw [or_high _ _ b1.1 b1.2 b2.1 b2.2]; exact hsum
  have hand : bits .and .u64 n 255 = n % 256 := by
    exact and_low n n0 n1
  have bh0 := b1.1
  have bh1 := b1.2
  obtain ⟨H, hH⟩ : ∃ H, beI S 0 4 = H := ⟨_, rfl⟩
  obtain ⟨L, hL⟩ : ∃ L, beI S 4 4 = L := ⟨_, rfl⟩
  obtain ⟨O, hO⟩ : ∃ O, n % 256 = O := ⟨_, rfl⟩
  rw [hH] at g1 hor bh0 bh1; rw [hL] at g2 hor; rw [hO] at g3 hand
  have G1 : Aside0 (getV X (A.size : Int) 4 = (H, true)) := ⟨g1⟩
  have G2 : Aside0 (getV X ((A.size : Int) + 4) 4 = (L, true)) := ⟨g2⟩
  have G3 : Aside0 (getV X ((A.size : Int) + 7) 1 = (O, true)) := ⟨g3⟩
  have G4 := Aside0.mk g4; have G5 := Aside0.mk g5; have G6 := Aside0.mk g6; have GP := Aside0.mk hp; have N0 := Aside0.mk n0; have N1 := Aside0.mk n1
  have ZX : Aside0 (X.size ≤ 1000000000000000) := ⟨by omega⟩
  have z1 : A.size + S.size ≤ 9223372036854775807 := by omega
  have z2 : A.size + 8 ≤ 9223372036854775807 := by omega
  have z3 : (A ++ S).size + Q.size ≤ 9223372036854775807 := by rw [ByteArray.size_append]; omega
  have z4 : A.size + S.size + Q.size ≤ 9223372036854775807 := by omega
  have z5 : A.size + 8 + Q.size ≤ 9223372036854775807 := by omega
  clear g1 g2 g3 g4 g5 g6 hp hw hS hXs m1 m2 m3 b1 b2 hH hL hO e32 hlast hone hsum
  go_enter Try.func7, Try.ntmps7
  go_wp2_with (first | (go_at_call 8; (with_reducible refine (examples_c _).mono ?_); rintro e w1 ⟨rfl, hb⟩; have n0_ := Aside0.mk (below_step (by repeat (first | (with_reducible first | exact HB.out | apply below_alloc | apply pw_below_drewN | apply below_drew1) | exact HB.out)) hb); clear HB; have HB := n0_; clear n0_) | (go_at_call 9; (with_reducible refine (put_at _ _ _ _ _ GP.out N0.out N1.out).mono ?_); rintro e w1 ⟨rfl, hb⟩; have n0_ := Aside0.mk (below_step (by repeat (first | (with_reducible first | exact HB.out | apply below_alloc | apply pw_below_drewN | apply below_drew1) | exact HB.out)) hb); clear HB; have HB := n0_; clear n0_) | (go_at_call 11; (with_reducible refine (get_at _ _ _ _ _ _ G1.out ZX.out).mono ?_); rintro e w1 ⟨rfl, hb⟩; have n0_ := Aside0.mk (below_step (by repeat (first | (with_reducible first | exact HB.out | apply below_alloc | apply pw_below_drewN | apply below_drew1) | exact HB.out)) hb); clear HB; have HB := n0_; clear n0_) | (go_at_call 11; (with_reducible refine (get_at _ _ _ _ _ _ G2.out ZX.out).mono ?_); rintro e w1 ⟨rfl, hb⟩; have n0_ := Aside0.mk (below_step (by repeat (first | (with_reducible first | exact HB.out | apply below_alloc | apply pw_below_drewN | apply below_drew1) | exact HB.out)) hb); clear HB; have HB := n0_; clear n0_) | (go_at_call 11; (with_reducible refine (get_at _ _ _ _ _ _ G3.out ZX.out).mono ?_); rintro e w1 ⟨rfl, hb⟩; have n0_ := Aside0.mk (below_step (by repeat (first | (with_reducible first | exact HB.out | apply below_alloc | apply pw_below_drewN | apply below_drew1) | exact HB.out)) hb); clear HB; have HB := n0_; clear n0_) | (go_at_call 11; (with_reducible refine (get_at _ _ _ _ _ _ G4.out ZX.out).mono ?_); rintro e w1 ⟨rfl, hb⟩; have n0_ := Aside0.mk (below_step (by repeat (first | (with_reducible first | exact HB.out | apply below_alloc | apply pw_below_drewN | apply below_drew1) | exact HB.out)) hb); clear HB; have HB := n0_; clear n0_) | (go_at_call 11; (with_reducible refine (get_at _ _ _ _ _ _ G5.out ZX.out).mono ?_); rintro e w1 ⟨rfl, hb⟩; have n0_ := Aside0.mk (below_step (by repeat (first | (with_reducible first | exact HB.out | apply below_alloc | apply pw_below_drewN | apply below_drew1) | exact HB.out)) hb); clear HB; have HB := n0_; clear n0_) | (go_at_call 11; (with_reducible refine (get_at _ _ _ _ _ _ G6.out ZX.out).mono ?_); rintro e w1 ⟨rfl, hb⟩; have n0_ := Aside0.mk (below_step (by repeat (first | (with_reducible first | exact HB.out | apply below_alloc | apply pw_below_drewN | apply below_drew1) | exact HB.out)) hb); clear HB; have HB := n0_; clear n0_))
  go_ret
  exact ⟨rfl, (by repeat (first | (with_reducible first | exact HB.out | apply below_alloc | apply pw_below_drewN | apply below_drew1) | exact HB.out))⟩
end Go.Proofs.Ytdihnjcplhlhkaa.Hand
