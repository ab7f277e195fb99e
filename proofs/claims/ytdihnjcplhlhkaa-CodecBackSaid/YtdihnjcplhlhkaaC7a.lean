/- CodecBack: the walks, a third of them. -/
import Derived.Test.YtdihnjcplhlhkaaC6
import Derived.OpenShut
set_option linter.unusedVariables false
namespace Go.Proofs.Ytdihnjcplhlhkaa.Hand
open Go.RowKit Go.Proofs.Ytdihnjcplhlhkaa.PCodecTells Go.Proofs.YtdihnjcplhlhkaaW.PrintWords Go.Proofs.YtdihnjcplhlhkaaW.PrintLast Go.Proofs.YtdihnjcplhlhkaaW.PrintMore
set_option maxHeartbeats 1000000 in
set_option maxRecDepth 100000 in
theorem back_1_A (n m width : Int) (w : World) (n0 : 0 ≤ n) (n1 : n ≤ 18446744073709551615) (m0 : 0 ≤ m) (m1 : m ≤ 18446744073709551615) (d0 : 0 ≤ width) (e1 : width % 8 = 0) (hn : n < 256) (hm : m < 256) :
    Calls Try.prog 4 #[.int .u64 n, .int .u64 m, .int .u8 width] w fun e w' => e = .returned (.bool true) ∧ Below w.heap.size w w' := by
  have HB := Aside0.mk (Below.refl w.heap.size w)
  have p8 : (256 : Int) ^ 1 = 256 := by decide
  have fn : n / 256 ^ 1 = 0 := by rw [p8]; omega
  have pn : putV 1 n = (strOfNums (dg 1 n), true) := putV_yes 1 n (by omega) (by omega) fn
  obtain ⟨S, hS⟩ : ∃ S, strOfNums (dg 1 n) = S := ⟨_, rfl⟩
  have wn := beI_whole n n0 1 fn
  rw [hS] at wn
  have sS : S.size = 1 := by rw [← hS, str_size, dg_len]
  rw [hS] at pn
  have fm : m / 256 ^ 1 = 0 := by rw [p8]; omega
  have pm : putV 1 m = (strOfNums (dg 1 m), true) := putV_yes 1 m (by omega) (by omega) fm
  have lw := less_put n m n0 m0 1 fn fm
  have sw := same_put n m n0 m0 1 fn fm
  obtain ⟨Q, hQ⟩ : ∃ Q, strOfNums (dg 1 m) = Q := ⟨_, rfl⟩
  have wm := beI_whole m m0 1 fm
  rw [hQ] at wm
  have sQ : Q.size = 1 := by rw [← hQ, str_size, dg_len]
  rw [hQ] at pm
  rw [hS, hQ] at lw sw
  clear hQ
  have sw' : (S.toList == Q.toList) = (n == m) := by rw [sw]; rfl
  clear sw
  obtain ⟨X, hX⟩ : ∃ X, (⟨#[120]⟩ : ByteArray) ++ S ++ Q = X := ⟨_, rfl⟩
  have zX : X.size = 1 + 1 + 1 := by rw [← hX, ByteArray.size_append, ByteArray.size_append, sS, sQ]; rfl
  have g1 : getV X 1 1 = (n, true) := by
    have e := getV_yes X 1 1 (by omega) (by omega) (by omega)
    have b := beI_mid ⟨#[120]⟩ S Q 0 1 (by omega)
    rw [hX, wn] at b
    have b' : beI X 1 1 = n := b
    rw [b'] at e
    exact e
  have g2 : getV X 2 1 = (m, true) := by
    have e := getV_yes X (1 + 1) 1 (by omega) (by omega) (by omega)
    have b := beI_end ((⟨#[120]⟩ : ByteArray) ++ S) Q 0 1 (by omega)
    rw [hX, wm] at b
    have z : ((⟨#[120]⟩ : ByteArray) ++ S).size + 0 = 1 + 1 := by rw [ByteArray.size_append, sS]; rfl
    rw [z] at b
    rw [b] at e
    exact e
  have G1 := Aside0.mk g1; have G2 := Aside0.mk g2
  have ZX : Aside0 (X.size ≤ 1000000000000000) := ⟨by omega⟩
  clear g1 g2 zX wn wm fm
  have PN := Aside0.mk pn; have PM := Aside0.mk pm; have N0 := Aside0.mk n0; have N1 := Aside0.mk n1; have M0 := Aside0.mk m0; have M1 := Aside0.mk m1
  clear pn pm p8 fn hS
  go_enter Try.func4, Try.ntmps4
  go_wp2_with (first | (go_at_call 8; (with_reducible refine (examples_c _).mono ?_); rintro e w1 ⟨rfl, hb⟩; have n0_ := Aside0.mk (below_step (by repeat (first | (with_reducible first | exact HB.out | apply below_alloc | apply pw_below_drewN | apply below_drew1) | exact HB.out)) hb); clear HB; have HB := n0_; clear n0_) | (go_at_call 9; (with_reducible refine (put_at _ n _ _ _ PN.out N0.out N1.out).mono ?_); rintro e w1 ⟨rfl, hb⟩; have n0_ := Aside0.mk (below_step (by repeat (first | (with_reducible first | exact HB.out | apply below_alloc | apply pw_below_drewN | apply below_drew1) | exact HB.out)) hb); clear HB; have HB := n0_; clear n0_) | (go_at_call 9; (with_reducible refine (put_at _ m _ _ _ PM.out M0.out M1.out).mono ?_); rintro e w1 ⟨rfl, hb⟩; have n0_ := Aside0.mk (below_step (by repeat (first | (with_reducible first | exact HB.out | apply below_alloc | apply pw_below_drewN | apply below_drew1) | exact HB.out)) hb); clear HB; have HB := n0_; clear n0_) | (go_at_call 11; (with_reducible refine (get_at _ _ _ _ _ _ G1.out ZX.out).mono ?_); rintro e w1 ⟨rfl, hb⟩; have n0_ := Aside0.mk (below_step (by repeat (first | (with_reducible first | exact HB.out | apply below_alloc | apply pw_below_drewN | apply below_drew1) | exact HB.out)) hb); clear HB; have HB := n0_; clear n0_) | (go_at_call 11; (with_reducible refine (get_at _ _ _ _ _ _ G2.out ZX.out).mono ?_); rintro e w1 ⟨rfl, hb⟩; have n0_ := Aside0.mk (below_step (by repeat (first | (with_reducible first | exact HB.out | apply below_alloc | apply pw_below_drewN | apply below_drew1) | exact HB.out)) hb); clear HB; have HB := n0_; clear n0_))
  go_ret
  exact ⟨rfl, (by repeat (first | (with_reducible first | exact HB.out | apply below_alloc | apply pw_below_drewN | apply below_drew1) | exact HB.out))⟩
set_option maxHeartbeats 1000000 in
set_option maxRecDepth 100000 in
theorem back_1_B (n m width : Int) (w : World) (n0 : 0 ≤ n) (n1 : n ≤ 18446744073709551615) (m0 : 0 ≤ m) (m1 : m ≤ 18446744073709551615) (d0 : 0 ≤ width) (e1 : width % 8 = 0) (hn : n < 256) (hm : 256 ≤ m) :
    Calls Try.prog 4 #[.int .u64 n, .int .u64 m, .int .u8 width] w fun e w' => e = .returned (.bool true) ∧ Below w.heap.size w w' := by
  have HB := Aside0.mk (Below.refl w.heap.size w)
  have p8 : (256 : Int) ^ 1 = 256 := by decide
  have fn : n / 256 ^ 1 = 0 := by rw [p8]; omega
  have pn : putV 1 n = (strOfNums (dg 1 n), true) := putV_yes 1 n (by omega) (by omega) fn
  obtain ⟨S, hS⟩ : ∃ S, strOfNums (dg 1 n) = S := ⟨_, rfl⟩
  rw [hS] at pn
  have fm : ¬ m / 256 ^ 1 = 0 := by rw [p8]; omega
  have pm : putV 1 m = (⟨#[]⟩, false) := putV_nope 1 m fm
  clear fm
  have PN := Aside0.mk pn; have PM := Aside0.mk pm; have N0 := Aside0.mk n0; have N1 := Aside0.mk n1; have M0 := Aside0.mk m0; have M1 := Aside0.mk m1
  clear pn pm p8 fn hS
  go_enter Try.func4, Try.ntmps4
  go_wp2_with (first | (go_at_call 8; (with_reducible refine (examples_c _).mono ?_); rintro e w1 ⟨rfl, hb⟩; have n0_ := Aside0.mk (below_step (by repeat (first | (with_reducible first | exact HB.out | apply below_alloc | apply pw_below_drewN | apply below_drew1) | exact HB.out)) hb); clear HB; have HB := n0_; clear n0_) | (go_at_call 9; (with_reducible refine (put_at _ n _ _ _ PN.out N0.out N1.out).mono ?_); rintro e w1 ⟨rfl, hb⟩; have n0_ := Aside0.mk (below_step (by repeat (first | (with_reducible first | exact HB.out | apply below_alloc | apply pw_below_drewN | apply below_drew1) | exact HB.out)) hb); clear HB; have HB := n0_; clear n0_) | (go_at_call 9; (with_reducible refine (put_at _ m _ _ _ PM.out M0.out M1.out).mono ?_); rintro e w1 ⟨rfl, hb⟩; have n0_ := Aside0.mk (below_step (by repeat (first | (with_reducible first | exact HB.out | apply below_alloc | apply pw_below_drewN | apply below_drew1) | exact HB.out)) hb); clear HB; have HB := n0_; clear n0_))
  go_ret
  exact ⟨rfl, (by repeat (first | (with_reducible first | exact HB.out | apply below_alloc | apply pw_below_drewN | apply below_drew1) | exact HB.out))⟩
set_option maxHeartbeats 1000000 in
set_option maxRecDepth 100000 in
theorem back_1_C (n m width : Int) (w : World) (n0 : 0 ≤ n) (n1 : n ≤ 18446744073709551615) (m0 : 0 ≤ m) (m1 : m ≤ 18446744073709551615) (d0 : 0 ≤ width) (e1 : width % 8 = 0) (hn : 256 ≤ n) :
    Calls Try.prog 4 #[.int .u64 n, .int .u64 m, .int .u8 width] w fun e w' => e = .returned (.bool true) ∧ Below w.heap.size w w' := by
  have HB := Aside0.mk (Below.refl w.heap.size w)
  have p8 : (256 : Int) ^ 1 = 256 := by decide
  have fn : ¬ n / 256 ^ 1 = 0 := by rw [p8]; omega
  have pn : putV 1 n = (⟨#[]⟩, false) := putV_nope 1 n fn
  obtain ⟨Q, c, pm⟩ : ∃ Q c, putV 1 m = (Q, c) := ⟨_, _, rfl⟩
  have PN := Aside0.mk pn; have PM := Aside0.mk pm; have N0 := Aside0.mk n0; have N1 := Aside0.mk n1; have M0 := Aside0.mk m0; have M1 := Aside0.mk m1
  clear pn pm p8 fn
  go_enter Try.func4, Try.ntmps4
  go_wp2_with (first | (go_at_call 8; (with_reducible refine (examples_c _).mono ?_); rintro e w1 ⟨rfl, hb⟩; have n0_ := Aside0.mk (below_step (by repeat (first | (with_reducible first | exact HB.out | apply below_alloc | apply pw_below_drewN | apply below_drew1) | exact HB.out)) hb); clear HB; have HB := n0_; clear n0_) | (go_at_call 9; (with_reducible refine (put_at _ n _ _ _ PN.out N0.out N1.out).mono ?_); rintro e w1 ⟨rfl, hb⟩; have n0_ := Aside0.mk (below_step (by repeat (first | (with_reducible first | exact HB.out | apply below_alloc | apply pw_below_drewN | apply below_drew1) | exact HB.out)) hb); clear HB; have HB := n0_; clear n0_) | (go_at_call 9; (with_reducible refine (put_at _ m _ _ _ PM.out M0.out M1.out).mono ?_); rintro e w1 ⟨rfl, hb⟩; have n0_ := Aside0.mk (below_step (by repeat (first | (with_reducible first | exact HB.out | apply below_alloc | apply pw_below_drewN | apply below_drew1) | exact HB.out)) hb); clear HB; have HB := n0_; clear n0_))
  all_goals go_ret
  all_goals exact ⟨by first | rfl | (simp; omega), (by repeat (first | (with_reducible first | exact HB.out | apply below_alloc | apply pw_below_drewN | apply below_drew1) | exact HB.out))⟩
set_option maxHeartbeats 1000000 in
set_option maxRecDepth 100000 in
theorem back_2_A (n m width : Int) (w : World) (n0 : 0 ≤ n) (n1 : n ≤ 18446744073709551615) (m0 : 0 ≤ m) (m1 : m ≤ 18446744073709551615) (d0 : 0 ≤ width) (e1 : width % 8 = 1) (hn : n < 65536) (hm : m < 65536) :
    Calls Try.prog 4 #[.int .u64 n, .int .u64 m, .int .u8 width] w fun e w' => e = .returned (.bool true) ∧ Below w.heap.size w w' := by
  have HB := Aside0.mk (Below.refl w.heap.size w)
  have p8 : (256 : Int) ^ 2 = 65536 := by decide
  have fn : n / 256 ^ 2 = 0 := by rw [p8]; omega
  have pn : putV 2 n = (strOfNums (dg 2 n), true) := putV_yes 2 n (by omega) (by omega) fn
  obtain ⟨S, hS⟩ : ∃ S, strOfNums (dg 2 n) = S := ⟨_, rfl⟩
  have wn := beI_whole n n0 2 fn
  rw [hS] at wn
  have sS : S.size = 2 := by rw [← hS, str_size, dg_len]
  rw [hS] at pn
  have fm : m / 256 ^ 2 = 0 := by rw [p8]; omega
  have pm : putV 2 m = (strOfNums (dg 2 m), true) := putV_yes 2 m (by omega) (by omega) fm
  have lw := less_put n m n0 m0 2 fn fm
  have sw := same_put n m n0 m0 2 fn fm
  obtain ⟨Q, hQ⟩ : ∃ Q, strOfNums (dg 2 m) = Q := ⟨_, rfl⟩
  have wm := beI_whole m m0 2 fm
  rw [hQ] at wm
  have sQ : Q.size = 2 := by rw [← hQ, str_size, dg_len]
  rw [hQ] at pm
  rw [hS, hQ] at lw sw
  clear hQ
  have sw' : (S.toList == Q.toList) = (n == m) := by rw [sw]; rfl
  clear sw
  obtain ⟨X, hX⟩ : ∃ X, (⟨#[120]⟩ : ByteArray) ++ S ++ Q = X := ⟨_, rfl⟩
  have zX : X.size = 1 + 2 + 2 := by rw [← hX, ByteArray.size_append, ByteArray.size_append, sS, sQ]; rfl
  have g1 : getV X 1 2 = (n, true) := by
    have e := getV_yes X 1 2 (by omega) (by omega) (by omega)
    have b := beI_mid ⟨#[120]⟩ S Q 0 2 (by omega)
    rw [hX, wn] at b
    have b' : beI X 1 2 = n := b
    rw [b'] at e
    exact e
  have g2 : getV X 3 2 = (m, true) := by
    have e := getV_yes X (1 + 2) 2 (by omega) (by omega) (by omega)
    have b := beI_end ((⟨#[120]⟩ : ByteArray) ++ S) Q 0 2 (by omega)
    rw [hX, wm] at b
    have z : ((⟨#[120]⟩ : ByteArray) ++ S).size + 0 = 1 + 2 := by rw [ByteArray.size_append, sS]; rfl
    rw [z] at b
    rw [b] at e
    exact e
  have G1 := Aside0.mk g1; have G2 := Aside0.mk g2
  have ZX : Aside0 (X.size ≤ 1000000000000000) := ⟨by omega⟩
  clear g1 g2 zX wn wm fm
  have PN := Aside0.mk pn; have PM := Aside0.mk pm; have N0 := Aside0.mk n0; have N1 := Aside0.mk n1; have M0 := Aside0.mk m0; have M1 := Aside0.mk m1
  clear pn pm p8 fn hS
  go_enter Try.func4, Try.ntmps4
  go_wp2_with (first | (go_at_call 8; (with_reducible refine (examples_c _).mono ?_); rintro e w1 ⟨rfl, hb⟩; have n0_ := Aside0.mk (below_step (by repeat (first | (with_reducible first | exact HB.out | apply below_alloc | apply pw_below_drewN | apply below_drew1) | exact HB.out)) hb); clear HB; have HB := n0_; clear n0_) | (go_at_call 9; (with_reducible refine (put_at _ n _ _ _ PN.out N0.out N1.out).mono ?_); rintro e w1 ⟨rfl, hb⟩; have n0_ := Aside0.mk (below_step (by repeat (first | (with_reducible first | exact HB.out | apply below_alloc | apply pw_below_drewN | apply below_drew1) | exact HB.out)) hb); clear HB; have HB := n0_; clear n0_) | (go_at_call 9; (with_reducible refine (put_at _ m _ _ _ PM.out M0.out M1.out).mono ?_); rintro e w1 ⟨rfl, hb⟩; have n0_ := Aside0.mk (below_step (by repeat (first | (with_reducible first | exact HB.out | apply below_alloc | apply pw_below_drewN | apply below_drew1) | exact HB.out)) hb); clear HB; have HB := n0_; clear n0_) | (go_at_call 11; (with_reducible refine (get_at _ _ _ _ _ _ G1.out ZX.out).mono ?_); rintro e w1 ⟨rfl, hb⟩; have n0_ := Aside0.mk (below_step (by repeat (first | (with_reducible first | exact HB.out | apply below_alloc | apply pw_below_drewN | apply below_drew1) | exact HB.out)) hb); clear HB; have HB := n0_; clear n0_) | (go_at_call 11; (with_reducible refine (get_at _ _ _ _ _ _ G2.out ZX.out).mono ?_); rintro e w1 ⟨rfl, hb⟩; have n0_ := Aside0.mk (below_step (by repeat (first | (with_reducible first | exact HB.out | apply below_alloc | apply pw_below_drewN | apply below_drew1) | exact HB.out)) hb); clear HB; have HB := n0_; clear n0_))
  go_ret
  exact ⟨rfl, (by repeat (first | (with_reducible first | exact HB.out | apply below_alloc | apply pw_below_drewN | apply below_drew1) | exact HB.out))⟩
set_option maxHeartbeats 1000000 in
set_option maxRecDepth 100000 in
theorem back_2_B (n m width : Int) (w : World) (n0 : 0 ≤ n) (n1 : n ≤ 18446744073709551615) (m0 : 0 ≤ m) (m1 : m ≤ 18446744073709551615) (d0 : 0 ≤ width) (e1 : width % 8 = 1) (hn : n < 65536) (hm : 65536 ≤ m) :
    Calls Try.prog 4 #[.int .u64 n, .int .u64 m, .int .u8 width] w fun e w' => e = .returned (.bool true) ∧ Below w.heap.size w w' := by
  have HB := Aside0.mk (Below.refl w.heap.size w)
  have p8 : (256 : Int) ^ 2 = 65536 := by decide
  have fn : n / 256 ^ 2 = 0 := by rw [p8]; omega
  have pn : putV 2 n = (strOfNums (dg 2 n), true) := putV_yes 2 n (by omega) (by omega) fn
  obtain ⟨S, hS⟩ : ∃ S, strOfNums (dg 2 n) = S := ⟨_, rfl⟩
  rw [hS] at pn
  have fm : ¬ m / 256 ^ 2 = 0 := by rw [p8]; omega
  have pm : putV 2 m = (⟨#[]⟩, false) := putV_nope 2 m fm
  clear fm
  have PN := Aside0.mk pn; have PM := Aside0.mk pm; have N0 := Aside0.mk n0; have N1 := Aside0.mk n1; have M0 := Aside0.mk m0; have M1 := Aside0.mk m1
  clear pn pm p8 fn hS
  go_enter Try.func4, Try.ntmps4
  go_wp2_with (first | (go_at_call 8; (with_reducible refine (examples_c _).mono ?_); rintro e w1 ⟨rfl, hb⟩; have n0_ := Aside0.mk (below_step (by repeat (first | (with_reducible first | exact HB.out | apply below_alloc | apply pw_below_drewN | apply below_drew1) | exact HB.out)) hb); clear HB; have HB := n0_; clear n0_) | (go_at_call 9; (with_reducible refine (put_at _ n _ _ _ PN.out N0.out N1.out).mono ?_); rintro e w1 ⟨rfl, hb⟩; have n0_ := Aside0.mk (below_step (by repeat (first | (with_reducible first | exact HB.out | apply below_alloc | apply pw_below_drewN | apply below_drew1) | exact HB.out)) hb); clear HB; have HB := n0_; clear n0_) | (go_at_call 9; (with_reducible refine (put_at _ m _ _ _ PM.out M0.out M1.out).mono ?_); rintro e w1 ⟨rfl, hb⟩; have n0_ := Aside0.mk (below_step (by repeat (first | (with_reducible first | exact HB.out | apply below_alloc | apply pw_below_drewN | apply below_drew1) | exact HB.out)) hb); clear HB; have HB := n0_; clear n0_))
  go_ret
  exact ⟨rfl, (by repeat (first | (with_reducible first | exact HB.out | apply below_alloc | apply pw_below_drewN | apply below_drew1) | exact HB.out))⟩
set_option maxHeartbeats 1000000 in
set_option maxRecDepth 100000 in
theorem back_2_C (n m width : Int) (w : World) (n0 : 0 ≤ n) (n1 : n ≤ 18446744073709551615) (m0 : 0 ≤ m) (m1 : m ≤ 18446744073709551615) (d0 : 0 ≤ width) (e1 : width % 8 = 1) (hn : 65536 ≤ n) :
    Calls Try.prog 4 #[.int .u64 n, .int .u64 m, .int .u8 width] w fun e w' => e = .returned (.bool true) ∧ Below w.heap.size w w' := by
  have HB := Aside0.mk (Below.refl w.heap.size w)
  have p8 : (256 : Int) ^ 2 = 65536 := by decide
  have fn : ¬ n / 256 ^ 2 = 0 := by rw [p8]; omega
  have pn : putV 2 n = (⟨#[]⟩, false) := putV_nope 2 n fn
  obtain ⟨Q, c, pm⟩ : ∃ Q c, putV 2 m = (Q, c) := ⟨_, _, rfl⟩
  have PN := Aside0.mk pn; have PM := Aside0.mk pm; have N0 := Aside0.mk n0; have N1 := Aside0.mk n1; have M0 := Aside0.mk m0; have M1 := Aside0.mk m1
  clear pn pm p8 fn
  go_enter Try.func4, Try.ntmps4
  go_wp2_with (first | (go_at_call 8; (with_reducible refine (examples_c _).mono ?_); rintro e w1 ⟨rfl, hb⟩; have n0_ := Aside0.mk (below_step (by repeat (first | (with_reducible first | exact HB.out | apply below_alloc | apply pw_below_drewN | apply below_drew1) | exact HB.out)) hb); clear HB; have HB := n0_; clear n0_) | (go_at_call 9; (with_reducible refine (put_at _ n _ _ _ PN.out N0.out N1.out).mono ?_); rintro e w1 ⟨rfl, hb⟩; have n0_ := Aside0.mk (below_step (by repeat (first | (with_reducible first | exact HB.out | apply below_alloc | apply pw_below_drewN | apply below_drew1) | exact HB.out)) hb); clear HB; have HB := n0_; clear n0_) | (go_at_call 9; (with_reducible refine (put_at _ m _ _ _ PM.out M0.out M1.out).mono ?_); rintro e w1 ⟨rfl, hb⟩; have n0_ := Aside0.mk (below_step (by repeat (first | (with_reducible first | exact HB.out | apply below_alloc | apply pw_below_drewN | apply below_drew1) | exact HB.out)) hb); clear HB; have HB := n0_; clear n0_))
  all_goals go_ret
  all_goals exact ⟨by first | rfl | (simp; omega), (by repeat (first | (with_reducible first | exact HB.out | apply below_alloc | apply pw_below_drewN | apply below_drew1) | exact HB.out))⟩
set_option maxHeartbeats 1000000 in
set_option maxRecDepth 100000 in
theorem back_3_A (n m width : Int) (w : World) (n0 : 0 ≤ n) (n1 : n ≤ 18446744073709551615) (m0 : 0 ≤ m) (m1 : m ≤ 18446744073709551615) (d0 : 0 ≤ width) (e1 : width % 8 = 2) (hn : n < 16777216) (hm : m < 16777216) :
    Calls Try.prog 4 #[.int .u64 n, .int .u64 m, .int .u8 width] w fun e w' => e = .returned (.bool true) ∧ Below w.heap.size w w' := by
  have HB := Aside0.mk (Below.refl w.heap.size w)
  have p8 : (256 : Int) ^ 3 = 16777216 := by decide
  have fn : n / 256 ^ 3 = 0 := by rw [p8]; omega
  have pn : putV 3 n = (strOfNums (dg 3 n), true) := putV_yes 3 n (by omega) (by omega) fn
  obtain ⟨S, hS⟩ : ∃ S, strOfNums (dg 3 n) = S := ⟨_, rfl⟩
  have wn := beI_whole n n0 3 fn
  rw [hS] at wn
  have sS : S.size = 3 := by rw [← hS, str_size, dg_len]
  rw [hS] at pn
  have fm : m / 256 ^ 3 = 0 := by rw [p8]; omega
  have pm : putV 3 m = (strOfNums (dg 3 m), true) := putV_yes 3 m (by omega) (by omega) fm
  have lw := less_put n m n0 m0 3 fn fm
  have sw := same_put n m n0 m0 3 fn fm
  obtain ⟨Q, hQ⟩ : ∃ Q, strOfNums (dg 3 m) = Q := ⟨_, rfl⟩
  have wm := beI_whole m m0 3 fm
  rw [hQ] at wm
  have sQ : Q.size = 3 := by rw [← hQ, str_size, dg_len]
  rw [hQ] at pm
  rw [hS, hQ] at lw sw
  clear hQ
  have sw' : (S.toList == Q.toList) = (n == m) := by rw [sw]; rfl
  clear sw
  obtain ⟨X, hX⟩ : ∃ X, (⟨#[120]⟩ : ByteArray) ++ S ++ Q = X := ⟨_, rfl⟩
  have zX : X.size = 1 + 3 + 3 := by rw [← hX, ByteArray.size_append, ByteArray.size_append, sS, sQ]; rfl
  have g1 : getV X 1 3 = (n, true) := by
    have e := getV_yes X 1 3 (by omega) (by omega) (by omega)
    have b := beI_mid ⟨#[120]⟩ S Q 0 3 (by omega)
    rw [hX, wn] at b
    have b' : beI X 1 3 = n := b
    rw [b'] at e
    exact e
  have g2 : getV X 4 3 = (m, true) := by
    have e := getV_yes X (1 + 3) 3 (by omega) (by omega) (by omega)
    have b := beI_end ((⟨#[120]⟩ : ByteArray) ++ S) Q 0 3 (by omega)
    rw [hX, wm] at b
    have z : ((⟨#[120]⟩ : ByteArray) ++ S).size + 0 = 1 + 3 := by rw [ByteArray.size_append, sS]; rfl
    rw [z] at b
    rw [b] at e
    exact e
  have G1 := Aside0.mk g1; have G2 := Aside0.mk g2
  have ZX : Aside0 (X.size ≤ 1000000000000000) := ⟨by omega⟩
  clear g1 g2 zX wn wm fm
  have PN := Aside0.mk pn; have PM := Aside0.mk pm; have N0 := Aside0.mk n0; have N1 := Aside0.mk n1; have M0 := Aside0.mk m0; have M1 := Aside0.mk m1
  clear pn pm p8 fn hS
  go_enter Try.func4, Try.ntmps4
  go_wp2_with (first | (go_at_call 8; (with_reducible refine (examples_c _).mono ?_); rintro e w1 ⟨rfl, hb⟩; have n0_ := Aside0.mk (below_step (by repeat (first | (with_reducible first | exact HB.out | apply below_alloc | apply pw_below_drewN | apply below_drew1) | exact HB.out)) hb); clear HB; have HB := n0_; clear n0_) | (go_at_call 9; (with_reducible refine (put_at _ n _ _ _ PN.out N0.out N1.out).mono ?_); rintro e w1 ⟨rfl, hb⟩; have n0_ := Aside0.mk (below_step (by repeat (first | (with_reducible first | exact HB.out | apply below_alloc | apply pw_below_drewN | apply below_drew1) | exact HB.out)) hb); clear HB; have HB := n0_; clear n0_) | (go_at_call 9; (with_reducible refine (put_at _ m _ _ _ PM.out M0.out M1.out).mono ?_); rintro e w1 ⟨rfl, hb⟩; have n0_ := Aside0.mk (below_step (by repeat (first | (with_reducible first | exact HB.out | apply below_alloc | apply pw_below_drewN | apply below_drew1) | exact HB.out)) hb); clear HB; have HB := n0_; clear n0_) | (go_at_call 11; (with_reducible refine (get_at _ _ _ _ _ _ G1.out ZX.out).mono ?_); rintro e w1 ⟨rfl, hb⟩; have n0_ := Aside0.mk (below_step (by repeat (first | (with_reducible first | exact HB.out | apply below_alloc | apply pw_below_drewN | apply below_drew1) | exact HB.out)) hb); clear HB; have HB := n0_; clear n0_) | (go_at_call 11; (with_reducible refine (get_at _ _ _ _ _ _ G2.out ZX.out).mono ?_); rintro e w1 ⟨rfl, hb⟩; have n0_ := Aside0.mk (below_step (by repeat (first | (with_reducible first | exact HB.out | apply below_alloc | apply pw_below_drewN | apply below_drew1) | exact HB.out)) hb); clear HB; have HB := n0_; clear n0_))
  go_ret
  exact ⟨rfl, (by repeat (first | (with_reducible first | exact HB.out | apply below_alloc | apply pw_below_drewN | apply below_drew1) | exact HB.out))⟩
set_option maxHeartbeats 1000000 in
set_option maxRecDepth 100000 in
theorem back_3_B (n m width : Int) (w : World) (n0 : 0 ≤ n) (n1 : n ≤ 18446744073709551615) (m0 : 0 ≤ m) (m1 : m ≤ 18446744073709551615) (d0 : 0 ≤ width) (e1 : width % 8 = 2) (hn : n < 16777216) (hm : 16777216 ≤ m) :
    Calls Try.prog 4 #[.int .u64 n, .int .u64 m, .int .u8 width] w fun e w' => e = .returned (.bool true) ∧ Below w.heap.size w w' := by
  have HB := Aside0.mk (Below.refl w.heap.size w)
  have p8 : (256 : Int) ^ 3 = 16777216 := by decide
  have fn : n / 256 ^ 3 = 0 := by rw [p8]; omega
  have pn : putV 3 n = (strOfNums (dg 3 n), true) := putV_yes 3 n (by omega) (by omega) fn
  obtain ⟨S, hS⟩ : ∃ S, strOfNums (dg 3 n) = S := ⟨_, rfl⟩
  rw [hS] at pn
  have fm : ¬ m / 256 ^ 3 = 0 := by rw [p8]; omega
  have pm : putV 3 m = (⟨#[]⟩, false) := putV_nope 3 m fm
  clear fm
  have PN := Aside0.mk pn; have PM := Aside0.mk pm; have N0 := Aside0.mk n0; have N1 := Aside0.mk n1; have M0 := Aside0.mk m0; have M1 := Aside0.mk m1
  clear pn pm p8 fn hS
  go_enter Try.func4, Try.ntmps4
  go_wp2_with (first | (go_at_call 8; (with_reducible refine (examples_c _).mono ?_); rintro e w1 ⟨rfl, hb⟩; have n0_ := Aside0.mk (below_step (by repeat (first | (with_reducible first | exact HB.out | apply below_alloc | apply pw_below_drewN | apply below_drew1) | exact HB.out)) hb); clear HB; have HB := n0_; clear n0_) | (go_at_call 9; (with_reducible refine (put_at _ n _ _ _ PN.out N0.out N1.out).mono ?_); rintro e w1 ⟨rfl, hb⟩; have n0_ := Aside0.mk (below_step (by repeat (first | (with_reducible first | exact HB.out | apply below_alloc | apply pw_below_drewN | apply below_drew1) | exact HB.out)) hb); clear HB; have HB := n0_; clear n0_) | (go_at_call 9; (with_reducible refine (put_at _ m _ _ _ PM.out M0.out M1.out).mono ?_); rintro e w1 ⟨rfl, hb⟩; have n0_ := Aside0.mk (below_step (by repeat (first | (with_reducible first | exact HB.out | apply below_alloc | apply pw_below_drewN | apply below_drew1) | exact HB.out)) hb); clear HB; have HB := n0_; clear n0_))
  go_ret
  exact ⟨rfl, (by repeat (first | (with_reducible first | exact HB.out | apply below_alloc | apply pw_below_drewN | apply below_drew1) | exact HB.out))⟩
end Go.Proofs.Ytdihnjcplhlhkaa.Hand
