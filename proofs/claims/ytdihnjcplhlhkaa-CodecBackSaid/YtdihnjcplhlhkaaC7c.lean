/- CodecBack: the walks, a third of them. -/
import Derived.Test.YtdihnjcplhlhkaaC6
import Derived.OpenShut
set_option linter.unusedVariables false
namespace Go.Proofs.Ytdihnjcplhlhkaa.Hand
open Go.RowKit Go.Proofs.Ytdihnjcplhlhkaa.PCodecTells Go.Proofs.YtdihnjcplhlhkaaW.PrintWords Go.Proofs.YtdihnjcplhlhkaaW.PrintLast Go.Proofs.YtdihnjcplhlhkaaW.PrintMore
set_option maxHeartbeats 1000000 in
set_option maxRecDepth 100000 in
theorem back_6_B (n m width : Int) (w : World) (n0 : 0 ≤ n) (n1 : n ≤ 18446744073709551615) (m0 : 0 ≤ m) (m1 : m ≤ 18446744073709551615) (d0 : 0 ≤ width) (e1 : width % 8 = 5) (hn : n < 281474976710656) (hm : 281474976710656 ≤ m) :
    Calls Try.prog 4 #[.int .u64 n, .int .u64 m, .int .u8 width] w fun e w' => e = .returned (.bool true) ∧ Below w.heap.size w w' := by
  have HB := Aside0.mk (Below.refl w.heap.size w)
  have p8 : (256 : Int) ^ 6 = 281474976710656 := by decide
  have fn : n / 256 ^ 6 = 0 := by rw [p8]; omega
  have pn : putV 6 n = (strOfNums (dg 6 n), true) := putV_yes 6 n (by omega) (by omega) fn
  obtain ⟨S, hS⟩ : ∃ S, strOfNums (dg 6 n) = S := ⟨_, rfl⟩
  rw [hS] at pn
  have fm : ¬ m / 256 ^ 6 = 0 := by rw [p8]; omega
  have pm : putV 6 m = (⟨#[]⟩, false) := putV_nope 6 m fm
  clear fm
  have PN := Aside0.mk pn; have PM := Aside0.mk pm; have N0 := Aside0.mk n0; have N1 := Aside0.mk n1; have M0 := Aside0.mk m0; have M1 := Aside0.mk m1
  clear pn pm p8 fn hS
  go_enter Try.func4, Try.ntmps4
  go_wp2_with (first | (go_at_call 8; (with_reducible refine (examples_c _).mono ?_); rintro e w1 ⟨rfl, hb⟩; have n0_ := Aside0.mk (below_step (by repeat (first | (with_reducible first | exact HB.out | apply below_alloc | apply pw_below_drewN | apply below_drew1) | exact HB.out)) hb); clear HB; have HB := n0_; clear n0_) | (go_at_call 9; (with_reducible refine (put_at _ n _ _ _ PN.out N0.out N1.out).mono ?_); rintro e w1 ⟨rfl, hb⟩; have n0_ := Aside0.mk (below_step (by repeat (first | (with_reducible first | exact HB.out | apply below_alloc | apply pw_below_drewN | apply below_drew1) | exact HB.out)) hb); clear HB; have HB := n0_; clear n0_) | (go_at_call 9; (with_reducible refine (put_at _ m _ _ _ PM.out M0.out M1.out).mono ?_); rintro e w1 ⟨rfl, hb⟩; have n0_ := Aside0.mk (below_step (by repeat (first | (with_reducible first | exact HB.out | apply below_alloc | apply pw_below_drewN | apply below_drew1) | exact HB.out)) hb); clear HB; have HB := n0_; clear n0_))
  go_ret
  exact ⟨rfl, (by repeat (first | (with_reducible first | exact HB.out | apply below_alloc | apply pw_below_drewN | apply below_drew1) | exact HB.out))⟩
set_option maxHeartbeats 1000000 in
set_option maxRecDepth 100000 in
theorem back_6_C (n m width : Int) (w : World) (n0 : 0 ≤ n) (n1 : n ≤ 18446744073709551615) (m0 : 0 ≤ m) (m1 : m ≤ 18446744073709551615) (d0 : 0 ≤ width) (e1 : width % 8 = 5) (hn : 281474976710656 ≤ n) :
    Calls Try.prog 4 #[.int .u64 n, .int .u64 m, .int .u8 width] w fun e w' => e = .returned (.bool true) ∧ Below w.heap.size w w' := by
  have HB := Aside0.mk (Below.refl w.heap.size w)
  have p8 : (256 : Int) ^ 6 = 281474976710656 := by decide
  have fn : ¬ n / 256 ^ 6 = 0 := by rw [p8]; omega
  have pn : putV 6 n = (⟨#[]⟩, false) := putV_nope 6 n fn
  obtain ⟨Q, c, pm⟩ : ∃ Q c, putV 6 m = (Q, c) := ⟨_, _, rfl⟩
  have PN := Aside0.mk pn; have PM := Aside0.mk pm; have N0 := Aside0.mk n0; have N1 := Aside0.mk n1; have M0 := Aside0.mk m0; have M1 := Aside0.mk m1
  clear pn pm p8 fn
  go_enter Try.func4, Try.ntmps4
  go_wp2_with (first | (go_at_call 8; (with_reducible refine (examples_c _).mono ?_); rintro e w1 ⟨rfl, hb⟩; have n0_ := Aside0.mk (below_step (by repeat (first | (with_reducible first | exact HB.out | apply below_alloc | apply pw_below_drewN | apply below_drew1) | exact HB.out)) hb); clear HB; have HB := n0_; clear n0_) | (go_at_call 9; (with_reducible refine (put_at _ n _ _ _ PN.out N0.out N1.out).mono ?_); rintro e w1 ⟨rfl, hb⟩; have n0_ := Aside0.mk (below_step (by repeat (first | (with_reducible first | exact HB.out | apply below_alloc | apply pw_below_drewN | apply below_drew1) | exact HB.out)) hb); clear HB; have HB := n0_; clear n0_) | (go_at_call 9; (with_reducible refine (put_at _ m _ _ _ PM.out M0.out M1.out).mono ?_); rintro e w1 ⟨rfl, hb⟩; have n0_ := Aside0.mk (below_step (by repeat (first | (with_reducible first | exact HB.out | apply below_alloc | apply pw_below_drewN | apply below_drew1) | exact HB.out)) hb); clear HB; have HB := n0_; clear n0_))
  all_goals go_ret
  all_goals exact ⟨by first | rfl | (simp; omega), (by repeat (first | (with_reducible first | exact HB.out | apply below_alloc | apply pw_below_drewN | apply below_drew1) | exact HB.out))⟩
set_option maxHeartbeats 1000000 in
set_option maxRecDepth 100000 in
theorem back_7_A (n m width : Int) (w : World) (n0 : 0 ≤ n) (n1 : n ≤ 18446744073709551615) (m0 : 0 ≤ m) (m1 : m ≤ 18446744073709551615) (d0 : 0 ≤ width) (e1 : width % 8 = 6) (hn : n < 72057594037927936) (hm : m < 72057594037927936) :
    Calls Try.prog 4 #[.int .u64 n, .int .u64 m, .int .u8 width] w fun e w' => e = .returned (.bool true) ∧ Below w.heap.size w w' := by
  have HB := Aside0.mk (Below.refl w.heap.size w)
  have p8 : (256 : Int) ^ 7 = 72057594037927936 := by decide
  have fn : n / 256 ^ 7 = 0 := by rw [p8]; omega
  have pn : putV 7 n = (strOfNums (dg 7 n), true) := putV_yes 7 n (by omega) (by omega) fn
  obtain ⟨S, hS⟩ : ∃ S, strOfNums (dg 7 n) = S := ⟨_, rfl⟩
  have wn := beI_whole n n0 7 fn
  rw [hS] at wn
  have sS : S.size = 7 := by rw [← hS, str_size, dg_len]
  rw [hS] at pn
  have fm : m / 256 ^ 7 = 0 := by rw [p8]; omega
  have pm : putV 7 m = (strOfNums (dg 7 m), true) := putV_yes 7 m (by omega) (by omega) fm
  have lw := less_put n m n0 m0 7 fn fm
  have sw := same_put n m n0 m0 7 fn fm
  obtain ⟨Q, hQ⟩ : ∃ Q, strOfNums (dg 7 m) = Q := ⟨_, rfl⟩
  have wm := beI_whole m m0 7 fm
  rw [hQ] at wm
  have sQ : Q.size = 7 := by rw [← hQ, str_size, dg_len]
  rw [hQ] at pm
  rw [hS, hQ] at lw sw
  clear hQ
  have sw' : (S.toList == Q.toList) = (n == m) := by rw [sw]; rfl
  clear sw
  obtain ⟨X, hX⟩ : ∃ X, (⟨#[120]⟩ : ByteArray) ++ S ++ Q = X := ⟨_, rfl⟩
  have zX : X.size = 1 + 7 + 7 := by rw [← hX, ByteArray.size_append, ByteArray.size_append, sS, sQ]; rfl
  have g1 : getV X 1 7 = (n, true) := by
    have e := getV_yes X 1 7 (by omega) (by omega) (by omega)
    have b := beI_mid ⟨#[120]⟩ S Q 0 7 (by omega)
    rw [hX, wn] at b
    have b' : beI X 1 7 = n := b
    rw [b'] at e
    exact e
  have g2 : getV X 8 7 = (m, true) := by
    have e := getV_yes X (1 + 7) 7 (by omega) (by omega) (by omega)
    have b := beI_end ((⟨#[120]⟩ : ByteArray) ++ S) Q 0 7 (by omega)
    rw [hX, wm] at b
    have z : ((⟨#[120]⟩ : ByteArray) ++ S).size + 0 = 1 + 7 := by rw [ByteArray.size_append, sS]; rfl
    rw [z] at b
    rw [b] at e
    exact e
  have G1 := Aside0.mk g1; have G2 := Aside0.mk g2
  have ZX : Aside0 (X.size ≤ 1000000000000000) := ⟨by omega⟩
  clear g1 g2 zX wn wm fm
  have PN := Aside0.mk pn; have PM := Aside0.mk pm; have N0 := Aside0.mk n0; have N1 := Aside0.mk n1; have M0 := Aside0.mk m0; have M1 := Aside0.mk m1
  clear pn pm p8 fn hS
  go_enter Try.func4, Try.ntmps4
  go_wp2_with (first | (go_at_call 8; (with_reducible refine (examples_c _).mono ?_); rintro e w1 ⟨rfl, hb⟩; have n0_ := Aside0.mk (below_step (by repeat (first | (with_reducible first | exact HB.out | apply below_alloc | apply pw_below_drewN | apply below_drew1) | exact HB.out)) hb); clear HB; have HB := n0_; clear n0_) | (go_at_call 9; (with_reducible refine (put_at _ n _ _ _ PN.out N0.out N1.out).mono ?_); rintro e w1 ⟨rfl, hb⟩; have n0_ := Aside0.mk (below_step (by repeat (first | (with_reducible first | exact HB.out | apply below_alloc | apply pw_below_drewN | apply below_drew1) | exact HB.out)) hb); clear HB; have HB := n0_; clear n0_) | (go_at_call 9; (with_reducible refine (put_at _ m _ _ _ PM.out M0.out M1.out).mono ?_); rintro e w1 ⟨rfl, hb⟩; have n0_ := Aside0.mk (below_step (by repeat (first | (with_reducible first | exact HB.out | apply below_alloc | apply pw_below_drewN | apply below_drew1) | exact HB.out)) hb); clear HB; have HB := n0_; clear n0_) | (go_at_call 11; (with_reducible refine (get_at _ _ _ _ _ _ G1.out ZX.out).mono ?_); rintro e w1 ⟨rfl, hb⟩; have n0_ := Aside0.mk (below_step (by repeat (first | (with_reducible first | exact HB.out | apply below_alloc | apply pw_below_drewN | apply below_drew1) | exact HB.out)) hb); clear HB; have HB := n0_; clear n0_) | (go_at_call 11; (with_reducible refine (get_at _ _ _ _ _ _ G2.out ZX.out).mono ?_); rintro e w1 ⟨rfl, hb⟩; have n0_ := Aside0.mk (below_step (by repeat (first | (with_reducible first | exact HB.out | apply below_alloc | apply pw_below_drewN | apply below_drew1) | exact HB.out)) hb); clear HB; have HB := n0_; clear n0_))
  go_ret
  exact ⟨rfl, (by repeat (first | (with_reducible first | exact HB.out | apply below_alloc | apply pw_below_drewN | apply below_drew1) | exact HB.out))⟩
set_option maxHeartbeats 1000000 in
set_option maxRecDepth 100000 in
theorem back_7_B (n m width : Int) (w : World) (n0 : 0 ≤ n) (n1 : n ≤ 18446744073709551615) (m0 : 0 ≤ m) (m1 : m ≤ 18446744073709551615) (d0 : 0 ≤ width) (e1 : width % 8 = 6) (hn : n < 72057594037927936) (hm : 72057594037927936 ≤ m) :
    Calls Try.prog 4 #[.int .u64 n, .int .u64 m, .int .u8 width] w fun e w' => e = .returned (.bool true) ∧ Below w.heap.size w w' := by
  have HB := Aside0.mk (Below.refl w.heap.size w)
  have p8 : (256 : Int) ^ 7 = 72057594037927936 := by decide
  have fn : n / 256 ^ 7 = 0 := by rw [p8]; omega
  have pn : putV 7 n = (strOfNums (dg 7 n), true) := putV_yes 7 n (by omega) (by omega) fn
  obtain ⟨S, hS⟩ : ∃ S, strOfNums (dg 7 n) = S := ⟨_, rfl⟩
  rw [hS] at pn
  have fm : ¬ m / 256 ^ 7 = 0 := by rw [p8]; omega
  have pm : putV 7 m = (⟨#[]⟩, false) := putV_nope 7 m fm
  clear fm
  have PN := Aside0.mk pn; have PM := Aside0.mk pm; have N0 := Aside0.mk n0; have N1 := Aside0.mk n1; have M0 := Aside0.mk m0; have M1 := Aside0.mk m1
  clear pn pm p8 fn hS
  go_enter Try.func4, Try.ntmps4
  go_wp2_with (first | (go_at_call 8; (with_reducible refine (examples_c _).mono ?_); rintro e w1 ⟨rfl, hb⟩; have n0_ := Aside0.mk (below_step (by repeat (first | (with_reducible first | exact HB.out | apply below_alloc | apply pw_below_drewN | apply below_drew1) | exact HB.out)) hb); clear HB; have HB := n0_; clear n0_) | (go_at_call 9; (with_reducible refine (put_at _ n _ _ _ PN.out N0.out N1.out).mono ?_); rintro e w1 ⟨rfl, hb⟩; have n0_ := Aside0.mk (below_step (by repeat (first | (with_reducible first | exact HB.out | apply below_alloc | apply pw_below_drewN | apply below_drew1) | exact HB.out)) hb); clear HB; have HB := n0_; clear n0_) | (go_at_call 9; (with_reducible refine (put_at _ m _ _ _ PM.out M0.out M1.out).mono ?_); rintro e w1 ⟨rfl, hb⟩; have n0_ := Aside0.mk (below_step (by repeat (first | (with_reducible first | exact HB.out | apply below_alloc | apply pw_below_drewN | apply below_drew1) | exact HB.out)) hb); clear HB; have HB := n0_; clear n0_))
  go_ret
  exact ⟨rfl, (by repeat (first | (with_reducible first | exact HB.out | apply below_alloc | apply pw_below_drewN | apply below_drew1) | exact HB.out))⟩
set_option maxHeartbeats 1000000 in
set_option maxRecDepth 100000 in
theorem back_7_C (n m width : Int) (w : World) (n0 : 0 ≤ n) (n1 : n ≤ 18446744073709551615) (m0 : 0 ≤ m) (m1 : m ≤ 18446744073709551615) (d0 : 0 ≤ width) (e1 : width % 8 = 6) (hn : 72057594037927936 ≤ n) :
    Calls Try.prog 4 #[.int .u64 n, .int .u64 m, .int .u8 width] w fun e w' => e = .returned (.bool true) ∧ Below w.heap.size w w' := by
  have HB := Aside0.mk (Below.refl w.heap.size w)
  have p8 : (256 : Int) ^ 7 = 72057594037927936 := by decide
  have fn : ¬ n / 256 ^ 7 = 0 := by rw [p8]; omega
  have pn : putV 7 n = (⟨#[]⟩, false) := putV_nope 7 n fn
  obtain ⟨Q, c, pm⟩ : ∃ Q c, putV 7 m = (Q, c) := ⟨_, _, rfl⟩
  have PN := Aside0.mk pn; have PM := Aside0.mk pm; have N0 := Aside0.mk n0; have N1 := Aside0.mk n1; have M0 := Aside0.mk m0; have M1 := Aside0.mk m1
  clear pn pm p8 fn
  go_enter Try.func4, Try.ntmps4
  go_wp2_with (first | (go_at_call 8; (with_reducible refine (examples_c _).mono ?_); rintro e w1 ⟨rfl, hb⟩; have n0_ := Aside0.mk (below_step (by repeat (first | (with_reducible first | exact HB.out | apply below_alloc | apply pw_below_drewN | apply below_drew1) | exact HB.out)) hb); clear HB; have HB := n0_; clear n0_) | (go_at_call 9; (with_reducible refine (put_at _ n _ _ _ PN.out N0.out N1.out).mono ?_); rintro e w1 ⟨rfl, hb⟩; have n0_ := Aside0.mk (below_step (by repeat (first | (with_reducible first | exact HB.out | apply below_alloc | apply pw_below_drewN | apply below_drew1) | exact HB.out)) hb); clear HB; have HB := n0_; clear n0_) | (go_at_call 9; (with_reducible refine (put_at _ m _ _ _ PM.out M0.out M1.out).mono ?_); rintro e w1 ⟨rfl, hb⟩; have n0_ := Aside0.mk (below_step (by repeat (first | (with_reducible first | exact HB.out | apply below_alloc | apply pw_below_drewN | apply below_drew1) | exact HB.out)) hb); clear HB; have HB := n0_; clear n0_))
  all_goals go_ret
  all_goals exact ⟨by first | rfl | (simp; omega), (by repeat (first | (with_reducible first | exact HB.out | apply below_alloc | apply pw_below_drewN | apply below_drew1) | exact HB.out))⟩
set_option maxHeartbeats 1000000 in
set_option maxRecDepth 100000 in
theorem back_8_A (n m width : Int) (w : World) (n0 : 0 ≤ n) (n1 : n ≤ 18446744073709551615) (m0 : 0 ≤ m) (m1 : m ≤ 18446744073709551615) (d0 : 0 ≤ width) (e1 : width % 8 = 7)  :
    Calls Try.prog 4 #[.int .u64 n, .int .u64 m, .int .u8 width] w fun e w' => e = .returned (.bool true) ∧ Below w.heap.size w w' := by
  have HB := Aside0.mk (Below.refl w.heap.size w)
  have p8 : (256 : Int) ^ 8 = 18446744073709551616 := by decide
  have fn : n / 256 ^ 8 = 0 := by rw [p8]; omega
  have pn : putV 8 n = (strOfNums (dg 8 n), true) := putV_yes 8 n (by omega) (by omega) fn
  obtain ⟨S, hS⟩ : ∃ S, strOfNums (dg 8 n) = S := ⟨_, rfl⟩
  have wn := beI_whole n n0 8 fn
  rw [hS] at wn
  have sS : S.size = 8 := by rw [← hS, str_size, dg_len]
  rw [hS] at pn
  have fm : m / 256 ^ 8 = 0 := by rw [p8]; omega
  have pm : putV 8 m = (strOfNums (dg 8 m), true) := putV_yes 8 m (by omega) (by omega) fm
  have lw := less_put n m n0 m0 8 fn fm
  have sw := same_put n m n0 m0 8 fn fm
  obtain ⟨Q, hQ⟩ : ∃ Q, strOfNums (dg 8 m) = Q := ⟨_, rfl⟩
  have wm := beI_whole m m0 8 fm
  rw [hQ] at wm
  have sQ : Q.size = 8 := by rw [← hQ, str_size, dg_len]
  rw [hQ] at pm
  rw [hS, hQ] at lw sw
  clear hQ
  have sw' : (S.toList == Q.toList) = (n == m) := by rw [sw]; rfl
  clear sw
  obtain ⟨X, hX⟩ : ∃ X, (⟨#[120]⟩ : ByteArray) ++ S ++ Q = X := ⟨_, rfl⟩
  have zX : X.size = 1 + 8 + 8 := by rw [← hX, ByteArray.size_append, ByteArray.size_append, sS, sQ]; rfl
  have g1 : getV X 1 8 = (n, true) := by
    have e := getV_yes X 1 8 (by omega) (by omega) (by omega)
    have b := beI_mid ⟨#[120]⟩ S Q 0 8 (by omega)
    rw [hX, wn] at b
    have b' : beI X 1 8 = n := b
    rw [b'] at e
    exact e
  have g2 : getV X 9 8 = (m, true) := by
    have e := getV_yes X (1 + 8) 8 (by omega) (by omega) (by omega)
    have b := beI_end ((⟨#[120]⟩ : ByteArray) ++ S) Q 0 8 (by omega)
    rw [hX, wm] at b
    have z : ((⟨#[120]⟩ : ByteArray) ++ S).size + 0 = 1 + 8 := by rw [ByteArray.size_append, sS]; rfl
    rw [z] at b
    rw [b] at e
    exact e
  have G1 := Aside0.mk g1; have G2 := Aside0.mk g2
  have ZX : Aside0 (X.size ≤ 1000000000000000) := ⟨by omega⟩
  clear g1 g2 zX wn wm fm
  have PN := Aside0.mk pn; have PM := Aside0.mk pm; have N0 := Aside0.mk n0; have N1 := Aside0.mk n1; have M0 := Aside0.mk m0; have M1 := Aside0.mk m1
  clear pn pm p8 fn hS
  go_enter Try.func4, Try.ntmps4
  go_wp2_with (first | (go_at_call 8; (with_reducible refine (examples_c _).mono ?_); rintro e w1 ⟨rfl, hb⟩; have n0_ := Aside0.mk (below_step (by repeat (first | (with_reducible first | exact HB.out | apply below_alloc | apply pw_below_drewN | apply below_drew1) | exact HB.out)) hb); clear HB; have HB := n0_; clear n0_) | (go_at_call 9; (with_reducible refine (put_at _ n _ _ _ PN.out N0.out N1.out).mono ?_); rintro e w1 ⟨rfl, hb⟩; have n0_ := Aside0.mk (below_step (by repeat (first | (with_reducible first | exact HB.out | apply below_alloc | apply pw_below_drewN | apply below_drew1) | exact HB.out)) hb); clear HB; have HB := n0_; clear n0_) | (go_at_call 9; (with_reducible refine (put_at _ m _ _ _ PM.out M0.out M1.out).mono ?_); rintro e w1 ⟨rfl, hb⟩; have n0_ := Aside0.mk (below_step (by repeat (first | (with_reducible first | exact HB.out | apply below_alloc | apply pw_below_drewN | apply below_drew1) | exact HB.out)) hb); clear HB; have HB := n0_; clear n0_) | (go_at_call 11; (with_reducible refine (get_at _ _ _ _ _ _ G1.out ZX.out).mono ?_); rintro e w1 ⟨rfl, hb⟩; have n0_ := Aside0.mk (below_step (by repeat (first | (with_reducible first | exact HB.out | apply below_alloc | apply pw_below_drewN | apply below_drew1) | exact HB.out)) hb); clear HB; have HB := n0_; clear n0_) | (go_at_call 11; (with_reducible refine (get_at _ _ _ _ _ _ G2.out ZX.out).mono ?_); rintro e w1 ⟨rfl, hb⟩; have n0_ := Aside0.mk (below_step (by repeat (first | (with_reducible first | exact HB.out | apply below_alloc | apply pw_below_drewN | apply below_drew1) | exact HB.out)) hb); clear HB; have HB := n0_; clear n0_))
  go_ret
  exact ⟨rfl, (by repeat (first | (with_reducible first | exact HB.out | apply below_alloc | apply pw_below_drewN | apply below_drew1) | exact HB.out))⟩
end Go.Proofs.Ytdihnjcplhlhkaa.Hand
