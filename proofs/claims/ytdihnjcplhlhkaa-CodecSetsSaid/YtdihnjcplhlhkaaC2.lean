/- Package codec's Get, Set, GetInt and Int in a closed form; so the reference's. -/
import Derived.Test.YtdihnjcplhlhkaaC1
set_option linter.unusedVariables false
namespace Go.Proofs.Ytdihnjcplhlhkaa.Hand
open Go.RowKit Go.Proofs.Ytdihnjcplhlhkaa.PCodecTells Go.Proofs.YtdihnjcplhlhkaaW.PrintWords Go.Proofs.YtdihnjcplhlhkaaW.PrintLast Go.Proofs.YtdihnjcplhlhkaaW.PrintMore

def getV (s : ByteArray) (a n : Int) : Int × Bool := if n < 1 then (0, false) else if 8 < n then (0, false) else if a < 0 then (0, false) else if s.size - n < a then (0, false) else (beI s a.toNat n.toNat, true)
theorem getV_no (s : ByteArray) (a n : Int) (h : n < 1 ∨ 8 < n ∨ a < 0 ∨ (1 ≤ n ∧ n ≤ 8 ∧ 0 ≤ a ∧ s.size - n < a)) : getV s a n = (0, false) := by
  unfold getV
  repeat' split
  all_goals first | rfl | omega
theorem get_c (s : ByteArray) (a n : Int) (w : World) (hs : s.size ≤ 1000000000000000) :
    Calls Try.prog 11 #[.string s, .int .i64 a, .int .i64 n] w fun e w' => e = .returned (.tuple #[.int .u64 (getV s a n).1, .bool (getV s a n).2]) ∧ Below w.heap.size w w' := by
  by_cases h : n < 1 ∨ 8 < n ∨ a < 0 ∨ (1 ≤ n ∧ n ≤ 8 ∧ 0 ≤ a ∧ s.size - n < a)
  · have e := getV_no s a n h
    rw [e]
    exact get_no s a n w hs h
  · obtain ⟨x, rfl⟩ := Int.eq_ofNat_of_zero_le (show 0 ≤ a by omega)
    obtain ⟨y, rfl⟩ := Int.eq_ofNat_of_zero_le (show 0 ≤ n by omega)
    have e : getV s x y = (beI s x y, true) := by
      unfold getV
      rw [if_neg (by omega), if_neg (by omega), if_neg (by omega), if_neg (by omega), Int.toNat_natCast, Int.toNat_natCast]
    rw [e]
    exact get_yes s x y w hs (by omega) (by omega) (by omega)
theorem beI_u64 (s : ByteArray) (a k : Nat) (h : k ≤ 8) : 0 ≤ beI s a k ∧ beI s a k ≤ 18446744073709551615 := by
  have h1 := beI_bd s a k
  have h2 := pow_mono256 h
  have e : (256 : Int) ^ 8 = 18446744073709551616 := by decide
  omega
theorem getV_u64 (s : ByteArray) (a n : Int) : 0 ≤ (getV s a n).1 ∧ (getV s a n).1 ≤ 18446744073709551615 := by
  unfold getV
  repeat' split
  all_goals first | exact beI_u64 _ _ _ (by omega) | (simp)
theorem rget_l0 (s : ByteArray) (hs : s.size ≤ 1000000000000000) (a n : Nat) (hn : n ≤ 8) (h4 : a + n ≤ s.size) : ∀ (d i k : Nat), i + d = n → d < k →
    jettisonref02_Get.l0 k s (a : Int) (n : Int) (beI s a i) (i : Int) = some (beI s a n, true) := by
  intro d
  induction d with
  | zero =>
    intro i k hi hk
    obtain ⟨k, rfl⟩ : ∃ m, k = m + 1 := ⟨k - 1, by omega⟩
    obtain rfl : i = n := by omega
    simp only [jettisonref02_Get.l0]
    rw [if_neg (by omega)]
  | succ d ih =>
    intro i k hi hk
    obtain ⟨k, rfl⟩ : ∃ m, k = m + 1 := ⟨k - 1, by omega⟩
    have hb := bt_range s ((a + i : Nat) : Int)
    have h1 := beI_72 s a i (by omega)
    have e1 : wrap64 ((a : Int) + (i : Int)) = ((a + i : Nat) : Int) := by rw [w_id (by omega) (by omega)]; omega
    have e3 : wrap64 ((i : Int) + 1) = ((i + 1 : Nat) : Int) := by rw [w_id (by omega) (by omega)]; omega
    simp only [jettisonref02_Get.l0]
    rw [if_pos (by omega), e1, if_pos (by omega), if_pos (by omega), u_id (x := bt s ((a + i : Nat) : Int)) (by omega) (by omega), u_id (x := beI s a i * 256) (by omega) (by omega), u_id (by omega) (by omega), e3]
    exact ih (i + 1) k (by omega) (by omega)
theorem rget_f (s : ByteArray) (hs : s.size ≤ 1000000000000000) (a n : Int) (ha : -9223372036854775808 ≤ a) : jettisonref02_Get.f 12 s a n = some (getV s a n) := by
  unfold jettisonref02_Get.f getV
  by_cases h1 : n < 1
  · rw [if_pos h1, if_pos h1]; rfl
  rw [if_neg h1, if_neg h1]
  by_cases h2 : 8 < n
  · rw [if_pos h2, if_pos h2]; rfl
  rw [if_neg h2, if_neg h2]
  by_cases h3 : a < 0
  · rw [if_pos h3, if_pos h3]; rfl
  rw [if_neg h3, if_neg h3]
  by_cases h4 : a > (s.size : Int)
  · rw [if_pos h4, if_pos (by omega)]; rfl
  rw [if_neg h4, w_id (by omega) (by omega)]
  by_cases h5 : (s.size : Int) - n < a
  · rw [if_pos h5, decide_eq_true (by omega)]; rfl
  rw [if_neg h5, decide_eq_false (by omega)]
  obtain ⟨x, rfl⟩ := Int.eq_ofNat_of_zero_le (show 0 ≤ a by omega)
  obtain ⟨y, rfl⟩ := Int.eq_ofNat_of_zero_le (show 0 ≤ n by omega)
  rw [Int.toNat_natCast, Int.toNat_natCast]
  exact rget_l0 s hs x y (by omega) (by omega) y 0 11 (by omega) (by omega)

def setV (s : ByteArray) (a n x : Int) : ByteArray × Bool := if (putV n x).2 = true ∧ (getV s a n).2 = true then ((s.extract 0 a.toNat ++ (putV n x).1) ++ s.extract (a + n).toNat s.size, true) else (⟨#[]⟩, false)
theorem putV_size (n x : Int) : (putV n x).1.size ≤ 8 := by
  unfold putV
  repeat' split
  all_goals first | (rw [str_size, dg_len]; omega) | (show 0 ≤ 8; omega)
theorem rset_f (s : ByteArray) (hs : s.size ≤ 1000000000000000) (a n x : Int) (ha : -9223372036854775808 ≤ a) (h0 : 0 ≤ x) (h1 : x ≤ 18446744073709551615) : jettisonref02_Set.f 12 s a n x = some (setV s a n x) := by
  have hp := putV_size n x
  unfold jettisonref02_Set.f setV
  rw [rput_f n x h0 h1, rget_f s hs a n ha]
  simp only [Option.bind_some]
  by_cases c1 : (putV n x).2 = true
  · by_cases c2 : (getV s a n).2 = true
    · have hb : 1 ≤ n ∧ n ≤ 8 ∧ 0 ≤ a ∧ a ≤ s.size - n := by
        unfold getV at c2
        repeat' split at c2
        all_goals first | (simp at c2; done) | omega
      have e1 : wrap64 (a + n) = a + n := w_id (by omega) (by omega)
      rw [if_pos (And.intro c1 c2), if_pos c1, if_pos c2, if_pos (by omega), if_pos (by omega), if_pos (by rw [ByteArray.size_extract]; omega), e1, if_pos (by omega), if_pos (by omega), if_pos (by rw [ByteArray.size_append, ByteArray.size_extract, ByteArray.size_extract]; omega)]
    · rw [if_pos c1, if_neg c2, if_neg (fun h => c2 h.2)]
  · rw [if_neg c1, if_neg (fun h => c1 h.1)]
theorem rput_c (w n : Int) (h0 : 0 ≤ n) (h1 : n ≤ 18446744073709551615) (W : World) : Calls Try.prog 10 #[.int .i64 w, .int .u64 n] W fun e w' => e = .returned (.tuple #[.string (putV w n).1, .bool (putV w n).2]) ∧ Below W.heap.size W w' :=
  jettisonref02_Put.calls 12 w n _ _ W (rput_f w n h0 h1)
theorem rget_c (s : ByteArray) (a n : Int) (w : World) (hs : s.size ≤ 1000000000000000) (ha : -9223372036854775808 ≤ a) :
    Calls Try.prog 12 #[.string s, .int .i64 a, .int .i64 n] w fun e w' => e = .returned (.tuple #[.int .u64 (getV s a n).1, .bool (getV s a n).2]) ∧ Drawn0 w w' :=
  jettisonref02_Get.calls 12 s a n _ _ w (rget_f s hs a n ha)
theorem rset_c (s : ByteArray) (a n x : Int) (w : World) (hs : s.size ≤ 1000000000000000) (ha : -9223372036854775808 ≤ a) (h0 : 0 ≤ x) (h1 : x ≤ 18446744073709551615) :
    Calls Try.prog 14 #[.string s, .int .i64 a, .int .i64 n, .int .u64 x] w fun e w' => e = .returned (.tuple #[.string (setV s a n x).1, .bool (setV s a n x).2]) ∧ Below w.heap.size w w' :=
  jettisonref02_Set.calls 12 s a n x _ _ w (rset_f s hs a n x ha h0 h1)
def intV (n : Int) : ByteArray := (putV 8 (IntKind.u64.wrap n)).1
theorem wrapU (n : Int) : 0 ≤ IntKind.u64.wrap n ∧ IntKind.u64.wrap n ≤ 18446744073709551615 := by rw [IntKind.wrap_u64]; omega
theorem int_c (n : Int) (w : World) : Calls Try.prog 17 #[.int .i64 n] w fun e w' => e = .returned (.string (intV n)) ∧ Below w.heap.size w w' :=
  codec_Int.calls 12 n _ w (by unfold codec_Int.f; rw [put_f 8 _ (wrapU n).1 (wrapU n).2]; rfl)
theorem rint_c (n : Int) (w : World) : Calls Try.prog 18 #[.int .i64 n] w fun e w' => e = .returned (.string (intV n)) ∧ Below w.heap.size w w' :=
  jettisonref02_Int.calls 12 n _ w (by unfold jettisonref02_Int.f; rw [rput_f 8 _ (wrapU n).1 (wrapU n).2]; rfl)
def gintV (s : ByteArray) (a : Int) : Int × Bool := (wrap64 (getV s a 8).1, (getV s a 8).2)
theorem rgint_c (s : ByteArray) (a : Int) (w : World) (hs : s.size ≤ 1000000000000000) (ha : -9223372036854775808 ≤ a) :
    Calls Try.prog 16 #[.string s, .int .i64 a] w fun e w' => e = .returned (.tuple #[.int .i64 (gintV s a).1, .bool (gintV s a).2]) ∧ Drawn0 w w' :=
  jettisonref02_GetInt.calls 12 s a _ _ w (by unfold jettisonref02_GetInt.f; rw [rget_f s hs a 8 ha]; rfl)
set_option maxHeartbeats 1000000 in
set_option maxRecDepth 100000 in
theorem gint_c (s : ByteArray) (a : Int) (w : World) (hs : s.size ≤ 1000000000000000) :
    Calls Try.prog 15 #[.string s, .int .i64 a] w fun e w' => e = .returned (.tuple #[.int .i64 (gintV s a).1, .bool (gintV s a).2]) ∧ Below w.heap.size w w' := by
  have HB := Aside0.mk (Below.refl w.heap.size w)
  obtain ⟨Y, b, hY⟩ : ∃ Y b, getV s a 8 = (Y, b) := ⟨_, _, rfl⟩
  have hG := get_c s a 8 w hs
  rw [hY] at hG
  have HG := Aside0.mk hG
  clear hG
  have hg : gintV s a = (wrap64 Y, b) := by unfold gintV; rw [hY]
  rw [hg]
  clear hY hg
  go_enter Try.func15, Try.ntmps15
  go_wp2_with (first | (go_at_call 11; (with_reducible refine (HG.out).mono ?_); rintro e w1 ⟨rfl, hb⟩; have n0_ := Aside0.mk (below_step (by repeat (first | (with_reducible first | exact HB.out | apply below_alloc | apply pw_below_drewN | apply below_drew1) | exact HB.out)) hb); clear HB; have HB := n0_; clear n0_))
  go_ret2
  exact ⟨rfl, (by repeat (first | (with_reducible first | exact HB.out | apply below_alloc | apply pw_below_drewN | apply below_drew1) | exact HB.out))⟩
set_option maxHeartbeats 1000000 in
set_option maxRecDepth 100000 in
theorem set_yes (s : ByteArray) (a n : Nat) (x : Int) (b : ByteArray) (w : World) (hs : s.size ≤ 1000000000000000) (h0 : 0 ≤ x) (h1 : x ≤ 18446744073709551615) (hb : putV n x = (b, true)) (hb8 : b.size ≤ 8) (n1 : 1 ≤ n) (n2 : n ≤ 8) (h4 : a + n ≤ s.size) :
    Calls Try.prog 13 #[.string s, .int .i64 a, .int .i64 n, .int .u64 x] w fun e w' => e = .returned (.tuple #[.string ((s.extract 0 a ++ b) ++ s.extract (a + n) s.size), .bool true]) ∧ Below w.heap.size w w' := by
  have HB := Aside0.mk (Below.refl w.heap.size w)
  have HP := Aside0.mk (put_c n x h0 h1)
  rw [hb] at HP
  clear hb
  have hs1 : ∀ W : World, (Instr.slice 9 (.string s) none (some (.int .i64 (a : Int))) none).run Try.prog W = .ok (.string (s.extract 0 a)) W := fun W => by rw [run_slice_string_h (P := Try.prog) W 9 s Try.underlying9 .i64 _ (by omega) (by omega), Int.toNat_natCast]
  have hs2 : ∀ W : World, (Instr.slice 9 (.string s) (some (.int .i64 ((a : Int) + (n : Int)))) none none).run Try.prog W = .ok (.string (s.extract (a + n) s.size)) W := fun W => by rw [run_slice_string_l (P := Try.prog) W 9 s Try.underlying9 .i64 _ (by omega) (by omega), show ((a : Int) + (n : Int)).toNat = a + n from by omega]
  obtain ⟨X, hX⟩ : ∃ X, s.extract 0 a = X := ⟨_, rfl⟩
  obtain ⟨Y, hY⟩ : ∃ Y, s.extract (a + n) s.size = Y := ⟨_, rfl⟩
  have zX : X.size ≤ 1000000000000000 := by rw [← hX, ByteArray.size_extract]; omega
  have zY : Y.size ≤ 1000000000000000 := by rw [← hY, ByteArray.size_extract]; omega
  rw [hX] at hs1 ⊢
  rw [hY] at hs2 ⊢
  clear hX hY
  have z1 : X.size + b.size ≤ 9223372036854775807 := by omega
  have z2 : (X ++ b).size + Y.size ≤ 9223372036854775807 := by rw [ByteArray.size_append]; omega
  have b1 : (0 : Int) ≤ (a : Int) := by omega
  have b2 : (a : Int) + (n : Int) ≤ (s.size : Int) := by omega
  have HS := Aside0.mk hs
  have HB1 := Aside0.mk (And.intro n1 (And.intro n2 h4))
  go_enter Try.func13, Try.ntmps13
  go_wp2_with (first | (go_at_call 9; (with_reducible refine (HP.out _).mono ?_); rintro e w1 ⟨rfl, hb⟩; have n0_ := Aside0.mk (below_step (by repeat (first | (with_reducible first | exact HB.out | apply below_alloc | apply pw_below_drewN | apply below_drew1) | exact HB.out)) hb); clear HB; have HB := n0_; clear n0_) | (go_at_call 19; go_in) | (go_at_call 20; (with_reducible refine (place1_yes s a n _ _ _ ?hp ?hq HS.out HB1.out.1 HB1.out.2.1 HB1.out.2.2).mono ?_); (case hp => simp [go_sem]); (case hq => simp [go_sem]); rintro e w' ⟨rfl, rfl⟩))
  go_quiet (fail)
  go_wp2
  go_ret2
  exact ⟨rfl, (by repeat (first | (with_reducible first | exact HB.out | apply below_alloc | apply pw_below_drewN | apply below_drew1) | exact HB.out))⟩
set_option maxHeartbeats 1000000 in
set_option maxRecDepth 100000 in
theorem set_noput (s : ByteArray) (a n x : Int) (w : World) (hs : s.size ≤ 1000000000000000) (h0 : 0 ≤ x) (h1 : x ≤ 18446744073709551615) (b : ByteArray) (c : Bool) (hb : putV n x = (b, false)) (hg : Aside0 (c = false → n < 1 ∨ 8 < n ∨ a < 0 ∨ (1 ≤ n ∧ n ≤ 8 ∧ 0 ≤ a ∧ s.size - n < a))) (hg2 : Aside0 (c = true → 1 ≤ n ∧ n ≤ 8 ∧ 0 ≤ a ∧ a ≤ s.size - n)) :
    Calls Try.prog 13 #[.string s, .int .i64 a, .int .i64 n, .int .u64 x] w fun e w' => e = .returned (.tuple #[.string ⟨#[]⟩, .bool false]) ∧ Below w.heap.size w w' := by
  have HB := Aside0.mk (Below.refl w.heap.size w)
  have HP := Aside0.mk (put_c n x h0 h1)
  rw [hb] at HP
  clear hb
  have HS := Aside0.mk hs
  cases c with
  | false =>
    have HH := Aside0.mk (hg.out rfl)
    clear hg hg2
    go_enter Try.func13, Try.ntmps13
    go_wp2_with (first | (go_at_call 9; (with_reducible refine (HP.out _).mono ?_); rintro e w1 ⟨rfl, hb⟩; have n0_ := Aside0.mk (below_step (by repeat (first | (with_reducible first | exact HB.out | apply below_alloc | apply pw_below_drewN | apply below_drew1) | exact HB.out)) hb); clear HB; have HB := n0_; clear n0_) | (go_at_call 19; go_in) | (go_at_call 20; (with_reducible refine (place1_no s a n _ _ _ ?hp ?hq HS.out HH.out).mono ?_); (case hp => simp [go_sem]); (case hq => simp [go_sem]); rintro e w' ⟨rfl, rfl⟩))
    go_ret2
    exact ⟨rfl, (by repeat (first | (with_reducible first | exact HB.out | apply below_alloc | apply pw_below_drewN | apply below_drew1) | exact HB.out))⟩
  | true =>
    obtain ⟨n1, n2, a1, a2⟩ := hg2.out rfl
    clear hg hg2
    obtain ⟨a, rfl⟩ := Int.eq_ofNat_of_zero_le a1
    obtain ⟨n, rfl⟩ := Int.eq_ofNat_of_zero_le (show 0 ≤ n by omega)
    have HB1 : Aside0 (1 ≤ n ∧ n ≤ 8 ∧ a + n ≤ s.size) := ⟨by omega⟩
    clear a2
    go_enter Try.func13, Try.ntmps13
    go_wp2_with (first | (go_at_call 9; (with_reducible refine (HP.out _).mono ?_); rintro e w1 ⟨rfl, hb⟩; have n0_ := Aside0.mk (below_step (by repeat (first | (with_reducible first | exact HB.out | apply below_alloc | apply pw_below_drewN | apply below_drew1) | exact HB.out)) hb); clear HB; have HB := n0_; clear n0_) | (go_at_call 19; go_in) | (go_at_call 20; (with_reducible refine (place1_yes s a n _ _ _ ?hp ?hq HS.out HB1.out.1 HB1.out.2.1 HB1.out.2.2).mono ?_); (case hp => simp [go_sem]); (case hq => simp [go_sem]); rintro e w' ⟨rfl, rfl⟩))
    go_ret2
    exact ⟨rfl, (by repeat (first | (with_reducible first | exact HB.out | apply below_alloc | apply pw_below_drewN | apply below_drew1) | exact HB.out))⟩
set_option maxHeartbeats 1000000 in
set_option maxRecDepth 100000 in
theorem set_noplace (s : ByteArray) (a n x : Int) (w : World) (hs : s.size ≤ 1000000000000000) (h0 : 0 ≤ x) (h1 : x ≤ 18446744073709551615) (b : ByteArray) (hb : putV n x = (b, true)) (hg : n < 1 ∨ 8 < n ∨ a < 0 ∨ (1 ≤ n ∧ n ≤ 8 ∧ 0 ≤ a ∧ s.size - n < a)) :
    Calls Try.prog 13 #[.string s, .int .i64 a, .int .i64 n, .int .u64 x] w fun e w' => e = .returned (.tuple #[.string ⟨#[]⟩, .bool false]) ∧ Below w.heap.size w w' := by
  have HB := Aside0.mk (Below.refl w.heap.size w)
  have HP := Aside0.mk (put_c n x h0 h1)
  rw [hb] at HP
  clear hb
  have HS := Aside0.mk hs
  have HH := Aside0.mk hg
  clear hg
  go_enter Try.func13, Try.ntmps13
  go_wp2_with (first | (go_at_call 9; (with_reducible refine (HP.out _).mono ?_); rintro e w1 ⟨rfl, hb⟩; have n0_ := Aside0.mk (below_step (by repeat (first | (with_reducible first | exact HB.out | apply below_alloc | apply pw_below_drewN | apply below_drew1) | exact HB.out)) hb); clear HB; have HB := n0_; clear n0_) | (go_at_call 19; go_in) | (go_at_call 20; (with_reducible refine (place1_no s a n _ _ _ ?hp ?hq HS.out HH.out).mono ?_); (case hp => simp [go_sem]); (case hq => simp [go_sem]); rintro e w' ⟨rfl, rfl⟩))
  go_ret2
  exact ⟨rfl, (by repeat (first | (with_reducible first | exact HB.out | apply below_alloc | apply pw_below_drewN | apply below_drew1) | exact HB.out))⟩
theorem set_c (s : ByteArray) (a n x : Int) (w : World) (hs : s.size ≤ 1000000000000000) (h0 : 0 ≤ x) (h1 : x ≤ 18446744073709551615) :
    Calls Try.prog 13 #[.string s, .int .i64 a, .int .i64 n, .int .u64 x] w fun e w' => e = .returned (.tuple #[.string (setV s a n x).1, .bool (setV s a n x).2]) ∧ Below w.heap.size w w' := by
  have hp := putV_size n x
  obtain ⟨b, c, hb⟩ : ∃ b c, putV n x = (b, c) := ⟨_, _, rfl⟩
  rw [hb] at hp
  by_cases h : n < 1 ∨ 8 < n ∨ a < 0 ∨ (1 ≤ n ∧ n ≤ 8 ∧ 0 ≤ a ∧ s.size - n < a)
  · have e := getV_no s a n h
    have e2 : setV s a n x = (⟨#[]⟩, false) := by unfold setV; rw [e]; simp
    rw [e2]
    cases c with
    | true => exact set_noplace s a n x w hs h0 h1 b hb h
    | false => exact set_noput s a n x w hs h0 h1 b false hb ⟨fun _ => h⟩ ⟨fun h => by simp at h⟩
  · cases c with
    | false =>
      have e2 : setV s a n x = (⟨#[]⟩, false) := by unfold setV; rw [hb]; simp
      rw [e2]
      exact set_noput s a n x w hs h0 h1 b true hb ⟨fun h => by simp at h⟩ ⟨fun _ => by omega⟩
    | true =>
      obtain ⟨y, rfl⟩ := Int.eq_ofNat_of_zero_le (show 0 ≤ a by omega)
      obtain ⟨m, rfl⟩ := Int.eq_ofNat_of_zero_le (show 0 ≤ n by omega)
      have e : (getV s y m).2 = true := by
        unfold getV
        rw [if_neg (by omega), if_neg (by omega), if_neg (by omega), if_neg (by omega)]
      have e2 : setV s y m x = ((s.extract 0 y ++ b) ++ s.extract (y + m) s.size, true) := by
        unfold setV
        rw [hb, e, Int.toNat_natCast, show ((y : Int) + (m : Int)).toNat = y + m from by omega]; simp
      rw [e2]
      exact set_yes s y m x b w hs h0 h1 hb hp (by omega) (by omega) (by omega)
end Go.Proofs.Ytdihnjcplhlhkaa.Hand
