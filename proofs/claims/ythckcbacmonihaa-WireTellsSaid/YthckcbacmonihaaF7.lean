/- Chapter 5: WireOrder. -/
import Derived.Test.YthckcbacmonihaaF4
import Derived.Test.YthckcbacmonihaaO0
import Derived.OpenShut
set_option linter.unusedVariables false
set_option linter.unusedSimpArgs false
namespace Go.Proofs.Ythckcbacmonihaa.Hand
open Go.RowKit Go.Proofs.Ythckcbacmonihaa.PWireTells Go.Proofs.YthckcbacmonihaaW.PrintWords Go.Proofs.YthckcbacmonihaaW.PrintLast Go.Proofs.YthckcbacmonihaaW.PrintMore

theorem slice_to (A : Option Addr) (n c m : Nat) (hm : m ≤ n) (hc : n ≤ c) : ∀ W : World, (Instr.slice 22 (.slice A n c) none (some (.int .i64 (m : Int))) none).run Try.prog W = .ok (.slice A m c) W := by
  obtain ⟨i, hi, hsz⟩ := Option.map_eq_some_iff.1 info2
  have := cut_to (P := Try.prog) 22 2 .i64 Try.underlying22 hi A n c (m : Int) (by omega) (by omega) hc
  simpa using this
theorem C_cut {w : World} {A : Option Addr} {l : List Int} (h : ∀ W', Has w W' → Kd.C (Kd.int .i64) W' A l.length l) (m : Nat) (hm : m ≤ l.length) : ∀ W', Has w W' → Kd.C (Kd.int .i64) W' A m (l.take m) := by
  intro W' hW
  have := Kd.C_take (h W' hW) hm
  rwa [List.length_take, Nat.min_eq_left hm] at this
theorem less_pre (P : List UInt8) (X Y : List UInt8) : Op.bytesLess (P ++ X) (P ++ Y) = Op.bytesLess X Y := by
  induction P with
  | nil => rfl
  | cons a P ih => simp only [List.cons_append, Op.bytesLess, ih]; simp
theorem less_self (X : List UInt8) : Op.bytesLess X X = false := by
  induction X with
  | nil => rfl
  | cons a X ih => simp only [Op.bytesLess, ih]; simp
theorem less_suf : ∀ (X Y C : List UInt8), X.length = Y.length → Op.bytesLess (X ++ C) (Y ++ C) = Op.bytesLess X Y
  | [], [], C, _ => by rw [List.nil_append, less_self]; rfl
  | a :: X, b :: Y, C, h => by
    simp only [List.cons_append, Op.bytesLess]
    rw [less_suf X Y C (by simpa using h)]
theorem toList_app (a b : ByteArray) : (a ++ b).toList = a.toList ++ b.toList := by
  rw [ByteArray.toList_eq, ByteArray.toList_eq, ByteArray.toList_eq, ByteArray.data_append, Array.toList_append]
theorem less_ev (k a b : Int) (l : List Int) (a0 : 0 ≤ a) (a1 : a ≤ 9223372036854775807) (b0 : 0 ≤ b) (b1 : b ≤ 9223372036854775807) : Op.bytesLess (evI k a l l.length).toList (evI k b l l.length).toList = decide (a < b) := by
  rw [evI_zero, evI_zero, toList_app, toList_app, toList_app, toList_app, less_pre, less_suf]
  · rw [intV_eq, intV_eq, show IntKind.u64.wrap a = a from u_id a0 (by omega), show IntKind.u64.wrap b = b from u_id b0 (by omega)]
    have e : (256 : Int) ^ 8 = 18446744073709551616 := by decide
    exact less_put a b a0 b0 8 (by rw [e]; omega) (by rw [e]; omega)
  · have h1 := intV_size a
    have h2 := intV_size b
    rw [ByteArray.toList_eq, ByteArray.toList_eq, Array.length_toList, Array.length_toList]
    exact h1.trans h2.symm
theorem same_ev (k a b : Int) (l : List Int) (a0 : 0 ≤ a) (a1 : a ≤ 9223372036854775807) (b0 : 0 ≤ b) (b1 : b ≤ 9223372036854775807) : ((evI k a l l.length).toList == (evI k b l l.length).toList) = decide (a = b) := by
  by_cases h : a = b
  · subst h; simp
  · rw [decide_eq_false h]
    refine beq_eq_false_iff_ne.2 fun e => ?_
    have l1 := less_ev k a b l a0 a1 b0 b1
    have l2 := less_ev k b a l b0 b1 a0 a1
    rw [e, less_self] at l1
    rw [e, less_self] at l2
    have h1 : ¬ a < b := by simpa using l1
    have h2 : ¬ b < a := by simpa using l2
    omega
set_option maxHeartbeats 1000000 in
set_option maxRecDepth 100000 in
theorem ord_s11 (a b n : Int) (l : List Int) (A : Option Addr) (c : Nat) (w : World) (a0 : -9223372036854775808 ≤ a) (a1 : a ≤ 9223372036854775807) (b0 : -9223372036854775808 ≤ b) (b1 : b ≤ 9223372036854775807) (n0 : 0 ≤ n) (n1 : n ≤ 255) (hc : l.length ≤ c) (hk : ∀ W', Has w W' → Kd.C (Kd.int .i64) W' A l.length l) (ha : a < 0) (hb : b < 0) (hs : l.length ≤ 8) :
    Calls Try.prog 7 #[.int .i64 a, .int .i64 b, .int .u8 n, .slice A l.length c] w fun e w' => e = .returned (.bool true) ∧ Below w.heap.size w w' := by
  have HB := Aside0.mk (Below.refl w.heap.size w)
  have hmax := (hk w (Has.refl w)).2.1
  have hlm : (l.take l.length).length = l.length := by rw [List.length_take]; omega
  have HC := Aside0.mk (C_cut hk l.length (by omega))
  have hmin : min (l.length : Int) 8 = (l.length : Int) := by omega
  obtain ⟨x, hx⟩ : ∃ x, evI n (-(a + 1)) (l.take l.length) (l.take l.length).length = x := ⟨_, rfl⟩
  obtain ⟨y, hy⟩ : ∃ y, evI n (-(b + 1)) (l.take l.length) (l.take l.length).length = y := ⟨_, rfl⟩
  have HX : Aside0 (putE n (-(a + 1)) (l.take l.length) = (x, true)) := ⟨by rw [putE_yes n0 n1 (by omega), hx]⟩
  have HY : Aside0 (putE n (-(b + 1)) (l.take l.length) = (y, true)) := ⟨by rw [putE_yes n0 n1 (by omega), hy]⟩
  have hls := less_ev n (-(a + 1)) (-(b + 1)) (l.take l.length) (by omega) (by omega) (by omega) (by omega)
  have heq := same_ev n (-(a + 1)) (-(b + 1)) (l.take l.length) (by omega) (by omega) (by omega) (by omega)
  have hsz : x.size = y.size := by rw [← hx, ← hy, evI_size _ _ _ _ (Nat.le_refl _), evI_size _ _ _ _ (Nat.le_refl _)]
  have hx74 : y.size ≤ 1000 := by rw [← hy, evI_size _ _ _ _ (Nat.le_refl _)]; omega
  rw [hx, hy] at hls heq
  clear hx hy hk
  have hq2 : ((-(a + 1)) == (-(b + 1))) = decide (a = b) := by
    by_cases h : a = b
    · subst h; simp
    · rw [decide_eq_false h]
      exact beq_eq_false_iff_ne.2 (by omega)
  go_enter Try.func7, Try.ntmps7
  go_wp2_with (first | (go_at_call 8; (with_reducible refine (examples_c _).mono ?_); rintro e w1 ⟨rfl, hb⟩; have n0_ := Aside0.mk (below_step (by repeat (first | (with_reducible first | exact HB.out | apply below_alloc | apply pw_below_drewN | apply below_drew1) | exact HB.out)) hb); clear HB; have HB := n0_; clear n0_) | (go_at_call 9; (with_reducible refine (wput_n n (-(a + 1)) (l.take l.length) l.length A c x true _ (HC.out _ (Has.of_below (by repeat (first | (with_reducible first | exact HB.out | apply below_alloc | apply pw_below_drewN | apply below_drew1) | exact HB.out)))) HX.out).mono ?_); rintro e w1 ⟨rfl, hb⟩; have n0_ := Aside0.mk (below_step (by repeat (first | (with_reducible first | exact HB.out | apply below_alloc | apply pw_below_drewN | apply below_drew1) | exact HB.out)) hb); clear HB; have HB := n0_; clear n0_) | (go_at_call 9; (with_reducible refine (wput_n n (-(b + 1)) (l.take l.length) l.length A c y true _ (HC.out _ (Has.of_below (by repeat (first | (with_reducible first | exact HB.out | apply below_alloc | apply pw_below_drewN | apply below_drew1) | exact HB.out)))) HY.out).mono ?_); rintro e w1 ⟨rfl, hb⟩; have n0_ := Aside0.mk (below_step (by repeat (first | (with_reducible first | exact HB.out | apply below_alloc | apply pw_below_drewN | apply below_drew1) | exact HB.out)) hb); clear HB; have HB := n0_; clear n0_))
  go_ret
  exact ⟨rfl, (by repeat (first | (with_reducible first | exact HB.out | apply below_alloc | apply pw_below_drewN | apply below_drew1) | exact HB.out))⟩
set_option maxHeartbeats 1000000 in
set_option maxRecDepth 100000 in
theorem ord_l11 (a b n : Int) (l : List Int) (A : Option Addr) (c : Nat) (w : World) (a0 : -9223372036854775808 ≤ a) (a1 : a ≤ 9223372036854775807) (b0 : -9223372036854775808 ≤ b) (b1 : b ≤ 9223372036854775807) (n0 : 0 ≤ n) (n1 : n ≤ 255) (hc : l.length ≤ c) (hk : ∀ W', Has w W' → Kd.C (Kd.int .i64) W' A l.length l) (ha : a < 0) (hb : b < 0) (hs : 8 < l.length) :
    Calls Try.prog 7 #[.int .i64 a, .int .i64 b, .int .u8 n, .slice A l.length c] w fun e w' => e = .returned (.bool true) ∧ Below w.heap.size w w' := by
  have HB := Aside0.mk (Below.refl w.heap.size w)
  have hmax := (hk w (Has.refl w)).2.1
  have hlm : (l.take 8).length = 8 := by rw [List.length_take]; omega
  have HC := Aside0.mk (C_cut hk 8 (by omega))
  have hmin : min (l.length : Int) 8 = 8 := by omega
  obtain ⟨x, hx⟩ : ∃ x, evI n (-(a + 1)) (l.take 8) (l.take 8).length = x := ⟨_, rfl⟩
  obtain ⟨y, hy⟩ : ∃ y, evI n (-(b + 1)) (l.take 8) (l.take 8).length = y := ⟨_, rfl⟩
  have HX : Aside0 (putE n (-(a + 1)) (l.take 8) = (x, true)) := ⟨by rw [putE_yes n0 n1 (by omega), hx]⟩
  have HY : Aside0 (putE n (-(b + 1)) (l.take 8) = (y, true)) := ⟨by rw [putE_yes n0 n1 (by omega), hy]⟩
  have hls := less_ev n (-(a + 1)) (-(b + 1)) (l.take 8) (by omega) (by omega) (by omega) (by omega)
  have heq := same_ev n (-(a + 1)) (-(b + 1)) (l.take 8) (by omega) (by omega) (by omega) (by omega)
  have hsz : x.size = y.size := by rw [← hx, ← hy, evI_size _ _ _ _ (Nat.le_refl _), evI_size _ _ _ _ (Nat.le_refl _)]
  have hx74 : y.size ≤ 1000 := by rw [← hy, evI_size _ _ _ _ (Nat.le_refl _)]; omega
  rw [hx, hy] at hls heq
  clear hx hy hk
  have hq2 : ((-(a + 1)) == (-(b + 1))) = decide (a = b) := by
    by_cases h : a = b
    · subst h; simp
    · rw [decide_eq_false h]
      exact beq_eq_false_iff_ne.2 (by omega)
  go_enter Try.func7, Try.ntmps7
  go_wp2_with (first | (go_at_call 8; (with_reducible refine (examples_c _).mono ?_); rintro e w1 ⟨rfl, hb⟩; have n0_ := Aside0.mk (below_step (by repeat (first | (with_reducible first | exact HB.out | apply below_alloc | apply pw_below_drewN | apply below_drew1) | exact HB.out)) hb); clear HB; have HB := n0_; clear n0_) | (go_at_call 9; (with_reducible refine (wput_n n (-(a + 1)) (l.take 8) 8 A c x true _ (HC.out _ (Has.of_below (by repeat (first | (with_reducible first | exact HB.out | apply below_alloc | apply pw_below_drewN | apply below_drew1) | exact HB.out)))) HX.out).mono ?_); rintro e w1 ⟨rfl, hb⟩; have n0_ := Aside0.mk (below_step (by repeat (first | (with_reducible first | exact HB.out | apply below_alloc | apply pw_below_drewN | apply below_drew1) | exact HB.out)) hb); clear HB; have HB := n0_; clear n0_) | (go_at_call 9; (with_reducible refine (wput_n n (-(b + 1)) (l.take 8) 8 A c y true _ (HC.out _ (Has.of_below (by repeat (first | (with_reducible first | exact HB.out | apply below_alloc | apply pw_below_drewN | apply below_drew1) | exact HB.out)))) HY.out).mono ?_); rintro e w1 ⟨rfl, hb⟩; have n0_ := Aside0.mk (below_step (by repeat (first | (with_reducible first | exact HB.out | apply below_alloc | apply pw_below_drewN | apply below_drew1) | exact HB.out)) hb); clear HB; have HB := n0_; clear n0_))
  go_ret
  exact ⟨rfl, (by repeat (first | (with_reducible first | exact HB.out | apply below_alloc | apply pw_below_drewN | apply below_drew1) | exact HB.out))⟩
set_option maxHeartbeats 1000000 in
set_option maxRecDepth 100000 in
theorem ord_s10 (a b n : Int) (l : List Int) (A : Option Addr) (c : Nat) (w : World) (a0 : -9223372036854775808 ≤ a) (a1 : a ≤ 9223372036854775807) (b0 : -9223372036854775808 ≤ b) (b1 : b ≤ 9223372036854775807) (n0 : 0 ≤ n) (n1 : n ≤ 255) (hc : l.length ≤ c) (hk : ∀ W', Has w W' → Kd.C (Kd.int .i64) W' A l.length l) (ha : a < 0) (hb : 0 ≤ b) (hs : l.length ≤ 8) :
    Calls Try.prog 7 #[.int .i64 a, .int .i64 b, .int .u8 n, .slice A l.length c] w fun e w' => e = .returned (.bool true) ∧ Below w.heap.size w w' := by
  have HB := Aside0.mk (Below.refl w.heap.size w)
  have hmax := (hk w (Has.refl w)).2.1
  have hlm : (l.take l.length).length = l.length := by rw [List.length_take]; omega
  have HC := Aside0.mk (C_cut hk l.length (by omega))
  have hmin : min (l.length : Int) 8 = (l.length : Int) := by omega
  obtain ⟨x, hx⟩ : ∃ x, evI n (-(a + 1)) (l.take l.length) (l.take l.length).length = x := ⟨_, rfl⟩
  obtain ⟨y, hy⟩ : ∃ y, evI n b (l.take l.length) (l.take l.length).length = y := ⟨_, rfl⟩
  have HX : Aside0 (putE n (-(a + 1)) (l.take l.length) = (x, true)) := ⟨by rw [putE_yes n0 n1 (by omega), hx]⟩
  have HY : Aside0 (putE n b (l.take l.length) = (y, true)) := ⟨by rw [putE_yes n0 n1 (by omega), hy]⟩
  have hls := less_ev n (-(a + 1)) b (l.take l.length) (by omega) (by omega) (by omega) (by omega)
  have heq := same_ev n (-(a + 1)) b (l.take l.length) (by omega) (by omega) (by omega) (by omega)
  have hsz : x.size = y.size := by rw [← hx, ← hy, evI_size _ _ _ _ (Nat.le_refl _), evI_size _ _ _ _ (Nat.le_refl _)]
  have hx74 : y.size ≤ 1000 := by rw [← hy, evI_size _ _ _ _ (Nat.le_refl _)]; omega
  rw [hx, hy] at hls heq
  clear hx hy hk
  go_enter Try.func7, Try.ntmps7
  go_wp2_with (first | (go_at_call 8; (with_reducible refine (examples_c _).mono ?_); rintro e w1 ⟨rfl, hb⟩; have n0_ := Aside0.mk (below_step (by repeat (first | (with_reducible first | exact HB.out | apply below_alloc | apply pw_below_drewN | apply below_drew1) | exact HB.out)) hb); clear HB; have HB := n0_; clear n0_) | (go_at_call 9; (with_reducible refine (wput_n n (-(a + 1)) (l.take l.length) l.length A c x true _ (HC.out _ (Has.of_below (by repeat (first | (with_reducible first | exact HB.out | apply below_alloc | apply pw_below_drewN | apply below_drew1) | exact HB.out)))) HX.out).mono ?_); rintro e w1 ⟨rfl, hb⟩; have n0_ := Aside0.mk (below_step (by repeat (first | (with_reducible first | exact HB.out | apply below_alloc | apply pw_below_drewN | apply below_drew1) | exact HB.out)) hb); clear HB; have HB := n0_; clear n0_) | (go_at_call 9; (with_reducible refine (wput_n n b (l.take l.length) l.length A c y true _ (HC.out _ (Has.of_below (by repeat (first | (with_reducible first | exact HB.out | apply below_alloc | apply pw_below_drewN | apply below_drew1) | exact HB.out)))) HY.out).mono ?_); rintro e w1 ⟨rfl, hb⟩; have n0_ := Aside0.mk (below_step (by repeat (first | (with_reducible first | exact HB.out | apply below_alloc | apply pw_below_drewN | apply below_drew1) | exact HB.out)) hb); clear HB; have HB := n0_; clear n0_))
  go_ret
  exact ⟨rfl, (by repeat (first | (with_reducible first | exact HB.out | apply below_alloc | apply pw_below_drewN | apply below_drew1) | exact HB.out))⟩
set_option maxHeartbeats 1000000 in
set_option maxRecDepth 100000 in
theorem ord_l10 (a b n : Int) (l : List Int) (A : Option Addr) (c : Nat) (w : World) (a0 : -9223372036854775808 ≤ a) (a1 : a ≤ 9223372036854775807) (b0 : -9223372036854775808 ≤ b) (b1 : b ≤ 9223372036854775807) (n0 : 0 ≤ n) (n1 : n ≤ 255) (hc : l.length ≤ c) (hk : ∀ W', Has w W' → Kd.C (Kd.int .i64) W' A l.length l) (ha : a < 0) (hb : 0 ≤ b) (hs : 8 < l.length) :
    Calls Try.prog 7 #[.int .i64 a, .int .i64 b, .int .u8 n, .slice A l.length c] w fun e w' => e = .returned (.bool true) ∧ Below w.heap.size w w' := by
  have HB := Aside0.mk (Below.refl w.heap.size w)
  have hmax := (hk w (Has.refl w)).2.1
  have hlm : (l.take 8).length = 8 := by rw [List.length_take]; omega
  have HC := Aside0.mk (C_cut hk 8 (by omega))
  have hmin : min (l.length : Int) 8 = 8 := by omega
  obtain ⟨x, hx⟩ : ∃ x, evI n (-(a + 1)) (l.take 8) (l.take 8).length = x := ⟨_, rfl⟩
  obtain ⟨y, hy⟩ : ∃ y, evI n b (l.take 8) (l.take 8).length = y := ⟨_, rfl⟩
  have HX : Aside0 (putE n (-(a + 1)) (l.take 8) = (x, true)) := ⟨by rw [putE_yes n0 n1 (by omega), hx]⟩
  have HY : Aside0 (putE n b (l.take 8) = (y, true)) := ⟨by rw [putE_yes n0 n1 (by omega), hy]⟩
  have hls := less_ev n (-(a + 1)) b (l.take 8) (by omega) (by omega) (by omega) (by omega)
  have heq := same_ev n (-(a + 1)) b (l.take 8) (by omega) (by omega) (by omega) (by omega)
  have hsz : x.size = y.size := by rw [← hx, ← hy, evI_size _ _ _ _ (Nat.le_refl _), evI_size _ _ _ _ (Nat.le_refl _)]
  have hx74 : y.size ≤ 1000 := by rw [← hy, evI_size _ _ _ _ (Nat.le_refl _)]; omega
  rw [hx, hy] at hls heq
  clear hx hy hk
  go_enter Try.func7, Try.ntmps7
  go_wp2_with (first | (go_at_call 8; (with_reducible refine (examples_c _).mono ?_); rintro e w1 ⟨rfl, hb⟩; have n0_ := Aside0.mk (below_step (by repeat (first | (with_reducible first | exact HB.out | apply below_alloc | apply pw_below_drewN | apply below_drew1) | exact HB.out)) hb); clear HB; have HB := n0_; clear n0_) | (go_at_call 9; (with_reducible refine (wput_n n (-(a + 1)) (l.take 8) 8 A c x true _ (HC.out _ (Has.of_below (by repeat (first | (with_reducible first | exact HB.out | apply below_alloc | apply pw_below_drewN | apply below_drew1) | exact HB.out)))) HX.out).mono ?_); rintro e w1 ⟨rfl, hb⟩; have n0_ := Aside0.mk (below_step (by repeat (first | (with_reducible first | exact HB.out | apply below_alloc | apply pw_below_drewN | apply below_drew1) | exact HB.out)) hb); clear HB; have HB := n0_; clear n0_) | (go_at_call 9; (with_reducible refine (wput_n n b (l.take 8) 8 A c y true _ (HC.out _ (Has.of_below (by repeat (first | (with_reducible first | exact HB.out | apply below_alloc | apply pw_below_drewN | apply below_drew1) | exact HB.out)))) HY.out).mono ?_); rintro e w1 ⟨rfl, hb⟩; have n0_ := Aside0.mk (below_step (by repeat (first | (with_reducible first | exact HB.out | apply below_alloc | apply pw_below_drewN | apply below_drew1) | exact HB.out)) hb); clear HB; have HB := n0_; clear n0_))
  go_ret
  exact ⟨rfl, (by repeat (first | (with_reducible first | exact HB.out | apply below_alloc | apply pw_below_drewN | apply below_drew1) | exact HB.out))⟩
set_option maxHeartbeats 1000000 in
set_option maxRecDepth 100000 in
theorem ord_s01 (a b n : Int) (l : List Int) (A : Option Addr) (c : Nat) (w : World) (a0 : -9223372036854775808 ≤ a) (a1 : a ≤ 9223372036854775807) (b0 : -9223372036854775808 ≤ b) (b1 : b ≤ 9223372036854775807) (n0 : 0 ≤ n) (n1 : n ≤ 255) (hc : l.length ≤ c) (hk : ∀ W', Has w W' → Kd.C (Kd.int .i64) W' A l.length l) (ha : 0 ≤ a) (hb : b < 0) (hs : l.length ≤ 8) :
    Calls Try.prog 7 #[.int .i64 a, .int .i64 b, .int .u8 n, .slice A l.length c] w fun e w' => e = .returned (.bool true) ∧ Below w.heap.size w w' := by
  have HB := Aside0.mk (Below.refl w.heap.size w)
  have hmax := (hk w (Has.refl w)).2.1
  have hlm : (l.take l.length).length = l.length := by rw [List.length_take]; omega
  have HC := Aside0.mk (C_cut hk l.length (by omega))
  have hmin : min (l.length : Int) 8 = (l.length : Int) := by omega
  obtain ⟨x, hx⟩ : ∃ x, evI n a (l.take l.length) (l.take l.length).length = x := ⟨_, rfl⟩
  obtain ⟨y, hy⟩ : ∃ y, evI n (-(b + 1)) (l.take l.length) (l.take l.length).length = y := ⟨_, rfl⟩
  have HX : Aside0 (putE n a (l.take l.length) = (x, true)) := ⟨by rw [putE_yes n0 n1 (by omega), hx]⟩
  have HY : Aside0 (putE n (-(b + 1)) (l.take l.length) = (y, true)) := ⟨by rw [putE_yes n0 n1 (by omega), hy]⟩
  have hls := less_ev n a (-(b + 1)) (l.take l.length) (by omega) (by omega) (by omega) (by omega)
  have heq := same_ev n a (-(b + 1)) (l.take l.length) (by omega) (by omega) (by omega) (by omega)
  have hsz : x.size = y.size := by rw [← hx, ← hy, evI_size _ _ _ _ (Nat.le_refl _), evI_size _ _ _ _ (Nat.le_refl _)]
  have hx74 : y.size ≤ 1000 := by rw [← hy, evI_size _ _ _ _ (Nat.le_refl _)]; omega
  rw [hx, hy] at hls heq
  clear hx hy hk
  go_enter Try.func7, Try.ntmps7
  go_wp2_with (first | (go_at_call 8; (with_reducible refine (examples_c _).mono ?_); rintro e w1 ⟨rfl, hb⟩; have n0_ := Aside0.mk (below_step (by repeat (first | (with_reducible first | exact HB.out | apply below_alloc | apply pw_below_drewN | apply below_drew1) | exact HB.out)) hb); clear HB; have HB := n0_; clear n0_) | (go_at_call 9; (with_reducible refine (wput_n n a (l.take l.length) l.length A c x true _ (HC.out _ (Has.of_below (by repeat (first | (with_reducible first | exact HB.out | apply below_alloc | apply pw_below_drewN | apply below_drew1) | exact HB.out)))) HX.out).mono ?_); rintro e w1 ⟨rfl, hb⟩; have n0_ := Aside0.mk (below_step (by repeat (first | (with_reducible first | exact HB.out | apply below_alloc | apply pw_below_drewN | apply below_drew1) | exact HB.out)) hb); clear HB; have HB := n0_; clear n0_) | (go_at_call 9; (with_reducible refine (wput_n n (-(b + 1)) (l.take l.length) l.length A c y true _ (HC.out _ (Has.of_below (by repeat (first | (with_reducible first | exact HB.out | apply below_alloc | apply pw_below_drewN | apply below_drew1) | exact HB.out)))) HY.out).mono ?_); rintro e w1 ⟨rfl, hb⟩; have n0_ := Aside0.mk (below_step (by repeat (first | (with_reducible first | exact HB.out | apply below_alloc | apply pw_below_drewN | apply below_drew1) | exact HB.out)) hb); clear HB; have HB := n0_; clear n0_))
  go_ret
  exact ⟨rfl, (by repeat (first | (with_reducible first | exact HB.out | apply below_alloc | apply pw_below_drewN | apply below_drew1) | exact HB.out))⟩
set_option maxHeartbeats 1000000 in
set_option maxRecDepth 100000 in
theorem ord_l01 (a b n : Int) (l : List Int) (A : Option Addr) (c : Nat) (w : World) (a0 : -9223372036854775808 ≤ a) (a1 : a ≤ 9223372036854775807) (b0 : -9223372036854775808 ≤ b) (b1 : b ≤ 9223372036854775807) (n0 : 0 ≤ n) (n1 : n ≤ 255) (hc : l.length ≤ c) (hk : ∀ W', Has w W' → Kd.C (Kd.int .i64) W' A l.length l) (ha : 0 ≤ a) (hb : b < 0) (hs : 8 < l.length) :
    Calls Try.prog 7 #[.int .i64 a, .int .i64 b, .int .u8 n, .slice A l.length c] w fun e w' => e = .returned (.bool true) ∧ Below w.heap.size w w' := by
  have HB := Aside0.mk (Below.refl w.heap.size w)
  have hmax := (hk w (Has.refl w)).2.1
  have hlm : (l.take 8).length = 8 := by rw [List.length_take]; omega
  have HC := Aside0.mk (C_cut hk 8 (by omega))
  have hmin : min (l.length : Int) 8 = 8 := by omega
  obtain ⟨x, hx⟩ : ∃ x, evI n a (l.take 8) (l.take 8).length = x := ⟨_, rfl⟩
  obtain ⟨y, hy⟩ : ∃ y, evI n (-(b + 1)) (l.take 8) (l.take 8).length = y := ⟨_, rfl⟩
  have HX : Aside0 (putE n a (l.take 8) = (x, true)) := ⟨by rw [putE_yes n0 n1 (by omega), hx]⟩
  have HY : Aside0 (putE n (-(b + 1)) (l.take 8) = (y, true)) := ⟨by rw [putE_yes n0 n1 (by omega), hy]⟩
  have hls := less_ev n a (-(b + 1)) (l.take 8) (by omega) (by omega) (by omega) (by omega)
  have heq := same_ev n a (-(b + 1)) (l.take 8) (by omega) (by omega) (by omega) (by omega)
  have hsz : x.size = y.size := by rw [← hx, ← hy, evI_size _ _ _ _ (Nat.le_refl _), evI_size _ _ _ _ (Nat.le_refl _)]
  have hx74 : y.size ≤ 1000 := by rw [← hy, evI_size _ _ _ _ (Nat.le_refl _)]; omega
  rw [hx, hy] at hls heq
  clear hx hy hk
  go_enter Try.func7, Try.ntmps7
  go_wp2_with (first | (go_at_call 8; (with_reducible refine (examples_c _).mono ?_); rintro e w1 ⟨rfl, hb⟩; have n0_ := Aside0.mk (below_step (by repeat (first | (with_reducible first | exact HB.out | apply below_alloc | apply pw_below_drewN | apply below_drew1) | exact HB.out)) hb); clear HB; have HB := n0_; clear n0_) | (go_at_call 9; (with_reducible refine (wput_n n a (l.take 8) 8 A c x true _ (HC.out _ (Has.of_below (by repeat (first | (with_reducible first | exact HB.out | apply below_alloc | apply pw_below_drewN | apply below_drew1) | exact HB.out)))) HX.out).mono ?_); rintro e w1 ⟨rfl, hb⟩; have n0_ := Aside0.mk (below_step (by repeat (first | (with_reducible first | exact HB.out | apply below_alloc | apply pw_below_drewN | apply below_drew1) | exact HB.out)) hb); clear HB; have HB := n0_; clear n0_) | (go_at_call 9; (with_reducible refine (wput_n n (-(b + 1)) (l.take 8) 8 A c y true _ (HC.out _ (Has.of_below (by repeat (first | (with_reducible first | exact HB.out | apply below_alloc | apply pw_below_drewN | apply below_drew1) | exact HB.out)))) HY.out).mono ?_); rintro e w1 ⟨rfl, hb⟩; have n0_ := Aside0.mk (below_step (by repeat (first | (with_reducible first | exact HB.out | apply below_alloc | apply pw_below_drewN | apply below_drew1) | exact HB.out)) hb); clear HB; have HB := n0_; clear n0_))
  go_ret
  exact ⟨rfl, (by repeat (first | (with_reducible first | exact HB.out | apply below_alloc | apply pw_below_drewN | apply below_drew1) | exact HB.out))⟩
set_option maxHeartbeats 1000000 in
set_option maxRecDepth 100000 in
theorem ord_s00 (a b n : Int) (l : List Int) (A : Option Addr) (c : Nat) (w : World) (a0 : -9223372036854775808 ≤ a) (a1 : a ≤ 9223372036854775807) (b0 : -9223372036854775808 ≤ b) (b1 : b ≤ 9223372036854775807) (n0 : 0 ≤ n) (n1 : n ≤ 255) (hc : l.length ≤ c) (hk : ∀ W', Has w W' → Kd.C (Kd.int .i64) W' A l.length l) (ha : 0 ≤ a) (hb : 0 ≤ b) (hs : l.length ≤ 8) :
    Calls Try.prog 7 #[.int .i64 a, .int .i64 b, .int .u8 n, .slice A l.length c] w fun e w' => e = .returned (.bool true) ∧ Below w.heap.size w w' := by
  have HB := Aside0.mk (Below.refl w.heap.size w)
  have hmax := (hk w (Has.refl w)).2.1
  have hlm : (l.take l.length).length = l.length := by rw [List.length_take]; omega
  have HC := Aside0.mk (C_cut hk l.length (by omega))
  have hmin : min (l.length : Int) 8 = (l.length : Int) := by omega
  obtain ⟨x, hx⟩ : ∃ x, evI n a (l.take l.length) (l.take l.length).length = x := ⟨_, rfl⟩
  obtain ⟨y, hy⟩ : ∃ y, evI n b (l.take l.length) (l.take l.length).length = y := ⟨_, rfl⟩
  have HX : Aside0 (putE n a (l.take l.length) = (x, true)) := ⟨by rw [putE_yes n0 n1 (by omega), hx]⟩
  have HY : Aside0 (putE n b (l.take l.length) = (y, true)) := ⟨by rw [putE_yes n0 n1 (by omega), hy]⟩
  have hls := less_ev n a b (l.take l.length) (by omega) (by omega) (by omega) (by omega)
  have heq := same_ev n a b (l.take l.length) (by omega) (by omega) (by omega) (by omega)
  have hsz : x.size = y.size := by rw [← hx, ← hy, evI_size _ _ _ _ (Nat.le_refl _), evI_size _ _ _ _ (Nat.le_refl _)]
  have hx74 : y.size ≤ 1000 := by rw [← hy, evI_size _ _ _ _ (Nat.le_refl _)]; omega
  rw [hx, hy] at hls heq
  clear hx hy hk
  go_enter Try.func7, Try.ntmps7
  go_wp2_with (first | (go_at_call 8; (with_reducible refine (examples_c _).mono ?_); rintro e w1 ⟨rfl, hb⟩; have n0_ := Aside0.mk (below_step (by repeat (first | (with_reducible first | exact HB.out | apply below_alloc | apply pw_below_drewN | apply below_drew1) | exact HB.out)) hb); clear HB; have HB := n0_; clear n0_) | (go_at_call 9; (with_reducible refine (wput_n n a (l.take l.length) l.length A c x true _ (HC.out _ (Has.of_below (by repeat (first | (with_reducible first | exact HB.out | apply below_alloc | apply pw_below_drewN | apply below_drew1) | exact HB.out)))) HX.out).mono ?_); rintro e w1 ⟨rfl, hb⟩; have n0_ := Aside0.mk (below_step (by repeat (first | (with_reducible first | exact HB.out | apply below_alloc | apply pw_below_drewN | apply below_drew1) | exact HB.out)) hb); clear HB; have HB := n0_; clear n0_) | (go_at_call 9; (with_reducible refine (wput_n n b (l.take l.length) l.length A c y true _ (HC.out _ (Has.of_below (by repeat (first | (with_reducible first | exact HB.out | apply below_alloc | apply pw_below_drewN | apply below_drew1) | exact HB.out)))) HY.out).mono ?_); rintro e w1 ⟨rfl, hb⟩; have n0_ := Aside0.mk (below_step (by repeat (first | (with_reducible first | exact HB.out | apply below_alloc | apply pw_below_drewN | apply below_drew1) | exact HB.out)) hb); clear HB; have HB := n0_; clear n0_))
  go_ret
  exact ⟨rfl, (by repeat (first | (with_reducible first | exact HB.out | apply below_alloc | apply pw_below_drewN | apply below_drew1) | exact HB.out))⟩
set_option maxHeartbeats 1000000 in
set_option maxRecDepth 100000 in
theorem ord_l00 (a b n : Int) (l : List Int) (A : Option Addr) (c : Nat) (w : World) (a0 : -9223372036854775808 ≤ a) (a1 : a ≤ 9223372036854775807) (b0 : -9223372036854775808 ≤ b) (b1 : b ≤ 9223372036854775807) (n0 : 0 ≤ n) (n1 : n ≤ 255) (hc : l.length ≤ c) (hk : ∀ W', Has w W' → Kd.C (Kd.int .i64) W' A l.length l) (ha : 0 ≤ a) (hb : 0 ≤ b) (hs : 8 < l.length) :
    Calls Try.prog 7 #[.int .i64 a, .int .i64 b, .int .u8 n, .slice A l.length c] w fun e w' => e = .returned (.bool true) ∧ Below w.heap.size w w' := by
  have HB := Aside0.mk (Below.refl w.heap.size w)
  have hmax := (hk w (Has.refl w)).2.1
  have hlm : (l.take 8).length = 8 := by rw [List.length_take]; omega
  have HC := Aside0.mk (C_cut hk 8 (by omega))
  have hmin : min (l.length : Int) 8 = 8 := by omega
  obtain ⟨x, hx⟩ : ∃ x, evI n a (l.take 8) (l.take 8).length = x := ⟨_, rfl⟩
  obtain ⟨y, hy⟩ : ∃ y, evI n b (l.take 8) (l.take 8).length = y := ⟨_, rfl⟩
  have HX : Aside0 (putE n a (l.take 8) = (x, true)) := ⟨by rw [putE_yes n0 n1 (by omega), hx]⟩
  have HY : Aside0 (putE n b (l.take 8) = (y, true)) := ⟨by rw [putE_yes n0 n1 (by omega), hy]⟩
  have hls := less_ev n a b (l.take 8) (by omega) (by omega) (by omega) (by omega)
  have heq := same_ev n a b (l.take 8) (by omega) (by omega) (by omega) (by omega)
  have hsz : x.size = y.size := by rw [← hx, ← hy, evI_size _ _ _ _ (Nat.le_refl _), evI_size _ _ _ _ (Nat.le_refl _)]
  have hx74 : y.size ≤ 1000 := by rw [← hy, evI_size _ _ _ _ (Nat.le_refl _)]; omega
  rw [hx, hy] at hls heq
  clear hx hy hk
  go_enter Try.func7, Try.ntmps7
  go_wp2_with (first | (go_at_call 8; (with_reducible refine (examples_c _).mono ?_); rintro e w1 ⟨rfl, hb⟩; have n0_ := Aside0.mk (below_step (by repeat (first | (with_reducible first | exact HB.out | apply below_alloc | apply pw_below_drewN | apply below_drew1) | exact HB.out)) hb); clear HB; have HB := n0_; clear n0_) | (go_at_call 9; (with_reducible refine (wput_n n a (l.take 8) 8 A c x true _ (HC.out _ (Has.of_below (by repeat (first | (with_reducible first | exact HB.out | apply below_alloc | apply pw_below_drewN | apply below_drew1) | exact HB.out)))) HX.out).mono ?_); rintro e w1 ⟨rfl, hb⟩; have n0_ := Aside0.mk (below_step (by repeat (first | (with_reducible first | exact HB.out | apply below_alloc | apply pw_below_drewN | apply below_drew1) | exact HB.out)) hb); clear HB; have HB := n0_; clear n0_) | (go_at_call 9; (with_reducible refine (wput_n n b (l.take 8) 8 A c y true _ (HC.out _ (Has.of_below (by repeat (first | (with_reducible first | exact HB.out | apply below_alloc | apply pw_below_drewN | apply below_drew1) | exact HB.out)))) HY.out).mono ?_); rintro e w1 ⟨rfl, hb⟩; have n0_ := Aside0.mk (below_step (by repeat (first | (with_reducible first | exact HB.out | apply below_alloc | apply pw_below_drewN | apply below_drew1) | exact HB.out)) hb); clear HB; have HB := n0_; clear n0_))
  go_ret
  exact ⟨rfl, (by repeat (first | (with_reducible first | exact HB.out | apply below_alloc | apply pw_below_drewN | apply below_drew1) | exact HB.out))⟩

theorem WireOrder_walk (a b n : Int) (y : List Int) (A : Option Addr) (c : Nat) (w : World) (w0 : (Lit.int .i64 a).wf = true) (w1 : (Lit.int .i64 b).wf = true) (w2 : (Lit.int .u8 n).wf = true) (hl : y.length ≤ c) (hk : ∀ W', Has w W' → Kd.C (Kd.int .i64) W' A y.length y) (hg : ShortRow (Try.prog.bytesOf 2) (fun n => (Lit.int .i64 n).wf = true) y) :
    Calls Try.prog 7 #[.int .i64 a, .int .i64 b, .int .u8 n, .slice A y.length c] w fun e w' => e = .returned (.bool true) ∧ Below w.heap.size w w' := by
  obtain ⟨a0, a1⟩ := Go.bounds_i64 w0
  obtain ⟨b0, b1⟩ := Go.bounds_i64 w1
  obtain ⟨n0, n1⟩ := Go.bounds_u8 w2
  rcases Int.lt_or_le a 0 with ha | ha <;> rcases Int.lt_or_le b 0 with hb | hb <;> rcases Nat.lt_or_ge 8 y.length with hs | hs
  · exact ord_l11 a b n y A c w a0 a1 b0 b1 n0 n1 hl hk ha hb hs
  · exact ord_s11 a b n y A c w a0 a1 b0 b1 n0 n1 hl hk ha hb hs
  · exact ord_l10 a b n y A c w a0 a1 b0 b1 n0 n1 hl hk ha hb hs
  · exact ord_s10 a b n y A c w a0 a1 b0 b1 n0 n1 hl hk ha hb hs
  · exact ord_l01 a b n y A c w a0 a1 b0 b1 n0 n1 hl hk ha hb hs
  · exact ord_s01 a b n y A c w a0 a1 b0 b1 n0 n1 hl hk ha hb hs
  · exact ord_l00 a b n y A c w a0 a1 b0 b1 n0 n1 hl hk ha hb hs
  · exact ord_s00 a b n y A c w a0 a1 b0 b1 n0 n1 hl hk ha hb hs
end Go.Proofs.Ythckcbacmonihaa.Hand
