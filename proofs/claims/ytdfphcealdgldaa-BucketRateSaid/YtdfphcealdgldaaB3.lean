/- BucketRate: the walks. -/
import Derived.Test.YtdfphcealdgldaaB2
import Derived.OpenShut
set_option linter.unusedVariables false
namespace Go.Proofs.Ytdfphcealdgldaa.Hand
open Go.RowKit Go.Proofs.Ytdfphcealdgldaa.PBucketBounds Go.Proofs.YtdfphcealdgldaaW.PrintWords Go.Proofs.YtdfphcealdgldaaW.PrintLast Go.Proofs.YtdfphcealdgldaaW.PrintMore

theorem take0 (n k : Int) (i : Nat) (h0 : 1 ≤ k) (h1 : k ≤ 9) (h2 : (i : Int) < n) (h3 : n ≤ 4) : takeV n (n - i) k 0 0 = (n - (i : Int) - 1, 0, true) := by
  have hr : rightP n (n - i) k := by unfold rightP; omega
  have hf : fillV n (n - i) k 0 0 = (n - (i : Int), 0) := by
    unfold fillV
    rw [if_pos hr]
    by_cases h : n - (i : Int) = n
    · rw [if_pos h, if_neg (by decide), h]
    · rw [if_neg h, if_neg (by decide), Int.sub_self, Int.zero_ediv, if_neg (by omega)]; simp
  unfold takeV
  rw [hf, if_pos ⟨hr, by show n - (i : Int) ≠ 0; omega⟩]
theorem take_empty (k a t : Int) (h0 : 1 ≤ k) (h1 : k ≤ 9) (h2 : a ≤ t) : takeV 0 0 k a t = (0, t, false) := by
  have hr : rightP 0 0 k := by unfold rightP; omega
  have hf : fillV 0 0 k a t = (0, t) := by
    unfold fillV
    rw [if_pos hr, if_pos rfl]
    by_cases h : a < t
    · rw [if_pos h]
    · rw [if_neg h, show a = t by omega]
  unfold takeV
  rw [hf, if_neg (by simp)]
theorem take_tick (n k t : Int) (h0 : 1 ≤ k) (h1 : k ≤ 9) (h2 : 1 ≤ n) (h3 : n ≤ 4) (h4 : 1 ≤ t) (hd : t % k = 0) : takeV n 0 k (k * ((t - 1) / k)) t = (0, k * (t / k), true) := by
  have hr : rightP n 0 k := by unfold rightP; omega
  have e1 := Int.mul_ediv_add_emod t k
  have e2 := Int.mul_ediv_add_emod (t - 1) k
  have e3 := Int.emod_nonneg (t - 1) (show k ≠ 0 by omega)
  have e4 := Int.emod_lt_of_pos (t - 1) (show 0 < k by omega)
  have q : t / k = (t - 1) / k + 1 := by
    have h5 : (t - 1) / k < t / k := by
      rw [Int.ediv_lt_iff_lt_mul (by omega), Int.mul_comm]; omega
    have h6 : t / k ≤ (t - 1) / k + 1 := by
      have : t / k < (t - 1) / k + 1 + 1 := by
        rw [Int.ediv_lt_iff_lt_mul (by omega), Int.add_mul, Int.add_mul, Int.mul_comm ((t - 1) / k)]; omega
      omega
    omega
  have q2 : k * (t / k) = k * ((t - 1) / k) + k := by rw [q, Int.mul_add, Int.mul_one]
  have q3 : (t - k * ((t - 1) / k)) / k = 1 := by
    have : t - k * ((t - 1) / k) = k := by omega
    rw [this]; exact Int.ediv_self (by omega)
  have hf : fillV n 0 k (k * ((t - 1) / k)) t = (1, k * (t / k)) := by
    unfold fillV
    rw [if_pos hr, if_neg (by omega), if_neg (by omega), q3]
    by_cases h : (1 : Int) ≥ n - 0
    · rw [if_pos h]; exact Prod.ext (by show n = 1; omega) (by show t = _; omega)
    · rw [if_neg h]; exact Prod.ext (by simp) (by show _ = _; simp only [Int.one_mul]; omega)
  unfold takeV
  rw [hf, if_pos ⟨hr, by simp⟩]
  simp
theorem take_wait (n k t : Int) (h0 : 1 ≤ k) (h1 : k ≤ 9) (h2 : 1 ≤ n) (h3 : n ≤ 4) (h4 : 1 ≤ t) (hd : t % k ≠ 0) : takeV n 0 k (k * ((t - 1) / k)) t = (0, k * (t / k), false) := by
  have hr : rightP n 0 k := by unfold rightP; omega
  have e1 := Int.mul_ediv_add_emod t k
  have e5 := Int.emod_nonneg t (show k ≠ 0 by omega)
  have e6 := Int.emod_lt_of_pos t (show 0 < k by omega)
  have q : (t - 1) / k = t / k := by
    have h5 : t / k ≤ (t - 1) / k := by rw [Int.le_ediv_iff_mul_le (by omega), Int.mul_comm]; omega
    have h6 : (t - 1) / k < t / k + 1 := by rw [Int.ediv_lt_iff_lt_mul (by omega), Int.add_mul, Int.mul_comm (t / k)]; omega
    omega
  have q3 : (t - k * (t / k)) / k = 0 := Int.ediv_eq_zero_of_lt (by omega) (by omega)
  have hf : fillV n 0 k (k * ((t - 1) / k)) t = (0, k * (t / k)) := by
    unfold fillV
    rw [q, if_pos hr, if_neg (by omega), if_neg (by omega), q3, if_neg (by omega)]; simp
  unfold takeV
  rw [hf, if_neg (by simp)]
theorem tick_count (k t : Int) (h0 : 1 ≤ k) (h4 : 1 ≤ t) : (t % k = 0 → t / k = (t - 1) / k + 1) ∧ (t % k ≠ 0 → t / k = (t - 1) / k) := by
  have e1 := Int.mul_ediv_add_emod t k
  have e2 := Int.mul_ediv_add_emod (t - 1) k
  have e3 := Int.emod_nonneg (t - 1) (show k ≠ 0 by omega)
  have e4 := Int.emod_lt_of_pos (t - 1) (show 0 < k by omega)
  have e5 := Int.emod_nonneg t (show k ≠ 0 by omega)
  have e6 := Int.emod_lt_of_pos t (show 0 < k by omega)
  constructor
  · intro hd
    have h5 : (t - 1) / k < t / k := by rw [Int.ediv_lt_iff_lt_mul (by omega), Int.mul_comm]; omega
    have h6 : t / k < (t - 1) / k + 1 + 1 := by rw [Int.ediv_lt_iff_lt_mul (by omega), Int.add_mul, Int.add_mul, Int.mul_comm ((t - 1) / k)]; omega
    omega
  · intro hd
    have h5 : t / k ≤ (t - 1) / k := by rw [Int.le_ediv_iff_mul_le (by omega), Int.mul_comm]; omega
    have h6 : (t - 1) / k < t / k + 1 := by rw [Int.ediv_lt_iff_lt_mul (by omega), Int.add_mul, Int.mul_comm (t / k)]; omega
    omega
set_option maxHeartbeats 1000000 in
set_option maxRecDepth 100000 in
theorem rate_pos (every long size k k9 n m : Int) (w : World) (p0 : 0 ≤ every) (p1 : every ≤ 255) (q0 : 0 ≤ long) (q1 : long ≤ 255) (r0 : 0 ≤ size) (r1 : size ≤ 255) (e1 : every % 9 = k9) (e4 : 1 + k9 = k) (k90 : 0 ≤ k9) (e2 : size % 5 = n) (e3 : long % 60 = m) (k0 : 1 ≤ k) (k1 : k ≤ 9) (n1 : n ≤ 4) (m0 : 0 ≤ m) (m1 : m < 60) (n0 : 1 ≤ n) :
    Calls Try.prog 7 #[.int .u8 every, .int .u8 long, .int .u8 size] w fun e w' => e = .returned (.bool true) ∧ Below w.heap.size w w' := by
  have HB := Aside0.mk (Below.refl w.heap.size w)
  have hu := Try.underlying23
  have HN := Aside0.mk (show (if rightP n n k then (n, n, k, 0, 0) else (0, 0, 0, 0, 1)) = (n, n, k, (0 : Int), (0 : Int)) by rw [if_pos (by unfold rightP; omega)])
  go_enter Try.func7, Try.ntmps7
  go_wp2_with (first | (go_at_call 8; (with_reducible refine (examples_c _).mono ?_); rintro e w1 ⟨rfl, hb⟩; have n0_ := Aside0.mk (below_step (by repeat (first | (with_reducible first | exact HB.out | apply below_alloc | apply pw_below_drewN | apply below_drew1) | exact HB.out)) hb); clear HB; have HB := n0_; clear n0_) | (go_at_call 10; (with_reducible refine (new_at n k n n k 0 _ HN.out).mono ?_); rintro e w1 ⟨rfl, hb⟩; have n0_ := Aside0.mk (below_step (by repeat (first | (with_reducible first | exact HB.out | apply below_alloc | apply pw_below_drewN | apply below_drew1) | exact HB.out)) hb); clear HB; have HB := n0_; clear n0_))
  have HG := Aside0.mk (Bk.new w1 n n k 0)
  have HGE := Aside0.mk (below_size HB.out)
  have hI : I64 0 := i64_of (by decide) (by decide)
  have IA := Aside0.mk hI
  have IT := Aside0.mk hI
  clear hI HN
  go_loopw [13] (fun v13 wr => ∃ i : Nat, (i : Int) ≤ n ∧ v13 = .int .i64 i ∧ Aside0 (Below w.heap.size w wr) ∧ Aside0 (Bk wr w1.heap.size n (n - i) k 0)) (fun v _ => (n - intOf v).toNat)
  case atStart => exact ⟨0, by omega, rfl, ⟨(by repeat (first | (with_reducible first | exact HB.out | apply below_alloc | apply pw_below_drewN | apply below_drew1) | exact HB.out))⟩, ⟨by simpa using HG.out⟩⟩
  case round =>
    clear HB HG
    obtain ⟨i, hi, rfl, HB, HG⟩ := hrel
    by_cases hlt : (i : Int) < n
    · have HT := Aside0.mk (take0 n k i k0 k1 hlt n1)
      have c0 := HG.out.c0
      have c1 := HG.out.c1
      have c2 := HG.out.c2
      have c3 := HG.out.c3
      have f0 := HG.out.fr 0
      have f1 := HG.out.fr 1
      have f2 := HG.out.fr 2
      have f3 := HG.out.fr 3
      have hg := HG.out.lt
      go_wp2_with (first | (go_at_call 12; (with_reducible refine (take_at n (n - (i : Int)) k 0 0 _ _ _ _ IA.out IT.out HT.out).mono ?_); rintro e w5 ⟨rfl, hb⟩; have n0_ := Aside0.mk (below_step (by repeat (first | (with_reducible first | exact HB.out | apply below_alloc | apply pw_below_drewN | apply below_drew1) | exact HB.out)) hb); have n1_ := Aside0.mk (HG.out.below hb); clear HB HG; have HB := n0_; have HG := n1_; clear n0_ n1_ hb c0 c1 c2 c3 f0 f1 f2 f3 hg; have c0 := HG.out.c0; have c1 := HG.out.c1; have c2 := HG.out.c2; have c3 := HG.out.c3; have f0 := HG.out.fr 0; have f1 := HG.out.fr 1; have f2 := HG.out.fr 2; have f3 := HG.out.fr 3; have hg := HG.out.lt))
      go_roundw
      case rel => exact ⟨i + 1, by omega, by go_num, ⟨(by repeat (first | (with_reducible first | exact HB.out | (refine below_set ?_ HGE.out _) | apply below_alloc | apply pw_below_drewN | apply below_drew1) | exact HB.out))⟩, ⟨by rw [show n - ((i + 1 : Nat) : Int) = n - (i : Int) - 1 by omega]; exact (HG.out.put4 _ _ _ _).alloc _⟩⟩
      case measure => simp [intOf]; omega
    · have HG1 : Aside0 (Bk wr w1.heap.size n 0 k 0) := ⟨by have := HG.out; rwa [show n - (i : Int) = 0 by omega] at this⟩
      clear HG IA IT
      have HG := HG1
      clear HG1
      go_wp2
      go_loopw [12, 16] (fun v12 v16 wr2 => ∃ (u : Nat) (c a : Int), 1 ≤ u ∧ (u : Int) ≤ m + 1 ∧ v16 = .int .i64 u ∧ v12 = .int .i64 c ∧ 0 ≤ c ∧ c ≤ 60 ∧ Aside0 (c = ((u : Int) - 1) / k) ∧ Aside0 (a = k * (((u : Int) - 1) / k)) ∧ Aside0 (Below w.heap.size w wr2) ∧ Aside0 (Bk wr2 w1.heap.size n 0 k a)) (fun _ v _ => (m + 1 - intOf v).toNat)
      case atStart => exact ⟨1, 0, 0, by omega, by omega, rfl, rfl, by omega, by omega, ⟨by simp⟩, ⟨by simp⟩, HB, HG⟩
      case round =>
        clear HB HG
        obtain ⟨u, c, a, hu1, hu2, rfl, rfl, hc0, hc1, HC, HA, HB, HG⟩ := hrel
        by_cases hlt : (u : Int) ≤ m
        · have hIT : I64 (u : Int) := i64_of (by omega) (by omega)
          have hIA : I64 a := by
            have e1 := Int.mul_ediv_add_emod ((u : Int) - 1) k
            have e2 := Int.emod_nonneg ((u : Int) - 1) (show k ≠ 0 by omega)
            have e3 := Int.emod_lt_of_pos ((u : Int) - 1) (show 0 < k by omega)
            have := HA.out
            exact i64_of (by omega) (by omega)
          have IT := Aside0.mk hIT
          have IA := Aside0.mk hIA
          clear hIT hIA
          have hcount := tick_count k u k0 (by omega)
          have hdv : (u : Int) / k ≤ u := Int.ediv_le_self _ (by omega)
          have hdv0 : 0 ≤ (u : Int) / k := Int.ediv_nonneg (by omega) (by omega)
          by_cases hd : (u : Int) % k = 0
          · have HT := Aside0.mk (take_tick n k u k0 k1 n0 n1 (by omega) hd)
            rw [← HA.out] at HT
            have HC2 : Aside0 (c + 1 = (u : Int) / k) := ⟨by have := HC.out; have := hcount.1 hd; omega⟩
            have HCB : Aside0 (c + 1 ≤ 60) := ⟨by have := HC2.out; omega⟩
            clear hcount hdv hdv0
            obtain ⟨a', ha'⟩ : ∃ a', k * ((u : Int) / k) = a' := ⟨_, rfl⟩
            rw [ha'] at HT
            have HA2 := Aside0.mk ha'
            clear ha'
            have c0 := HG.out.c0
            have c1 := HG.out.c1
            have c2 := HG.out.c2
            have c3 := HG.out.c3
            have f0 := HG.out.fr 0
            have f1 := HG.out.fr 1
            have f2 := HG.out.fr 2
            have f3 := HG.out.fr 3
            have hg := HG.out.lt
            go_wp2_with (first | (go_at_call 12; (with_reducible refine (take_at n 0 k a u _ _ _ _ IA.out IT.out HT.out).mono ?_); rintro e w5 ⟨rfl, hb⟩; have n0_ := Aside0.mk (below_step (by repeat (first | (with_reducible first | exact HB.out | apply below_alloc | apply pw_below_drewN | apply below_drew1) | exact HB.out)) hb); have n1_ := Aside0.mk (HG.out.below hb); clear HB HG; have HB := n0_; have HG := n1_; clear n0_ n1_ hb c0 c1 c2 c3 f0 f1 f2 f3 hg; have c0 := HG.out.c0; have c1 := HG.out.c1; have c2 := HG.out.c2; have c3 := HG.out.c3; have f0 := HG.out.fr 0; have f1 := HG.out.fr 1; have f2 := HG.out.fr 2; have f3 := HG.out.fr 3; have hg := HG.out.lt))
            go_roundw
            case rel => exact ⟨u + 1, c + 1, a', by omega, by omega, by go_num, rfl, by omega, HCB.out, ⟨by rw [HC2.out]; congr 1; omega⟩, ⟨by rw [← HA2.out]; congr 2; omega⟩, ⟨(by repeat (first | (with_reducible first | exact HB.out | (refine below_set ?_ HGE.out _) | apply below_alloc | apply pw_below_drewN | apply below_drew1) | exact HB.out))⟩, ⟨(HG.out.put4 _ _ _ _).alloc _⟩⟩
            case measure => simp [intOf]; omega
          · have HT := Aside0.mk (take_wait n k u k0 k1 n0 n1 (by omega) hd)
            rw [← HA.out] at HT
            have HC2 : Aside0 (c = (u : Int) / k) := ⟨by have := HC.out; have := hcount.2 hd; omega⟩
            clear hcount hdv hdv0
            obtain ⟨a', ha'⟩ : ∃ a', k * ((u : Int) / k) = a' := ⟨_, rfl⟩
            rw [ha'] at HT
            have HA2 := Aside0.mk ha'
            clear ha'
            have hdb : ((u : Int) % k == 0) = false := beq_eq_false_iff_ne.2 hd
            clear hd
            have c0 := HG.out.c0
            have c1 := HG.out.c1
            have c2 := HG.out.c2
            have c3 := HG.out.c3
            have f0 := HG.out.fr 0
            have f1 := HG.out.fr 1
            have f2 := HG.out.fr 2
            have f3 := HG.out.fr 3
            have hg := HG.out.lt
            go_wp2_with (first | (go_at_call 12; (with_reducible refine (take_at n 0 k a u _ _ _ _ IA.out IT.out HT.out).mono ?_); rintro e w5 ⟨rfl, hb⟩; have n0_ := Aside0.mk (below_step (by repeat (first | (with_reducible first | exact HB.out | apply below_alloc | apply pw_below_drewN | apply below_drew1) | exact HB.out)) hb); have n1_ := Aside0.mk (HG.out.below hb); clear HB HG; have HB := n0_; have HG := n1_; clear n0_ n1_ hb c0 c1 c2 c3 f0 f1 f2 f3 hg; have c0 := HG.out.c0; have c1 := HG.out.c1; have c2 := HG.out.c2; have c3 := HG.out.c3; have f0 := HG.out.fr 0; have f1 := HG.out.fr 1; have f2 := HG.out.fr 2; have f3 := HG.out.fr 3; have hg := HG.out.lt))
            go_roundw
            case rel => exact ⟨u + 1, c, a', by omega, by omega, by go_num, rfl, by omega, by omega, ⟨by rw [HC2.out]; congr 1; omega⟩, ⟨by rw [← HA2.out]; congr 2; omega⟩, ⟨(by repeat (first | (with_reducible first | exact HB.out | (refine below_set ?_ HGE.out _) | apply below_alloc | apply pw_below_drewN | apply below_drew1) | exact HB.out))⟩, ⟨(HG.out.put4 _ _ _ _).alloc _⟩⟩
            case measure => simp [intOf]; omega
        · have hum : (u : Int) = m + 1 := by omega
          have hq : m / k = c := by rw [HC.out, hum]; congr 1; omega
          clear hum
          go_wp2
          go_ret
          exact ⟨rfl, (by repeat (first | (with_reducible first | exact HB.out | (refine below_set ?_ HGE.out _) | apply below_alloc | apply pw_below_drewN | apply below_drew1) | exact HB.out))⟩
set_option maxHeartbeats 1000000 in
set_option maxRecDepth 100000 in
theorem rate_zero (every long size k k9 m : Int) (w : World) (p0 : 0 ≤ every) (p1 : every ≤ 255) (q0 : 0 ≤ long) (q1 : long ≤ 255) (r0 : 0 ≤ size) (r1 : size ≤ 255) (e1 : every % 9 = k9) (e4 : 1 + k9 = k) (k90 : 0 ≤ k9) (e2 : size % 5 = 0) (e3 : long % 60 = m) (k0 : 1 ≤ k) (k1 : k ≤ 9) (m0 : 0 ≤ m) (m1 : m < 60)  :
    Calls Try.prog 7 #[.int .u8 every, .int .u8 long, .int .u8 size] w fun e w' => e = .returned (.bool true) ∧ Below w.heap.size w w' := by
  have HB := Aside0.mk (Below.refl w.heap.size w)
  have hu := Try.underlying23
  have HN := Aside0.mk (show (if rightP 0 0 k then (0, 0, k, 0, 0) else (0, 0, 0, 0, 1)) = ((0 : Int), (0 : Int), k, (0 : Int), (0 : Int)) by rw [if_pos (by unfold rightP; omega)])
  go_enter Try.func7, Try.ntmps7
  go_wp2_with (first | (go_at_call 8; (with_reducible refine (examples_c _).mono ?_); rintro e w1 ⟨rfl, hb⟩; have n0_ := Aside0.mk (below_step (by repeat (first | (with_reducible first | exact HB.out | apply below_alloc | apply pw_below_drewN | apply below_drew1) | exact HB.out)) hb); clear HB; have HB := n0_; clear n0_) | (go_at_call 10; (with_reducible refine (new_at 0 k 0 0 k 0 _ HN.out).mono ?_); rintro e w1 ⟨rfl, hb⟩; have n0_ := Aside0.mk (below_step (by repeat (first | (with_reducible first | exact HB.out | apply below_alloc | apply pw_below_drewN | apply below_drew1) | exact HB.out)) hb); clear HB; have HB := n0_; clear n0_))
  have HG := Aside0.mk (Bk.new w1 0 0 k 0)
  have HGE := Aside0.mk (below_size HB.out)
  clear HN
  go_loopw [13] (fun v13 wr => v13 = .int .i64 0 ∧ Aside0 (Below w.heap.size w wr) ∧ Aside0 (Bk wr w1.heap.size 0 0 k 0)) (fun v _ => 0)
  case atStart => exact ⟨rfl, ⟨(by repeat (first | (with_reducible first | exact HB.out | apply below_alloc | apply pw_below_drewN | apply below_drew1) | exact HB.out))⟩, HG⟩
  case round =>
    clear HB HG
    obtain ⟨rfl, HB, HG⟩ := hrel
    go_wp2
    go_loopw [12, 16] (fun v12 v16 wr2 => ∃ (u : Nat) (a : Int), 1 ≤ u ∧ (u : Int) ≤ m + 1 ∧ v16 = .int .i64 u ∧ v12 = .int .i64 0 ∧ 0 ≤ a ∧ a ≤ u ∧ Aside0 (Below w.heap.size w wr2) ∧ Aside0 (Bk wr2 w1.heap.size 0 0 k a)) (fun _ v _ => (m + 1 - intOf v).toNat)
    case atStart => exact ⟨1, 0, by omega, by omega, rfl, rfl, by omega, by omega, HB, HG⟩
    case round =>
        clear HB HG
        obtain ⟨u, a, hu1, hu2, rfl, rfl, hc0, hc1, HB, HG⟩ := hrel
        by_cases hlt : (u : Int) ≤ m
        · have IT := Aside0.mk (i64_of (x := (u : Int)) (by omega) (by omega))
          have IA := Aside0.mk (i64_of (x := a) (by omega) (by omega))
          have HT := Aside0.mk (take_empty k a u k0 k1 hc1)
          have c0 := HG.out.c0
          have c1 := HG.out.c1
          have c2 := HG.out.c2
          have c3 := HG.out.c3
          have f0 := HG.out.fr 0
          have f1 := HG.out.fr 1
          have f2 := HG.out.fr 2
          have f3 := HG.out.fr 3
          have hg := HG.out.lt
          go_wp2_with (first | (go_at_call 12; (with_reducible refine (take_at 0 0 k a u _ _ _ _ IA.out IT.out HT.out).mono ?_); rintro e w5 ⟨rfl, hb⟩; have n0_ := Aside0.mk (below_step (by repeat (first | (with_reducible first | exact HB.out | apply below_alloc | apply pw_below_drewN | apply below_drew1) | exact HB.out)) hb); have n1_ := Aside0.mk (HG.out.below hb); clear HB HG; have HB := n0_; have HG := n1_; clear n0_ n1_ hb c0 c1 c2 c3 f0 f1 f2 f3 hg; have c0 := HG.out.c0; have c1 := HG.out.c1; have c2 := HG.out.c2; have c3 := HG.out.c3; have f0 := HG.out.fr 0; have f1 := HG.out.fr 1; have f2 := HG.out.fr 2; have f3 := HG.out.fr 3; have hg := HG.out.lt))
          go_roundw
          case rel => exact ⟨u + 1, u, by omega, by omega, by go_num, rfl, by omega, by omega, ⟨(by repeat (first | (with_reducible first | exact HB.out | (refine below_set ?_ HGE.out _) | apply below_alloc | apply pw_below_drewN | apply below_drew1) | exact HB.out))⟩, ⟨(HG.out.put4 _ _ _ _).alloc _⟩⟩
          case measure => simp [intOf]; omega
        · go_wp2
          go_ret
          exact ⟨rfl, (by repeat (first | (with_reducible first | exact HB.out | (refine below_set ?_ HGE.out _) | apply below_alloc | apply pw_below_drewN | apply below_drew1) | exact HB.out))⟩

theorem BucketRate_walk (every long size : Int) (w : World) (w0 : (Lit.int .u8 every).wf = true) (w1 : (Lit.int .u8 long).wf = true) (w2 : (Lit.int .u8 size).wf = true) :
    Calls Try.prog 7 #[.int .u8 every, .int .u8 long, .int .u8 size] w fun e w' => e = .returned (.bool true) ∧ Below w.heap.size w w' := by
  obtain ⟨p0, p1⟩ := Go.bounds_u8 w0
  obtain ⟨q0, q1⟩ := Go.bounds_u8 w1
  obtain ⟨r0, r1⟩ := Go.bounds_u8 w2
  by_cases h : size % 5 = 0
  · exact rate_zero every long size (1 + every % 9) _ (long % 60) w p0 p1 q0 q1 r0 r1 rfl rfl (by omega) h rfl (by omega) (by omega) (by omega) (by omega)
  · exact rate_pos every long size (1 + every % 9) _ (size % 5) (long % 60) w p0 p1 q0 q1 r0 r1 rfl rfl (by omega) rfl rfl (by omega) (by omega) (by omega) (by omega) (by omega) (by omega)
end Go.Proofs.Ytdfphcealdgldaa.Hand
