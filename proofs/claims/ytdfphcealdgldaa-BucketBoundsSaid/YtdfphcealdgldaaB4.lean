/- BucketBounds: the walks. -/
import Derived.Test.YtdfphcealdgldaaB2
import Derived.OpenShut
set_option linter.unusedVariables false
namespace Go.Proofs.Ytdfphcealdgldaa.Hand
open Go.RowKit Go.Proofs.Ytdfphcealdgldaa.PBucketBounds Go.Proofs.YtdfphcealdgldaaW.PrintWords Go.Proofs.YtdfphcealdgldaaW.PrintLast Go.Proofs.YtdfphcealdgldaaW.PrintMore

theorem bounds_step (n l k a t T : Int) (k0 : 1 ≤ k) (k1 : k ≤ 12) (n1 : n ≤ 7) (l0 : 0 ≤ l) (l1 : l ≤ n) (a0 : 0 ≤ a) (a1 : a ≤ t) (hT : T + l ≤ n + a / k) :
    ∃ l' a' b, takeV n l k a t = (l', a', b) ∧ 0 ≤ l' ∧ l' ≤ n ∧ 0 ≤ a' ∧ a' ≤ t ∧ (b = true → l' + 1 ≤ n ∧ T + 1 + l' ≤ n + a' / k) ∧ (b = false → T + l' ≤ n + a' / k) := by
  have hr : rightP n l k := by unfold rightP; omega
  have key : ∃ l1 a1, fillV n l k a t = (l1, a1) ∧ 0 ≤ l1 ∧ l1 ≤ n ∧ 0 ≤ a1 ∧ a1 ≤ t ∧ T + l1 ≤ n + a1 / k := by
    unfold fillV
    rw [if_pos hr]
    by_cases h1 : l = n
    · rw [if_pos h1]
      by_cases h2 : a < t
      · rw [if_pos h2]
        have := Int.ediv_le_ediv (show 0 < k by omega) (show a ≤ t by omega)
        exact ⟨n, t, rfl, by omega, by omega, by omega, by omega, by omega⟩
      · rw [if_neg h2]
        exact ⟨n, a, rfl, by omega, by omega, by omega, by omega, by omega⟩
    rw [if_neg h1, if_neg (by omega)]
    have hd := div_bd a1 k0
    have e2 := Int.mul_ediv_add_emod a k
    have e3 := Int.emod_nonneg a (show k ≠ 0 by omega)
    have hsum : (a + (t - a) / k * k) / k = a / k + (t - a) / k := Int.add_mul_ediv_right _ _ (by omega)
    have hm := Int.mul_nonneg hd.1 (show 0 ≤ k by omega)
    by_cases h3 : (t - a) / k ≥ n - l
    · rw [if_pos h3]
      have := Int.ediv_le_ediv (show 0 < k by omega) (show a + (t - a) / k * k ≤ t by omega)
      exact ⟨n, t, rfl, by omega, by omega, by omega, by omega, by omega⟩
    · rw [if_neg h3]
      exact ⟨_, _, rfl, by omega, by omega, by omega, by omega, by rw [hsum]; omega⟩
  obtain ⟨l1, a1, e, b0, b1, b2, b3, b4⟩ := key
  unfold takeV
  rw [e]
  by_cases h : l1 = 0
  · rw [if_neg (by simp [h])]
    exact ⟨_, _, _, rfl, b0, b1, b2, b3, fun h => by simp at h, fun _ => b4⟩
  · rw [if_pos ⟨hr, by simpa using h⟩]
    exact ⟨_, _, _, rfl, by simp; omega, by simp; omega, b2, b3, fun _ => ⟨by simp; omega, by simp; omega⟩, fun h => by simp at h⟩
theorem cell8 {w W : World} {A : Option Addr} {l : List Int} (hr : ReadsInt w .u8 A l.length l) (hb : Below w.heap.size w W) (i : Nat) (hi : i < l.length) (x : Int) (ex : l.getD i 0 = x) : ∃ ad, A = some ad ∧ W.cell? (ad.add i) = some (.int .u8 x) := by
  obtain ⟨ad, e, hc⟩ := (hr.below hb).at_ (i : Int) (by omega) (by omega)
  refine ⟨ad, e, ?_⟩
  subst ex
  simpa [rd] using hc
theorem u8_at {l : List Int} (hw : ∀ x ∈ l, (Lit.int .u8 x).wf = true) (i : Nat) (hi : i < l.length) (x : Int) (ex : l.getD i 0 = x) : 0 ≤ x ∧ x ≤ 255 := by
  subst ex
  have e : l.getD i 0 = l[i] := by simp [hi]
  rw [e]
  exact Go.bounds_u8 (hw _ (List.getElem_mem hi))
set_option maxHeartbeats 1000000 in
set_option maxRecDepth 100000 in
theorem bounds_all_pos (size every : Int) (A : Option Addr) (cap : Nat) (L : List Int) (n k k9 : Int) (w : World) (p0 : 0 ≤ every) (p1 : every ≤ 255) (r0 : 0 ≤ size) (r1 : size ≤ 255) (hr : ReadsInt w .u8 A L.length L) (hw : ∀ x ∈ L, (Lit.int .u8 x).wf = true) (e1 : every % 12 = k9) (e4 : 1 + k9 = k) (k90 : 0 ≤ k9) (e2 : size % 8 = n) (k0 : 1 ≤ k) (k1 : k ≤ 12) (n1 : n ≤ 7) (n0 : 1 ≤ n) (hl : L.length ≤ 60) :
    Calls Try.prog 4 #[.int .u8 size, .int .u8 every, .slice A L.length cap] w fun e w' => e = .returned (.bool true) ∧ Below w.heap.size w w' := by
  have HB := Aside0.mk (Below.refl w.heap.size w)
  have hu := Try.underlying23
  have HR := Aside0.mk hr; clear hr
  have HW := Aside0.mk hw; clear hw
  have HN := Aside0.mk (show (if rightP n n k then (n, n, k, 0, 0) else (0, 0, 0, 0, 1)) = (n, n, k, (0 : Int), (0 : Int)) by rw [if_pos (by unfold rightP; omega)])
  go_enter Try.func4, Try.ntmps4
  go_wp2_with (first | (go_at_call 8; (with_reducible refine (examples_c _).mono ?_); rintro e w1 ⟨rfl, hb⟩; have n0_ := Aside0.mk (below_step (by repeat (first | (with_reducible first | exact HB.out | apply below_alloc | apply pw_below_drewN | apply below_drew1) | exact HB.out)) hb); clear HB; have HB := n0_; clear n0_) | (go_at_call 10; (with_reducible refine (new_at n k n n k 0 _ HN.out).mono ?_); rintro e w1 ⟨rfl, hb⟩; have n0_ := Aside0.mk (below_step (by repeat (first | (with_reducible first | exact HB.out | apply below_alloc | apply pw_below_drewN | apply below_drew1) | exact HB.out)) hb); clear HB; have HB := n0_; clear n0_))
  have HG := Aside0.mk (Bk.new w1 n n k 0)
  have HGE := Aside0.mk (below_size HB.out)
  clear HN
  go_loopw [12, 13, 14] (fun v12 v13 v14 wr => ∃ (i : Nat) (t' T l a : Int), i ≤ L.length ∧ v14 = .int .i64 i ∧ v12 = .int .i64 t' ∧ v13 = .int .i64 T ∧ 0 ≤ t' ∧ t' ≤ 7 * (i : Int) ∧ 0 ≤ T ∧ T ≤ (i : Int) ∧ 0 ≤ l ∧ l ≤ n ∧ 0 ≤ a ∧ a ≤ t' ∧ Aside0 (T + l ≤ n + a / k) ∧ Aside0 (Below w.heap.size w wr) ∧ Aside0 (Bk wr w1.heap.size n l k a)) (fun _ _ v _ => L.length - (intOf v).toNat)
  case atStart => exact ⟨0, 0, 0, n, 0, by omega, rfl, rfl, rfl, by omega, by omega, by omega, by omega, by omega, by omega, by omega, by omega, ⟨by simp⟩, ⟨(by repeat (first | (with_reducible first | exact HB.out | apply below_alloc | apply pw_below_drewN | apply below_drew1) | exact HB.out))⟩, HG⟩
  case round =>
    clear HB HG
    obtain ⟨i, t', T, l, a, hi, rfl, rfl, rfl, ht0, ht1, hT0, hT1, hl0, hl1, ha0, ha1, HTT, HB, HG⟩ := hrel
    by_cases hlt : i < L.length
    · obtain ⟨x, ex⟩ : ∃ x, L.getD i 0 = x := ⟨_, rfl⟩
      obtain ⟨ad, eA, hcell⟩ := cell8 HR.out HB.out i (by omega) x ex
      subst eA
      obtain ⟨hx0, hx1⟩ := u8_at HW.out i (by omega) x ex
      clear ex
      obtain ⟨t, et⟩ : ∃ t, t' + x % 8 = t := ⟨_, rfl⟩
      have hta : a ≤ t := by omega
      have htb : t ≤ 7 * ((i : Int) + 1) := by omega
      have htc : 0 ≤ t := by omega
      obtain ⟨l', a', b, hT, hl'0, hl'1, ha'0, ha'1, hyes, hno⟩ := bounds_step n l k a t T k0 k1 (by omega) hl0 hl1 ha0 hta HTT.out
      have IA := Aside0.mk (i64_of (x := a) (by omega) (by omega))
      have IT := Aside0.mk (i64_of (x := t) (by omega) (by omega))
      have HR2 := Aside0.mk (show decide (rightP n l' k) = true by rw [decide_eq_true_eq]; unfold rightP; omega)
      have HYES := Aside0.mk hyes
      have HNO := Aside0.mk hno
      clear hyes hno HTT
      have hqq := Int.ediv_le_ediv (show 0 < k by omega) ha'1
      obtain ⟨q, hq⟩ : ∃ q, t / k = q := ⟨_, rfl⟩
      rw [hq] at hqq
      have hq0 : 0 ≤ q := by rw [← hq]; exact Int.ediv_nonneg htc (by omega)
      have hq1 : q ≤ t := by rw [← hq]; exact Int.ediv_le_self _ htc
      obtain ⟨q', hq'⟩ : ∃ q', a' / k = q' := ⟨_, rfl⟩
      rw [hq'] at hqq
      rw [hq'] at HYES HNO
      have HQ' := Aside0.mk hq'
      clear hq'
      cases b with
      | true =>
        have h1 := (HYES.out rfl).1
        have h2 := (HYES.out rfl).2
        clear HYES HNO
        have HT := Aside0.mk hT
        clear hT
        have c0 := HG.out.c0
        have c1 := HG.out.c1
        have c2 := HG.out.c2
        have c3 := HG.out.c3
        have f0 := HG.out.fr 0
        have f1 := HG.out.fr 1
        have f2 := HG.out.fr 2
        have f3 := HG.out.fr 3
        have hg := HG.out.lt
        go_wp2_with (first | (go_at_call 12; (with_reducible refine (take_at n l k a t _ _ _ _ IA.out IT.out HT.out).mono ?_); rintro e w5 ⟨rfl, hb⟩; have n0_ := Aside0.mk (below_step (by repeat (first | (with_reducible first | exact HB.out | apply below_alloc | apply pw_below_drewN | apply below_drew1) | exact HB.out)) hb); have n1_ := Aside0.mk (HG.out.below hb); clear HB HG; have HB := n0_; have HG := n1_; clear n0_ n1_ hb c0 c1 c2 c3 f0 f1 f2 f3 hg; have c0 := HG.out.c0; have c1 := HG.out.c1; have c2 := HG.out.c2; have c3 := HG.out.c3; have f0 := HG.out.fr 0; have f1 := HG.out.fr 1; have f2 := HG.out.fr 2; have f3 := HG.out.fr 3; have hg := HG.out.lt) | (go_at_call 15; (with_reducible refine (right_at n l' k a' true _ HR2.out).mono ?_); rintro e w6 ⟨rfl, hb⟩; have n0_ := Aside0.mk (below_step (by repeat (first | (with_reducible first | exact HB.out | apply below_alloc | apply pw_below_drewN | apply below_drew1) | exact HB.out)) hb); have n1_ := Aside0.mk ((HG.out.alloc _).below hb); have n2_ := Aside0.mk ((Bk.new w5 n l' k a').below hb); clear HB HG; have HB := n0_; have HG := n1_; have HC := n2_; clear n0_ n1_ n2_ hb c0 c1 c2 c3 f0 f1 f2 f3 hg; have c0 := HG.out.c0; have c1 := HG.out.c1; have c2 := HG.out.c2; have c3 := HG.out.c3; have f0 := HG.out.fr 0; have f1 := HG.out.fr 1; have f2 := HG.out.fr 2; have f3 := HG.out.fr 3; have hg := HG.out.lt; have d0 := HC.out.c0; have d1 := HC.out.c1; have d2 := HC.out.c2; have d3 := HC.out.c3; have g0 := HC.out.fr 0; have g1 := HC.out.fr 1; have g2 := HC.out.fr 2; have g3 := HC.out.fr 3; have hd := HC.out.lt))
        go_roundw
        case rel => exact ⟨i + 1, t, T + 1, l', a', by omega, by go_num, rfl, rfl, by omega, by omega, by omega, by omega, by omega, by omega, by omega, by omega, ⟨by rw [HQ'.out]; exact h2⟩, ⟨(by repeat (first | (with_reducible first | exact HB.out | (refine below_set ?_ HGE.out _) | apply below_alloc | apply pw_below_drewN | apply below_drew1) | exact HB.out))⟩, ⟨HG.out.put4 _ _ _ _⟩⟩
        case measure => simp [intOf]; omega
      | false =>
        have h1 := HNO.out rfl
        clear HYES HNO
        have HT := Aside0.mk hT
        clear hT
        have c0 := HG.out.c0
        have c1 := HG.out.c1
        have c2 := HG.out.c2
        have c3 := HG.out.c3
        have f0 := HG.out.fr 0
        have f1 := HG.out.fr 1
        have f2 := HG.out.fr 2
        have f3 := HG.out.fr 3
        have hg := HG.out.lt
        go_wp2_with (first | (go_at_call 12; (with_reducible refine (take_at n l k a t _ _ _ _ IA.out IT.out HT.out).mono ?_); rintro e w5 ⟨rfl, hb⟩; have n0_ := Aside0.mk (below_step (by repeat (first | (with_reducible first | exact HB.out | apply below_alloc | apply pw_below_drewN | apply below_drew1) | exact HB.out)) hb); have n1_ := Aside0.mk (HG.out.below hb); clear HB HG; have HB := n0_; have HG := n1_; clear n0_ n1_ hb c0 c1 c2 c3 f0 f1 f2 f3 hg; have c0 := HG.out.c0; have c1 := HG.out.c1; have c2 := HG.out.c2; have c3 := HG.out.c3; have f0 := HG.out.fr 0; have f1 := HG.out.fr 1; have f2 := HG.out.fr 2; have f3 := HG.out.fr 3; have hg := HG.out.lt) | (go_at_call 15; (with_reducible refine (right_at n l' k a' true _ HR2.out).mono ?_); rintro e w6 ⟨rfl, hb⟩; have n0_ := Aside0.mk (below_step (by repeat (first | (with_reducible first | exact HB.out | apply below_alloc | apply pw_below_drewN | apply below_drew1) | exact HB.out)) hb); have n1_ := Aside0.mk ((HG.out.alloc _).below hb); have n2_ := Aside0.mk ((Bk.new w5 n l' k a').below hb); clear HB HG; have HB := n0_; have HG := n1_; have HC := n2_; clear n0_ n1_ n2_ hb c0 c1 c2 c3 f0 f1 f2 f3 hg; have c0 := HG.out.c0; have c1 := HG.out.c1; have c2 := HG.out.c2; have c3 := HG.out.c3; have f0 := HG.out.fr 0; have f1 := HG.out.fr 1; have f2 := HG.out.fr 2; have f3 := HG.out.fr 3; have hg := HG.out.lt; have d0 := HC.out.c0; have d1 := HC.out.c1; have d2 := HC.out.c2; have d3 := HC.out.c3; have g0 := HC.out.fr 0; have g1 := HC.out.fr 1; have g2 := HC.out.fr 2; have g3 := HC.out.fr 3; have hd := HC.out.lt))
        go_roundw
        case rel => exact ⟨i + 1, t, T, l', a', by omega, by go_num, rfl, rfl, by omega, by omega, by omega, by omega, by omega, by omega, by omega, by omega, ⟨by rw [HQ'.out]; exact h1⟩, ⟨(by repeat (first | (with_reducible first | exact HB.out | (refine below_set ?_ HGE.out _) | apply below_alloc | apply pw_below_drewN | apply below_drew1) | exact HB.out))⟩, ⟨HG.out.put4 _ _ _ _⟩⟩
        case measure => simp [intOf]; omega
    · go_wp2
      go_ret
      exact ⟨rfl, (by repeat (first | (with_reducible first | exact HB.out | (refine below_set ?_ HGE.out _) | apply below_alloc | apply pw_below_drewN | apply below_drew1) | exact HB.out))⟩
set_option maxHeartbeats 1000000 in
set_option maxRecDepth 100000 in
theorem bounds_ge_pos (size every : Int) (A : Option Addr) (cap : Nat) (L : List Int) (n k k9 : Int) (w : World) (p0 : 0 ≤ every) (p1 : every ≤ 255) (r0 : 0 ≤ size) (r1 : size ≤ 255) (hr : ReadsInt w .u8 A L.length L) (hw : ∀ x ∈ L, (Lit.int .u8 x).wf = true) (e1 : every % 12 = k9) (e4 : 1 + k9 = k) (k90 : 0 ≤ k9) (e2 : size % 8 = n) (k0 : 1 ≤ k) (k1 : k ≤ 12) (n1 : n ≤ 7) (n0 : 1 ≤ n) (hl : 60 < L.length) :
    Calls Try.prog 4 #[.int .u8 size, .int .u8 every, .slice A L.length cap] w fun e w' => e = .returned (.bool true) ∧ Below w.heap.size w w' := by
  have HB := Aside0.mk (Below.refl w.heap.size w)
  have hu := Try.underlying23
  have HR := Aside0.mk hr; clear hr
  have HW := Aside0.mk hw; clear hw
  have HN := Aside0.mk (show (if rightP n n k then (n, n, k, 0, 0) else (0, 0, 0, 0, 1)) = (n, n, k, (0 : Int), (0 : Int)) by rw [if_pos (by unfold rightP; omega)])
  go_enter Try.func4, Try.ntmps4
  go_wp2_with (first | (go_at_call 8; (with_reducible refine (examples_c _).mono ?_); rintro e w1 ⟨rfl, hb⟩; have n0_ := Aside0.mk (below_step (by repeat (first | (with_reducible first | exact HB.out | apply below_alloc | apply pw_below_drewN | apply below_drew1) | exact HB.out)) hb); clear HB; have HB := n0_; clear n0_) | (go_at_call 10; (with_reducible refine (new_at n k n n k 0 _ HN.out).mono ?_); rintro e w1 ⟨rfl, hb⟩; have n0_ := Aside0.mk (below_step (by repeat (first | (with_reducible first | exact HB.out | apply below_alloc | apply pw_below_drewN | apply below_drew1) | exact HB.out)) hb); clear HB; have HB := n0_; clear n0_))
  have HG := Aside0.mk (Bk.new w1 n n k 0)
  have HGE := Aside0.mk (below_size HB.out)
  clear HN
  go_loopw [12, 13, 14] (fun v12 v13 v14 wr => ∃ (i : Nat) (t' T l a : Int), i ≤ 60 ∧ v14 = .int .i64 i ∧ v12 = .int .i64 t' ∧ v13 = .int .i64 T ∧ 0 ≤ t' ∧ t' ≤ 7 * (i : Int) ∧ 0 ≤ T ∧ T ≤ (i : Int) ∧ 0 ≤ l ∧ l ≤ n ∧ 0 ≤ a ∧ a ≤ t' ∧ Aside0 (T + l ≤ n + a / k) ∧ Aside0 (Below w.heap.size w wr) ∧ Aside0 (Bk wr w1.heap.size n l k a)) (fun _ _ v _ => 60 - (intOf v).toNat)
  case atStart => exact ⟨0, 0, 0, n, 0, by omega, rfl, rfl, rfl, by omega, by omega, by omega, by omega, by omega, by omega, by omega, by omega, ⟨by simp⟩, ⟨(by repeat (first | (with_reducible first | exact HB.out | apply below_alloc | apply pw_below_drewN | apply below_drew1) | exact HB.out))⟩, HG⟩
  case round =>
    clear HB HG
    obtain ⟨i, t', T, l, a, hi, rfl, rfl, rfl, ht0, ht1, hT0, hT1, hl0, hl1, ha0, ha1, HTT, HB, HG⟩ := hrel
    by_cases hlt : i < 60
    · obtain ⟨x, ex⟩ : ∃ x, L.getD i 0 = x := ⟨_, rfl⟩
      obtain ⟨ad, eA, hcell⟩ := cell8 HR.out HB.out i (by omega) x ex
      subst eA
      obtain ⟨hx0, hx1⟩ := u8_at HW.out i (by omega) x ex
      clear ex
      obtain ⟨t, et⟩ : ∃ t, t' + x % 8 = t := ⟨_, rfl⟩
      have hta : a ≤ t := by omega
      have htb : t ≤ 7 * ((i : Int) + 1) := by omega
      have htc : 0 ≤ t := by omega
      obtain ⟨l', a', b, hT, hl'0, hl'1, ha'0, ha'1, hyes, hno⟩ := bounds_step n l k a t T k0 k1 (by omega) hl0 hl1 ha0 hta HTT.out
      have IA := Aside0.mk (i64_of (x := a) (by omega) (by omega))
      have IT := Aside0.mk (i64_of (x := t) (by omega) (by omega))
      have HR2 := Aside0.mk (show decide (rightP n l' k) = true by rw [decide_eq_true_eq]; unfold rightP; omega)
      have HYES := Aside0.mk hyes
      have HNO := Aside0.mk hno
      clear hyes hno HTT
      have hqq := Int.ediv_le_ediv (show 0 < k by omega) ha'1
      obtain ⟨q, hq⟩ : ∃ q, t / k = q := ⟨_, rfl⟩
      rw [hq] at hqq
      have hq0 : 0 ≤ q := by rw [← hq]; exact Int.ediv_nonneg htc (by omega)
      have hq1 : q ≤ t := by rw [← hq]; exact Int.ediv_le_self _ htc
      obtain ⟨q', hq'⟩ : ∃ q', a' / k = q' := ⟨_, rfl⟩
      rw [hq'] at hqq
      rw [hq'] at HYES HNO
      have HQ' := Aside0.mk hq'
      clear hq'
      cases b with
      | true =>
        have h1 := (HYES.out rfl).1
        have h2 := (HYES.out rfl).2
        clear HYES HNO
        have HT := Aside0.mk hT
        clear hT
        have c0 := HG.out.c0
        have c1 := HG.out.c1
        have c2 := HG.out.c2
        have c3 := HG.out.c3
        have f0 := HG.out.fr 0
        have f1 := HG.out.fr 1
        have f2 := HG.out.fr 2
        have f3 := HG.out.fr 3
        have hg := HG.out.lt
        go_wp2_with (first | (go_at_call 12; (with_reducible refine (take_at n l k a t _ _ _ _ IA.out IT.out HT.out).mono ?_); rintro e w5 ⟨rfl, hb⟩; have n0_ := Aside0.mk (below_step (by repeat (first | (with_reducible first | exact HB.out | apply below_alloc | apply pw_below_drewN | apply below_drew1) | exact HB.out)) hb); have n1_ := Aside0.mk (HG.out.below hb); clear HB HG; have HB := n0_; have HG := n1_; clear n0_ n1_ hb c0 c1 c2 c3 f0 f1 f2 f3 hg; have c0 := HG.out.c0; have c1 := HG.out.c1; have c2 := HG.out.c2; have c3 := HG.out.c3; have f0 := HG.out.fr 0; have f1 := HG.out.fr 1; have f2 := HG.out.fr 2; have f3 := HG.out.fr 3; have hg := HG.out.lt) | (go_at_call 15; (with_reducible refine (right_at n l' k a' true _ HR2.out).mono ?_); rintro e w6 ⟨rfl, hb⟩; have n0_ := Aside0.mk (below_step (by repeat (first | (with_reducible first | exact HB.out | apply below_alloc | apply pw_below_drewN | apply below_drew1) | exact HB.out)) hb); have n1_ := Aside0.mk ((HG.out.alloc _).below hb); have n2_ := Aside0.mk ((Bk.new w5 n l' k a').below hb); clear HB HG; have HB := n0_; have HG := n1_; have HC := n2_; clear n0_ n1_ n2_ hb c0 c1 c2 c3 f0 f1 f2 f3 hg; have c0 := HG.out.c0; have c1 := HG.out.c1; have c2 := HG.out.c2; have c3 := HG.out.c3; have f0 := HG.out.fr 0; have f1 := HG.out.fr 1; have f2 := HG.out.fr 2; have f3 := HG.out.fr 3; have hg := HG.out.lt; have d0 := HC.out.c0; have d1 := HC.out.c1; have d2 := HC.out.c2; have d3 := HC.out.c3; have g0 := HC.out.fr 0; have g1 := HC.out.fr 1; have g2 := HC.out.fr 2; have g3 := HC.out.fr 3; have hd := HC.out.lt))
        go_roundw
        case rel => exact ⟨i + 1, t, T + 1, l', a', by omega, by go_num, rfl, rfl, by omega, by omega, by omega, by omega, by omega, by omega, by omega, by omega, ⟨by rw [HQ'.out]; exact h2⟩, ⟨(by repeat (first | (with_reducible first | exact HB.out | (refine below_set ?_ HGE.out _) | apply below_alloc | apply pw_below_drewN | apply below_drew1) | exact HB.out))⟩, ⟨HG.out.put4 _ _ _ _⟩⟩
        case measure => simp [intOf]; omega
      | false =>
        have h1 := HNO.out rfl
        clear HYES HNO
        have HT := Aside0.mk hT
        clear hT
        have c0 := HG.out.c0
        have c1 := HG.out.c1
        have c2 := HG.out.c2
        have c3 := HG.out.c3
        have f0 := HG.out.fr 0
        have f1 := HG.out.fr 1
        have f2 := HG.out.fr 2
        have f3 := HG.out.fr 3
        have hg := HG.out.lt
        go_wp2_with (first | (go_at_call 12; (with_reducible refine (take_at n l k a t _ _ _ _ IA.out IT.out HT.out).mono ?_); rintro e w5 ⟨rfl, hb⟩; have n0_ := Aside0.mk (below_step (by repeat (first | (with_reducible first | exact HB.out | apply below_alloc | apply pw_below_drewN | apply below_drew1) | exact HB.out)) hb); have n1_ := Aside0.mk (HG.out.below hb); clear HB HG; have HB := n0_; have HG := n1_; clear n0_ n1_ hb c0 c1 c2 c3 f0 f1 f2 f3 hg; have c0 := HG.out.c0; have c1 := HG.out.c1; have c2 := HG.out.c2; have c3 := HG.out.c3; have f0 := HG.out.fr 0; have f1 := HG.out.fr 1; have f2 := HG.out.fr 2; have f3 := HG.out.fr 3; have hg := HG.out.lt) | (go_at_call 15; (with_reducible refine (right_at n l' k a' true _ HR2.out).mono ?_); rintro e w6 ⟨rfl, hb⟩; have n0_ := Aside0.mk (below_step (by repeat (first | (with_reducible first | exact HB.out | apply below_alloc | apply pw_below_drewN | apply below_drew1) | exact HB.out)) hb); have n1_ := Aside0.mk ((HG.out.alloc _).below hb); have n2_ := Aside0.mk ((Bk.new w5 n l' k a').below hb); clear HB HG; have HB := n0_; have HG := n1_; have HC := n2_; clear n0_ n1_ n2_ hb c0 c1 c2 c3 f0 f1 f2 f3 hg; have c0 := HG.out.c0; have c1 := HG.out.c1; have c2 := HG.out.c2; have c3 := HG.out.c3; have f0 := HG.out.fr 0; have f1 := HG.out.fr 1; have f2 := HG.out.fr 2; have f3 := HG.out.fr 3; have hg := HG.out.lt; have d0 := HC.out.c0; have d1 := HC.out.c1; have d2 := HC.out.c2; have d3 := HC.out.c3; have g0 := HC.out.fr 0; have g1 := HC.out.fr 1; have g2 := HC.out.fr 2; have g3 := HC.out.fr 3; have hd := HC.out.lt))
        go_roundw
        case rel => exact ⟨i + 1, t, T, l', a', by omega, by go_num, rfl, rfl, by omega, by omega, by omega, by omega, by omega, by omega, by omega, by omega, ⟨by rw [HQ'.out]; exact h1⟩, ⟨(by repeat (first | (with_reducible first | exact HB.out | (refine below_set ?_ HGE.out _) | apply below_alloc | apply pw_below_drewN | apply below_drew1) | exact HB.out))⟩, ⟨HG.out.put4 _ _ _ _⟩⟩
        case measure => simp [intOf]; omega
    · go_wp2
      go_ret
      exact ⟨rfl, (by repeat (first | (with_reducible first | exact HB.out | (refine below_set ?_ HGE.out _) | apply below_alloc | apply pw_below_drewN | apply below_drew1) | exact HB.out))⟩
set_option maxHeartbeats 1000000 in
set_option maxRecDepth 100000 in
theorem bounds_all_zero (size every : Int) (A : Option Addr) (cap : Nat) (L : List Int) (n k k9 : Int) (w : World) (p0 : 0 ≤ every) (p1 : every ≤ 255) (r0 : 0 ≤ size) (r1 : size ≤ 255) (hr : ReadsInt w .u8 A L.length L) (hw : ∀ x ∈ L, (Lit.int .u8 x).wf = true) (e1 : every % 12 = k9) (e4 : 1 + k9 = k) (k90 : 0 ≤ k9) (e2 : size % 8 = 0) (k0 : 1 ≤ k) (k1 : k ≤ 12) (n1 : n ≤ 7)  (hl : L.length ≤ 60) :
    Calls Try.prog 4 #[.int .u8 size, .int .u8 every, .slice A L.length cap] w fun e w' => e = .returned (.bool true) ∧ Below w.heap.size w w' := by
  have HB := Aside0.mk (Below.refl w.heap.size w)
  have hu := Try.underlying23
  have HR := Aside0.mk hr; clear hr
  have HW := Aside0.mk hw; clear hw
  have HN := Aside0.mk (show (if rightP 0 0 k then (0, 0, k, 0, 0) else (0, 0, 0, 0, 1)) = ((0 : Int), (0 : Int), k, (0 : Int), (0 : Int)) by rw [if_pos (by unfold rightP; omega)])
  go_enter Try.func4, Try.ntmps4
  go_wp2_with (first | (go_at_call 8; (with_reducible refine (examples_c _).mono ?_); rintro e w1 ⟨rfl, hb⟩; have n0_ := Aside0.mk (below_step (by repeat (first | (with_reducible first | exact HB.out | apply below_alloc | apply pw_below_drewN | apply below_drew1) | exact HB.out)) hb); clear HB; have HB := n0_; clear n0_) | (go_at_call 10; (with_reducible refine (new_at 0 k 0 0 k 0 _ HN.out).mono ?_); rintro e w1 ⟨rfl, hb⟩; have n0_ := Aside0.mk (below_step (by repeat (first | (with_reducible first | exact HB.out | apply below_alloc | apply pw_below_drewN | apply below_drew1) | exact HB.out)) hb); clear HB; have HB := n0_; clear n0_))
  have HG := Aside0.mk (Bk.new w1 0 0 k 0)
  have HGE := Aside0.mk (below_size HB.out)
  clear HN
  go_loopw [12, 13, 14] (fun v12 v13 v14 wr => ∃ (i : Nat) (t' T l a : Int), i ≤ L.length ∧ v14 = .int .i64 i ∧ v12 = .int .i64 t' ∧ v13 = .int .i64 T ∧ 0 ≤ t' ∧ t' ≤ 7 * (i : Int) ∧ 0 ≤ T ∧ T ≤ (i : Int) ∧ 0 ≤ l ∧ l ≤ 0 ∧ 0 ≤ a ∧ a ≤ t' ∧ Aside0 (T + l ≤ 0 + a / k) ∧ Aside0 (Below w.heap.size w wr) ∧ Aside0 (Bk wr w1.heap.size 0 l k a)) (fun _ _ v _ => L.length - (intOf v).toNat)
  case atStart => exact ⟨0, 0, 0, 0, 0, by omega, rfl, rfl, rfl, by omega, by omega, by omega, by omega, by omega, by omega, by omega, by omega, ⟨by simp⟩, ⟨(by repeat (first | (with_reducible first | exact HB.out | apply below_alloc | apply pw_below_drewN | apply below_drew1) | exact HB.out))⟩, HG⟩
  case round =>
    clear HB HG
    obtain ⟨i, t', T, l, a, hi, rfl, rfl, rfl, ht0, ht1, hT0, hT1, hl0, hl1, ha0, ha1, HTT, HB, HG⟩ := hrel
    by_cases hlt : i < L.length
    · obtain ⟨x, ex⟩ : ∃ x, L.getD i 0 = x := ⟨_, rfl⟩
      obtain ⟨ad, eA, hcell⟩ := cell8 HR.out HB.out i (by omega) x ex
      subst eA
      obtain ⟨hx0, hx1⟩ := u8_at HW.out i (by omega) x ex
      clear ex
      obtain ⟨t, et⟩ : ∃ t, t' + x % 8 = t := ⟨_, rfl⟩
      have hta : a ≤ t := by omega
      have htb : t ≤ 7 * ((i : Int) + 1) := by omega
      have htc : 0 ≤ t := by omega
      obtain ⟨l', a', b, hT, hl'0, hl'1, ha'0, ha'1, hyes, hno⟩ := bounds_step 0 l k a t T k0 k1 (by omega) hl0 hl1 ha0 hta HTT.out
      have IA := Aside0.mk (i64_of (x := a) (by omega) (by omega))
      have IT := Aside0.mk (i64_of (x := t) (by omega) (by omega))
      have HR2 := Aside0.mk (show decide (rightP 0 l' k) = true by rw [decide_eq_true_eq]; unfold rightP; omega)
      have HYES := Aside0.mk hyes
      have HNO := Aside0.mk hno
      clear hyes hno HTT
      have hqq := Int.ediv_le_ediv (show 0 < k by omega) ha'1
      obtain ⟨q, hq⟩ : ∃ q, t / k = q := ⟨_, rfl⟩
      rw [hq] at hqq
      have hq0 : 0 ≤ q := by rw [← hq]; exact Int.ediv_nonneg htc (by omega)
      have hq1 : q ≤ t := by rw [← hq]; exact Int.ediv_le_self _ htc
      obtain ⟨q', hq'⟩ : ∃ q', a' / k = q' := ⟨_, rfl⟩
      rw [hq'] at hqq
      rw [hq'] at HYES HNO
      have HQ' := Aside0.mk hq'
      clear hq'
      cases b with
      | true =>
        exact absurd (HYES.out rfl).1 (by omega)
      | false =>
        have h1 := HNO.out rfl
        clear HYES HNO
        have HT := Aside0.mk hT
        clear hT
        have c0 := HG.out.c0
        have c1 := HG.out.c1
        have c2 := HG.out.c2
        have c3 := HG.out.c3
        have f0 := HG.out.fr 0
        have f1 := HG.out.fr 1
        have f2 := HG.out.fr 2
        have f3 := HG.out.fr 3
        have hg := HG.out.lt
        go_wp2_with (first | (go_at_call 12; (with_reducible refine (take_at 0 l k a t _ _ _ _ IA.out IT.out HT.out).mono ?_); rintro e w5 ⟨rfl, hb⟩; have n0_ := Aside0.mk (below_step (by repeat (first | (with_reducible first | exact HB.out | apply below_alloc | apply pw_below_drewN | apply below_drew1) | exact HB.out)) hb); have n1_ := Aside0.mk (HG.out.below hb); clear HB HG; have HB := n0_; have HG := n1_; clear n0_ n1_ hb c0 c1 c2 c3 f0 f1 f2 f3 hg; have c0 := HG.out.c0; have c1 := HG.out.c1; have c2 := HG.out.c2; have c3 := HG.out.c3; have f0 := HG.out.fr 0; have f1 := HG.out.fr 1; have f2 := HG.out.fr 2; have f3 := HG.out.fr 3; have hg := HG.out.lt) | (go_at_call 15; (with_reducible refine (right_at 0 l' k a' true _ HR2.out).mono ?_); rintro e w6 ⟨rfl, hb⟩; have n0_ := Aside0.mk (below_step (by repeat (first | (with_reducible first | exact HB.out | apply below_alloc | apply pw_below_drewN | apply below_drew1) | exact HB.out)) hb); have n1_ := Aside0.mk ((HG.out.alloc _).below hb); have n2_ := Aside0.mk ((Bk.new w5 0 l' k a').below hb); clear HB HG; have HB := n0_; have HG := n1_; have HC := n2_; clear n0_ n1_ n2_ hb c0 c1 c2 c3 f0 f1 f2 f3 hg; have c0 := HG.out.c0; have c1 := HG.out.c1; have c2 := HG.out.c2; have c3 := HG.out.c3; have f0 := HG.out.fr 0; have f1 := HG.out.fr 1; have f2 := HG.out.fr 2; have f3 := HG.out.fr 3; have hg := HG.out.lt; have d0 := HC.out.c0; have d1 := HC.out.c1; have d2 := HC.out.c2; have d3 := HC.out.c3; have g0 := HC.out.fr 0; have g1 := HC.out.fr 1; have g2 := HC.out.fr 2; have g3 := HC.out.fr 3; have hd := HC.out.lt))
        go_roundw
        case rel => exact ⟨i + 1, t, T, l', a', by omega, by go_num, rfl, rfl, by omega, by omega, by omega, by omega, by omega, by omega, by omega, by omega, ⟨by rw [HQ'.out]; exact h1⟩, ⟨(by repeat (first | (with_reducible first | exact HB.out | (refine below_set ?_ HGE.out _) | apply below_alloc | apply pw_below_drewN | apply below_drew1) | exact HB.out))⟩, ⟨HG.out.put4 _ _ _ _⟩⟩
        case measure => simp [intOf]; omega
    · go_wp2
      go_ret
      exact ⟨rfl, (by repeat (first | (with_reducible first | exact HB.out | (refine below_set ?_ HGE.out _) | apply below_alloc | apply pw_below_drewN | apply below_drew1) | exact HB.out))⟩
set_option maxHeartbeats 1000000 in
set_option maxRecDepth 100000 in
theorem bounds_ge_zero (size every : Int) (A : Option Addr) (cap : Nat) (L : List Int) (n k k9 : Int) (w : World) (p0 : 0 ≤ every) (p1 : every ≤ 255) (r0 : 0 ≤ size) (r1 : size ≤ 255) (hr : ReadsInt w .u8 A L.length L) (hw : ∀ x ∈ L, (Lit.int .u8 x).wf = true) (e1 : every % 12 = k9) (e4 : 1 + k9 = k) (k90 : 0 ≤ k9) (e2 : size % 8 = 0) (k0 : 1 ≤ k) (k1 : k ≤ 12) (n1 : n ≤ 7)  (hl : 60 < L.length) :
    Calls Try.prog 4 #[.int .u8 size, .int .u8 every, .slice A L.length cap] w fun e w' => e = .returned (.bool true) ∧ Below w.heap.size w w' := by
  have HB := Aside0.mk (Below.refl w.heap.size w)
  have hu := Try.underlying23
  have HR := Aside0.mk hr; clear hr
  have HW := Aside0.mk hw; clear hw
  have HN := Aside0.mk (show (if rightP 0 0 k then (0, 0, k, 0, 0) else (0, 0, 0, 0, 1)) = ((0 : Int), (0 : Int), k, (0 : Int), (0 : Int)) by rw [if_pos (by unfold rightP; omega)])
  go_enter Try.func4, Try.ntmps4
  go_wp2_with (first | (go_at_call 8; (with_reducible refine (examples_c _).mono ?_); rintro e w1 ⟨rfl, hb⟩; have n0_ := Aside0.mk (below_step (by repeat (first | (with_reducible first | exact HB.out | apply below_alloc | apply pw_below_drewN | apply below_drew1) | exact HB.out)) hb); clear HB; have HB := n0_; clear n0_) | (go_at_call 10; (with_reducible refine (new_at 0 k 0 0 k 0 _ HN.out).mono ?_); rintro e w1 ⟨rfl, hb⟩; have n0_ := Aside0.mk (below_step (by repeat (first | (with_reducible first | exact HB.out | apply below_alloc | apply pw_below_drewN | apply below_drew1) | exact HB.out)) hb); clear HB; have HB := n0_; clear n0_))
  have HG := Aside0.mk (Bk.new w1 0 0 k 0)
  have HGE := Aside0.mk (below_size HB.out)
  clear HN
  go_loopw [12, 13, 14] (fun v12 v13 v14 wr => ∃ (i : Nat) (t' T l a : Int), i ≤ 60 ∧ v14 = .int .i64 i ∧ v12 = .int .i64 t' ∧ v13 = .int .i64 T ∧ 0 ≤ t' ∧ t' ≤ 7 * (i : Int) ∧ 0 ≤ T ∧ T ≤ (i : Int) ∧ 0 ≤ l ∧ l ≤ 0 ∧ 0 ≤ a ∧ a ≤ t' ∧ Aside0 (T + l ≤ 0 + a / k) ∧ Aside0 (Below w.heap.size w wr) ∧ Aside0 (Bk wr w1.heap.size 0 l k a)) (fun _ _ v _ => 60 - (intOf v).toNat)
  case atStart => exact ⟨0, 0, 0, 0, 0, by omega, rfl, rfl, rfl, by omega, by omega, by omega, by omega, by omega, by omega, by omega, by omega, ⟨by simp⟩, ⟨(by repeat (first | (with_reducible first | exact HB.out | apply below_alloc | apply pw_below_drewN | apply below_drew1) | exact HB.out))⟩, HG⟩
  case round =>
    clear HB HG
    obtain ⟨i, t', T, l, a, hi, rfl, rfl, rfl, ht0, ht1, hT0, hT1, hl0, hl1, ha0, ha1, HTT, HB, HG⟩ := hrel
    by_cases hlt : i < 60
    · obtain ⟨x, ex⟩ : ∃ x, L.getD i 0 = x := ⟨_, rfl⟩
      obtain ⟨ad, eA, hcell⟩ := cell8 HR.out HB.out i (by omega) x ex
      subst eA
      obtain ⟨hx0, hx1⟩ := u8_at HW.out i (by omega) x ex
      clear ex
      obtain ⟨t, et⟩ : ∃ t, t' + x % 8 = t := ⟨_, rfl⟩
      have hta : a ≤ t := by omega
      have htb : t ≤ 7 * ((i : Int) + 1) := by omega
      have htc : 0 ≤ t := by omega
      obtain ⟨l', a', b, hT, hl'0, hl'1, ha'0, ha'1, hyes, hno⟩ := bounds_step 0 l k a t T k0 k1 (by omega) hl0 hl1 ha0 hta HTT.out
      have IA := Aside0.mk (i64_of (x := a) (by omega) (by omega))
      have IT := Aside0.mk (i64_of (x := t) (by omega) (by omega))
      have HR2 := Aside0.mk (show decide (rightP 0 l' k) = true by rw [decide_eq_true_eq]; unfold rightP; omega)
      have HYES := Aside0.mk hyes
      have HNO := Aside0.mk hno
      clear hyes hno HTT
      have hqq := Int.ediv_le_ediv (show 0 < k by omega) ha'1
      obtain ⟨q, hq⟩ : ∃ q, t / k = q := ⟨_, rfl⟩
      rw [hq] at hqq
      have hq0 : 0 ≤ q := by rw [← hq]; exact Int.ediv_nonneg htc (by omega)
      have hq1 : q ≤ t := by rw [← hq]; exact Int.ediv_le_self _ htc
      obtain ⟨q', hq'⟩ : ∃ q', a' / k = q' := ⟨_, rfl⟩
      rw [hq'] at hqq
      rw [hq'] at HYES HNO
      have HQ' := Aside0.mk hq'
      clear hq'
      cases b with
      | true =>
        exact absurd (HYES.out rfl).1 (by omega)
      | false =>
        have h1 := HNO.out rfl
        clear HYES HNO
        have HT := Aside0.mk hT
        clear hT
        have c0 := HG.out.c0
        have c1 := HG.out.c1
        have c2 := HG.out.c2
        have c3 := HG.out.c3
        have f0 := HG.out.fr 0
        have f1 := HG.out.fr 1
        have f2 := HG.out.fr 2
        have f3 := HG.out.fr 3
        have hg := HG.out.lt
        go_wp2_with (first | (go_at_call 12; (with_reducible refine (take_at 0 l k a t _ _ _ _ IA.out IT.out HT.out).mono ?_); rintro e w5 ⟨rfl, hb⟩; have n0_ := Aside0.mk (below_step (by repeat (first | (with_reducible first | exact HB.out | apply below_alloc | apply pw_below_drewN | apply below_drew1) | exact HB.out)) hb); have n1_ := Aside0.mk (HG.out.below hb); clear HB HG; have HB := n0_; have HG := n1_; clear n0_ n1_ hb c0 c1 c2 c3 f0 f1 f2 f3 hg; have c0 := HG.out.c0; have c1 := HG.out.c1; have c2 := HG.out.c2; have c3 := HG.out.c3; have f0 := HG.out.fr 0; have f1 := HG.out.fr 1; have f2 := HG.out.fr 2; have f3 := HG.out.fr 3; have hg := HG.out.lt) | (go_at_call 15; (with_reducible refine (right_at 0 l' k a' true _ HR2.out).mono ?_); rintro e w6 ⟨rfl, hb⟩; have n0_ := Aside0.mk (below_step (by repeat (first | (with_reducible first | exact HB.out | apply below_alloc | apply pw_below_drewN | apply below_drew1) | exact HB.out)) hb); have n1_ := Aside0.mk ((HG.out.alloc _).below hb); have n2_ := Aside0.mk ((Bk.new w5 0 l' k a').below hb); clear HB HG; have HB := n0_; have HG := n1_; have HC := n2_; clear n0_ n1_ n2_ hb c0 c1 c2 c3 f0 f1 f2 f3 hg; have c0 := HG.out.c0; have c1 := HG.out.c1; have c2 := HG.out.c2; have c3 := HG.out.c3; have f0 := HG.out.fr 0; have f1 := HG.out.fr 1; have f2 := HG.out.fr 2; have f3 := HG.out.fr 3; have hg := HG.out.lt; have d0 := HC.out.c0; have d1 := HC.out.c1; have d2 := HC.out.c2; have d3 := HC.out.c3; have g0 := HC.out.fr 0; have g1 := HC.out.fr 1; have g2 := HC.out.fr 2; have g3 := HC.out.fr 3; have hd := HC.out.lt))
        go_roundw
        case rel => exact ⟨i + 1, t, T, l', a', by omega, by go_num, rfl, rfl, by omega, by omega, by omega, by omega, by omega, by omega, by omega, by omega, ⟨by rw [HQ'.out]; exact h1⟩, ⟨(by repeat (first | (with_reducible first | exact HB.out | (refine below_set ?_ HGE.out _) | apply below_alloc | apply pw_below_drewN | apply below_drew1) | exact HB.out))⟩, ⟨HG.out.put4 _ _ _ _⟩⟩
        case measure => simp [intOf]; omega
    · go_wp2
      go_ret
      exact ⟨rfl, (by repeat (first | (with_reducible first | exact HB.out | (refine below_set ?_ HGE.out _) | apply below_alloc | apply pw_below_drewN | apply below_drew1) | exact HB.out))⟩

theorem BucketBounds_walk (size every : Int) (A : Option Addr) (cap : Nat) (L : List Int) (w : World) (w0 : (Lit.int .u8 size).wf = true) (w1 : (Lit.int .u8 every).wf = true) (hr : ReadsInt w .u8 A L.length L) (hm : L.length ≤ maxLen) (hw : ∀ x ∈ L, (Lit.int .u8 x).wf = true) (hc : L.length ≤ cap) (hy : L.length * 1 ≤ 140737488351232) :
    Calls Try.prog 4 #[.int .u8 size, .int .u8 every, .slice A L.length cap] w fun e w' => e = .returned (.bool true) ∧ Below w.heap.size w w' := by
  obtain ⟨r0, r1⟩ := Go.bounds_u8 w0
  obtain ⟨p0, p1⟩ := Go.bounds_u8 w1
  by_cases h : size % 8 = 0 <;> rcases Nat.lt_or_ge 60 L.length with g | g
  · exact bounds_ge_zero size every A cap L 0 (1 + every % 12) _ w p0 p1 r0 r1 hr hw rfl rfl (by omega) h (by omega) (by omega) (by omega) g
  · exact bounds_all_zero size every A cap L 0 (1 + every % 12) _ w p0 p1 r0 r1 hr hw rfl rfl (by omega) h (by omega) (by omega) (by omega) g
  · exact bounds_ge_pos size every A cap L (size % 8) (1 + every % 12) _ w p0 p1 r0 r1 hr hw rfl rfl (by omega) rfl (by omega) (by omega) (by omega) (by omega) g
  · exact bounds_all_pos size every A cap L (size % 8) (1 + every % 12) _ w p0 p1 r0 r1 hr hw rfl rfl (by omega) rfl (by omega) (by omega) (by omega) (by omega) g
end Go.Proofs.Ytdfphcealdgldaa.Hand
