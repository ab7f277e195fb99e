/- Chapter 8: value.reckon. -/
import Derived.Test.YtimmomhgljofnaaDoorVB
import Derived.Deep.RegionLaw
import Derived.Deep.DeepCutAuto
import Derived.Deep.CutBlock
set_option linter.unusedVariables false
set_option linter.unusedSimpArgs false
namespace Go.Proofs.YtimmomhgljofnaaDoor.Hand
open Go.Proofs.YtimmomhgljofnaaDoor.PValueBad
open Go.RowKit Go.Proofs.YtimmomhgljofnaaDoorW.PrintWords Go.Proofs.YtimmomhgljofnaaDoorW.PrintLast Go.Proofs.YtimmomhgljofnaaDoorW.PrintMore
set_option maxHeartbeats 16000000 in
set_option maxRecDepth 100000 in
theorem reckon_c (nm : ByteArray → Bool) {B : List S55} (hB : InB B) : ∀ (d : Nat) (x : S24), SizeOf.sizeOf x ≤ d → rightE nm x = true → InE x → typesE x ≠ 0 → ∀ {W : World} {A : Option Addr} {c : Nat} {BA : Option Addr} {bl bc : Nat}, Kd.C k24 W A x.f5.length x.f5 → x.f5.length ≤ c → Kd.C k55 W BA bl B →
    Calls Tryd.prog 39 #[.agg #[.int .i64 x.f0, .string x.f1, .int .i64 x.f2, .string x.f3, .string x.f4, .slice A x.f5.length c], .slice BA bl bc] W fun e w' => e = .returned (vW (reckonE B x)) ∧ Below W.heap.size W w' := by
  intro d
  induction d with
  | zero =>
    intro x hx
    have : 0 < SizeOf.sizeOf x := by cases x; simp only [S24.mk.sizeOf_spec]; omega
    omega
  | succ d ih =>
    intro x hx hr hI ht W A c BA bl bc hC hc hCB
    obtain ⟨k, op, n, v, f, kids⟩ := x
    simp only [S24.mk.sizeOf_spec] at hx
    rw [InE] at hI
    simp only at hC hc ⊢
    have HR := Aside0.mk hC
    have HBB := Aside0.mk hCB
    clear hC hCB
    have HB0 := Aside0.mk (Below.refl W.heap.size W)
    rcases right_kinds hr with ⟨rfl, rfl⟩ | ⟨rfl, rfl⟩ | ⟨rfl, hop, y, rfl, hy⟩ | ⟨rfl, hlv, y, z, rfl, hy, hz⟩
    · have HT := Aside0.mk (show reckonE B ⟨0, op, n, v, f, []⟩ = .num n by rw [reckonE, if_pos rfl])
      clear ih hx hr ht
      go_enter Tryd.func39, Tryd.ntmps39
      go_upto_region 2 with fail
      have HB := Aside0.mk (show Below W.heap.size W (W.alloc (.cells #[.int .i64 0, .string op, .int .i64 n, .string v, .string f, .slice A ([] : List S24).length c] 24 (0, 0))) from below_alloc (Below.refl _ _) _)
      have BE := Aside0.mk (show (W.alloc (.cells #[.int .i64 0, .string op, .int .i64 n, .string v, .string f, .slice A ([] : List S24).length c] 24 (0, 0))).heap[W.heap.size]? = some (.cells #[.int .i64 0, .string op, .int .i64 n, .string v, .string f, .slice A ([] : List S24).length c] 24 (0, 0)) from blk_new _ _)
      clear HB0
      generalize (W.alloc (.cells #[.int .i64 0, .string op, .int .i64 n, .string v, .string f, .slice A ([] : List S24).length c] 24 (0, 0))) = w0 at *
      obtain ⟨qBE_0, qBE_1, qBE_2, qBE_3, qBE_4, qBE_5, lBE⟩ := cells6 BE.out
      have HL := Aside0.mk (Below.refl w0.heap.size w0)
      go_wp2
      all_goals (try (exfalso; omega))
      all_goals go_ret
      all_goals exact ⟨by rw [HT.out]; rfl, (by repeat (first | (with_reducible first | exact HB.out | apply below_alloc | apply pw_below_drewN | apply below_drew1) | exact HB.out))⟩
    · obtain ⟨⟨n1, ok1⟩, hlk⟩ : ∃ p, lookF B v f = p := ⟨_, rfl⟩
      have HT := Aside0.mk (show reckonE B ⟨1, op, n, v, f, []⟩ = numV (n1, ok1) by rw [reckonE, if_neg (by decide), if_pos rfl, hlk])
      have HLK := Aside0.mk hlk
      clear ih hx hr ht hlk
      go_enter Tryd.func39, Tryd.ntmps39
      go_upto_region 2 with fail
      have HB := Aside0.mk (show Below W.heap.size W (W.alloc (.cells #[.int .i64 1, .string op, .int .i64 n, .string v, .string f, .slice A ([] : List S24).length c] 24 (0, 0))) from below_alloc (Below.refl _ _) _)
      have BE := Aside0.mk (show (W.alloc (.cells #[.int .i64 1, .string op, .int .i64 n, .string v, .string f, .slice A ([] : List S24).length c] 24 (0, 0))).heap[W.heap.size]? = some (.cells #[.int .i64 1, .string op, .int .i64 n, .string v, .string f, .slice A ([] : List S24).length c] 24 (0, 0)) from blk_new _ _)
      clear HB0
      generalize (W.alloc (.cells #[.int .i64 1, .string op, .int .i64 n, .string v, .string f, .slice A ([] : List S24).length c] 24 (0, 0))) = w0 at *
      obtain ⟨qBE_0, qBE_1, qBE_2, qBE_3, qBE_4, qBE_5, lBE⟩ := cells6 BE.out
      have HL := Aside0.mk (Below.refl w0.heap.size w0)
      have t1_ := ta_bb
      have t2_ := ta_bt
      have t3_ := ta_bn
      have t4_ := ta_nb
      have t5_ := ta_nn
      go_wp2_with (first | (go_at_call 27; (with_reducible refine (look_c (Kd.C_below HBB.out (by repeat (first | (with_reducible first | exact HB.out | apply below_alloc | apply pw_below_drewN | apply below_drew1) | exact HB.out))) v f n1 ok1 HLK.out).mono ?_); rintro e w1 ⟨rfl, hb⟩; have n0_ := Aside0.mk (below_step (by repeat (first | (with_reducible first | exact HB.out | apply below_alloc | apply pw_below_drewN | apply below_drew1) | exact HB.out)) hb); clear HB; have HB := n0_; clear n0_; have hs_ := below_step (by repeat (first | (with_reducible first | exact HL.out | apply below_alloc | apply pw_below_drewN | apply below_drew1) | exact HL.out)) hb; have n_ := Aside0.mk (blk_below BE.out hs_); clear qBE_0 qBE_1 qBE_2 qBE_3 qBE_4 qBE_5 lBE; clear BE; have BE := n_; clear n_; obtain ⟨qBE_0, qBE_1, qBE_2, qBE_3, qBE_4, qBE_5, lBE⟩ := cells6 BE.out; clear HL hs_ hb; have HL := Aside0.mk (Below.refl w1.heap.size w1)) | (go_at_call 47; (with_reducible refine (num_c n1 ok1).mono ?_); rintro e w4 ⟨rfl, hb⟩; have n0_ := Aside0.mk (below_step (by repeat (first | (with_reducible first | exact HB.out | apply below_alloc | apply pw_below_drewN | apply below_drew1) | exact HB.out)) hb); clear HB; have HB := n0_; clear n0_; have hs_ := below_step (by repeat (first | (with_reducible first | exact HL.out | apply below_alloc | apply pw_below_drewN | apply below_drew1) | exact HL.out)) hb; have n_ := Aside0.mk (blk_below BE.out hs_); clear qBE_0 qBE_1 qBE_2 qBE_3 qBE_4 qBE_5 lBE; clear BE; have BE := n_; clear n_; obtain ⟨qBE_0, qBE_1, qBE_2, qBE_3, qBE_4, qBE_5, lBE⟩ := cells6 BE.out; clear HL hs_ hb; have HL := Aside0.mk (Below.refl w4.heap.size w4)))
      all_goals (try (exfalso; omega))
      all_goals go_ret
      all_goals exact ⟨by rw [HT.out]; rfl, (by repeat (first | (with_reducible first | exact HB.out | apply below_alloc | apply pw_below_drewN | apply below_drew1) | exact HB.out))⟩
    · obtain ⟨t1, t2⟩ := types_one (by decide) ht
      have hs : SizeOf.sizeOf y < SizeOf.sizeOf [y] := List.sizeOf_lt_of_mem (by simp)
      rw [InK] at hI
      have hA : ∃ ad, A = some ad := by
        obtain ⟨ad, e, _⟩ := HR.out.2.2 (by simp)
        exact ⟨ad, e⟩
      obtain ⟨ad, rfl⟩ := hA
      have hty : typesE y ≠ 0 := by rw [t1]; unfold wantE; split <;> decide
      have HI0Q := Aside0.mk (show ∀ (W2 : World) (A2 : Option Addr) (c2 : Nat), Kd.C k24 W2 A2 y.f5.length y.f5 → y.f5.length ≤ c2 → Kd.C k55 W2 BA bl B → Calls Tryd.prog 39 #[.agg #[.int .i64 y.f0, .string y.f1, .int .i64 y.f2, .string y.f3, .string y.f4, .slice A2 y.f5.length c2], .slice BA bl bc] W2 fun e w' => e = .returned (vW (reckonE B y)) ∧ Below W2.heap.size W2 w' from fun W2 A2 c2 h1 h2 h3 => ih y (by omega) hy hI.2.1 hty h1 h2 h3)
      have hyt := reck_typ nm hB (SizeOf.sizeOf y) y (Nat.le_refl _) hy hI.2.1 hty
      clear ih hx hr ht hs
      cases e : op.toList == [33]
      · obtain ⟨w1, w2⟩ := want2n e
        have hyv : NumR (reckonE B y) := by
          rcases hyt with ⟨_, h⟩ | ⟨h, _⟩
          · exact h
          · omega
        clear hyt t1 t2 w1 w2 hop
        rcases hyv with hv | ⟨a, ha, hv⟩
        · have HI0 := Aside0.mk (show ∀ (W2 : World) (A2 : Option Addr) (c2 : Nat), Kd.C k24 W2 A2 y.f5.length y.f5 → y.f5.length ≤ c2 → Kd.C k55 W2 BA bl B → Calls Tryd.prog 39 #[.agg #[.int .i64 y.f0, .string y.f1, .int .i64 y.f2, .string y.f3, .string y.f4, .slice A2 y.f5.length c2], .slice BA bl bc] W2 fun e w' => e = .returned (.iface 80 (.agg #[])) ∧ Below W2.heap.size W2 w' from by
            have h_ := HI0Q.out
            rw [hv] at h_
            exact h_)
          have HT := Aside0.mk (show reckonE B ⟨2, op, n, v, f, [y]⟩ = .bad by rw [reckonE, if_neg (by decide), if_neg (by decide), reckonL, reckonL]; rw [hv, comb_bad])
          go_enter Tryd.func39, Tryd.ntmps39
          go_upto_region 2 with fail
          have HB := Aside0.mk (show Below W.heap.size W (W.alloc (.cells #[.int .i64 2, .string op, .int .i64 n, .string v, .string f, .slice (some ad) [y].length c] 24 (0, 0))) from below_alloc (Below.refl _ _) _)
          have BE := Aside0.mk (show (W.alloc (.cells #[.int .i64 2, .string op, .int .i64 n, .string v, .string f, .slice (some ad) [y].length c] 24 (0, 0))).heap[W.heap.size]? = some (.cells #[.int .i64 2, .string op, .int .i64 n, .string v, .string f, .slice (some ad) [y].length c] 24 (0, 0)) from blk_new _ _)
          clear HB0
          generalize (W.alloc (.cells #[.int .i64 2, .string op, .int .i64 n, .string v, .string f, .slice (some ad) [y].length c] 24 (0, 0))) = w0 at *
          obtain ⟨qBE_0, qBE_1, qBE_2, qBE_3, qBE_4, qBE_5, lBE⟩ := cells6 BE.out
          have HL := Aside0.mk (Below.refl w0.heap.size w0)
          obtain ⟨A5, c5, e0, e1, e2, e3, e4, e5, hk0c, hK0⟩ := kid0 (Kd.C_below HR.out HB.out)
          have HK0 := Aside0.mk hK0
          clear hK0
          have t1_ := ta_bb
          have t2_ := ta_bt
          have t3_ := ta_bn
          have t4_ := ta_nb
          have t5_ := ta_nn
          go_wp2_with (first | (go_at_call 39; (with_reducible refine (HI0.out _ _ _ (Kd.C_below HK0.out (by repeat (first | (with_reducible first | exact HL.out | apply below_alloc | apply pw_below_drewN | apply below_drew1) | exact HL.out))) hk0c (Kd.C_below HBB.out (by repeat (first | (with_reducible first | exact HB.out | apply below_alloc | apply pw_below_drewN | apply below_drew1) | exact HB.out)))).mono ?_); rintro e w1 ⟨rfl, hb⟩; have n0_ := Aside0.mk (below_step (by repeat (first | (with_reducible first | exact HB.out | apply below_alloc | apply pw_below_drewN | apply below_drew1) | exact HB.out)) hb); clear HB; have HB := n0_; clear n0_; have hs_ := below_step (by repeat (first | (with_reducible first | exact HL.out | apply below_alloc | apply pw_below_drewN | apply below_drew1) | exact HL.out)) hb; have n_ := Aside0.mk (blk_below BE.out hs_); clear qBE_0 qBE_1 qBE_2 qBE_3 qBE_4 qBE_5 lBE; clear BE; have BE := n_; clear n_; obtain ⟨qBE_0, qBE_1, qBE_2, qBE_3, qBE_4, qBE_5, lBE⟩ := cells6 BE.out; clear e0 e1 e2 e3 e4 e5 HK0; clear HL hs_ hb; have HL := Aside0.mk (Below.refl w1.heap.size w1)))
          all_goals (try (exfalso; omega))
          all_goals go_ret
          all_goals exact ⟨by rw [HT.out]; rfl, (by repeat (first | (with_reducible first | exact HB.out | apply below_alloc | apply pw_below_drewN | apply below_drew1) | exact HB.out))⟩
        · have HI0 := Aside0.mk (show ∀ (W2 : World) (A2 : Option Addr) (c2 : Nat), Kd.C k24 W2 A2 y.f5.length y.f5 → y.f5.length ≤ c2 → Kd.C k55 W2 BA bl B → Calls Tryd.prog 39 #[.agg #[.int .i64 y.f0, .string y.f1, .int .i64 y.f2, .string y.f3, .string y.f4, .slice A2 y.f5.length c2], .slice BA bl bc] W2 fun e w' => e = .returned (.iface 2 (.int .i64 a)) ∧ Below W2.heap.size W2 w' from by
            have h_ := HI0Q.out
            rw [hv] at h_
            exact h_)
          obtain ⟨⟨n1, ok1⟩, hok⟩ : ∃ p, okF (0 - a) = p := ⟨_, rfl⟩
          have HT := Aside0.mk (show reckonE B ⟨2, op, n, v, f, [y]⟩ = numV (n1, ok1) by rw [reckonE, if_neg (by decide), if_neg (by decide), reckonL, reckonL]; rw [hv, comb_neg, hok])
          have HOK := Aside0.mk hok
          clear hok
          go_enter Tryd.func39, Tryd.ntmps39
          go_upto_region 2 with fail
          have HB := Aside0.mk (show Below W.heap.size W (W.alloc (.cells #[.int .i64 2, .string op, .int .i64 n, .string v, .string f, .slice (some ad) [y].length c] 24 (0, 0))) from below_alloc (Below.refl _ _) _)
          have BE := Aside0.mk (show (W.alloc (.cells #[.int .i64 2, .string op, .int .i64 n, .string v, .string f, .slice (some ad) [y].length c] 24 (0, 0))).heap[W.heap.size]? = some (.cells #[.int .i64 2, .string op, .int .i64 n, .string v, .string f, .slice (some ad) [y].length c] 24 (0, 0)) from blk_new _ _)
          clear HB0
          generalize (W.alloc (.cells #[.int .i64 2, .string op, .int .i64 n, .string v, .string f, .slice (some ad) [y].length c] 24 (0, 0))) = w0 at *
          obtain ⟨qBE_0, qBE_1, qBE_2, qBE_3, qBE_4, qBE_5, lBE⟩ := cells6 BE.out
          have HL := Aside0.mk (Below.refl w0.heap.size w0)
          obtain ⟨A5, c5, e0, e1, e2, e3, e4, e5, hk0c, hK0⟩ := kid0 (Kd.C_below HR.out HB.out)
          have HK0 := Aside0.mk hK0
          clear hK0
          have t1_ := ta_bb
          have t2_ := ta_bt
          have t3_ := ta_bn
          have t4_ := ta_nb
          have t5_ := ta_nn
          go_wp2_with (first | (go_at_call 39; (with_reducible refine (HI0.out _ _ _ (Kd.C_below HK0.out (by repeat (first | (with_reducible first | exact HL.out | apply below_alloc | apply pw_below_drewN | apply below_drew1) | exact HL.out))) hk0c (Kd.C_below HBB.out (by repeat (first | (with_reducible first | exact HB.out | apply below_alloc | apply pw_below_drewN | apply below_drew1) | exact HB.out)))).mono ?_); rintro e w1 ⟨rfl, hb⟩; have n0_ := Aside0.mk (below_step (by repeat (first | (with_reducible first | exact HB.out | apply below_alloc | apply pw_below_drewN | apply below_drew1) | exact HB.out)) hb); clear HB; have HB := n0_; clear n0_; have hs_ := below_step (by repeat (first | (with_reducible first | exact HL.out | apply below_alloc | apply pw_below_drewN | apply below_drew1) | exact HL.out)) hb; have n_ := Aside0.mk (blk_below BE.out hs_); clear qBE_0 qBE_1 qBE_2 qBE_3 qBE_4 qBE_5 lBE; clear BE; have BE := n_; clear n_; obtain ⟨qBE_0, qBE_1, qBE_2, qBE_3, qBE_4, qBE_5, lBE⟩ := cells6 BE.out; clear e0 e1 e2 e3 e4 e5 HK0; clear HL hs_ hb; have HL := Aside0.mk (Below.refl w1.heap.size w1)) | (go_at_call 16; (with_reducible refine (sub_c (show InI 0 by unfold InI; omega) ha n1 ok1 HOK.out).mono ?_); rintro e w3 ⟨rfl, hb⟩; have n0_ := Aside0.mk (below_step (by repeat (first | (with_reducible first | exact HB.out | apply below_alloc | apply pw_below_drewN | apply below_drew1) | exact HB.out)) hb); clear HB; have HB := n0_; clear n0_; have hs_ := below_step (by repeat (first | (with_reducible first | exact HL.out | apply below_alloc | apply pw_below_drewN | apply below_drew1) | exact HL.out)) hb; have n_ := Aside0.mk (blk_below BE.out hs_); clear qBE_0 qBE_1 qBE_2 qBE_3 qBE_4 qBE_5 lBE; clear BE; have BE := n_; clear n_; obtain ⟨qBE_0, qBE_1, qBE_2, qBE_3, qBE_4, qBE_5, lBE⟩ := cells6 BE.out; clear HL hs_ hb; have HL := Aside0.mk (Below.refl w3.heap.size w3)) | (go_at_call 47; (with_reducible refine (num_c n1 ok1).mono ?_); rintro e w4 ⟨rfl, hb⟩; have n0_ := Aside0.mk (below_step (by repeat (first | (with_reducible first | exact HB.out | apply below_alloc | apply pw_below_drewN | apply below_drew1) | exact HB.out)) hb); clear HB; have HB := n0_; clear n0_; have hs_ := below_step (by repeat (first | (with_reducible first | exact HL.out | apply below_alloc | apply pw_below_drewN | apply below_drew1) | exact HL.out)) hb; have n_ := Aside0.mk (blk_below BE.out hs_); clear qBE_0 qBE_1 qBE_2 qBE_3 qBE_4 qBE_5 lBE; clear BE; have BE := n_; clear n_; obtain ⟨qBE_0, qBE_1, qBE_2, qBE_3, qBE_4, qBE_5, lBE⟩ := cells6 BE.out; clear HL hs_ hb; have HL := Aside0.mk (Below.refl w4.heap.size w4)))
          all_goals (try (exfalso; omega))
          all_goals go_ret
          all_goals exact ⟨by rw [HT.out]; rfl, (by repeat (first | (with_reducible first | exact HB.out | apply below_alloc | apply pw_below_drewN | apply below_drew1) | exact HB.out))⟩
      · obtain ⟨w1, w2⟩ := want2y e
        have hyv : TrR (reckonE B y) := by
          rcases hyt with ⟨h, _⟩ | ⟨_, h⟩
          · omega
          · exact h
        clear hyt t1 t2 w1 w2 hop
        rcases hyv with hv | ⟨b, hv⟩
        · have HI0 := Aside0.mk (show ∀ (W2 : World) (A2 : Option Addr) (c2 : Nat), Kd.C k24 W2 A2 y.f5.length y.f5 → y.f5.length ≤ c2 → Kd.C k55 W2 BA bl B → Calls Tryd.prog 39 #[.agg #[.int .i64 y.f0, .string y.f1, .int .i64 y.f2, .string y.f3, .string y.f4, .slice A2 y.f5.length c2], .slice BA bl bc] W2 fun e w' => e = .returned (.iface 80 (.agg #[])) ∧ Below W2.heap.size W2 w' from by
            have h_ := HI0Q.out
            rw [hv] at h_
            exact h_)
          have HT := Aside0.mk (show reckonE B ⟨2, op, n, v, f, [y]⟩ = .bad by rw [reckonE, if_neg (by decide), if_neg (by decide), reckonL, reckonL]; rw [hv, comb_bad])
          go_enter Tryd.func39, Tryd.ntmps39
          go_upto_region 2 with fail
          have HB := Aside0.mk (show Below W.heap.size W (W.alloc (.cells #[.int .i64 2, .string op, .int .i64 n, .string v, .string f, .slice (some ad) [y].length c] 24 (0, 0))) from below_alloc (Below.refl _ _) _)
          have BE := Aside0.mk (show (W.alloc (.cells #[.int .i64 2, .string op, .int .i64 n, .string v, .string f, .slice (some ad) [y].length c] 24 (0, 0))).heap[W.heap.size]? = some (.cells #[.int .i64 2, .string op, .int .i64 n, .string v, .string f, .slice (some ad) [y].length c] 24 (0, 0)) from blk_new _ _)
          clear HB0
          generalize (W.alloc (.cells #[.int .i64 2, .string op, .int .i64 n, .string v, .string f, .slice (some ad) [y].length c] 24 (0, 0))) = w0 at *
          obtain ⟨qBE_0, qBE_1, qBE_2, qBE_3, qBE_4, qBE_5, lBE⟩ := cells6 BE.out
          have HL := Aside0.mk (Below.refl w0.heap.size w0)
          obtain ⟨A5, c5, e0, e1, e2, e3, e4, e5, hk0c, hK0⟩ := kid0 (Kd.C_below HR.out HB.out)
          have HK0 := Aside0.mk hK0
          clear hK0
          have t1_ := ta_bb
          have t2_ := ta_bt
          have t3_ := ta_bn
          have t4_ := ta_nb
          have t5_ := ta_nn
          go_wp2_with (first | (go_at_call 39; (with_reducible refine (HI0.out _ _ _ (Kd.C_below HK0.out (by repeat (first | (with_reducible first | exact HL.out | apply below_alloc | apply pw_below_drewN | apply below_drew1) | exact HL.out))) hk0c (Kd.C_below HBB.out (by repeat (first | (with_reducible first | exact HB.out | apply below_alloc | apply pw_below_drewN | apply below_drew1) | exact HB.out)))).mono ?_); rintro e w1 ⟨rfl, hb⟩; have n0_ := Aside0.mk (below_step (by repeat (first | (with_reducible first | exact HB.out | apply below_alloc | apply pw_below_drewN | apply below_drew1) | exact HB.out)) hb); clear HB; have HB := n0_; clear n0_; have hs_ := below_step (by repeat (first | (with_reducible first | exact HL.out | apply below_alloc | apply pw_below_drewN | apply below_drew1) | exact HL.out)) hb; have n_ := Aside0.mk (blk_below BE.out hs_); clear qBE_0 qBE_1 qBE_2 qBE_3 qBE_4 qBE_5 lBE; clear BE; have BE := n_; clear n_; obtain ⟨qBE_0, qBE_1, qBE_2, qBE_3, qBE_4, qBE_5, lBE⟩ := cells6 BE.out; clear e0 e1 e2 e3 e4 e5 HK0; clear HL hs_ hb; have HL := Aside0.mk (Below.refl w1.heap.size w1)))
          all_goals (try (exfalso; omega))
          all_goals go_ret
          all_goals exact ⟨by rw [HT.out]; rfl, (by repeat (first | (with_reducible first | exact HB.out | apply below_alloc | apply pw_below_drewN | apply below_drew1) | exact HB.out))⟩
        · have HI0 := Aside0.mk (show ∀ (W2 : World) (A2 : Option Addr) (c2 : Nat), Kd.C k24 W2 A2 y.f5.length y.f5 → y.f5.length ≤ c2 → Kd.C k55 W2 BA bl B → Calls Tryd.prog 39 #[.agg #[.int .i64 y.f0, .string y.f1, .int .i64 y.f2, .string y.f3, .string y.f4, .slice A2 y.f5.length c2], .slice BA bl bc] W2 fun e w' => e = .returned (.iface 4 (.bool b)) ∧ Below W2.heap.size W2 w' from by
            have h_ := HI0Q.out
            rw [hv] at h_
            exact h_)
          have HT := Aside0.mk (show reckonE B ⟨2, op, n, v, f, [y]⟩ = .tr (!b) by rw [reckonE, if_neg (by decide), if_neg (by decide), reckonL, reckonL]; rw [hv, comb_bang e])
          go_enter Tryd.func39, Tryd.ntmps39
          go_upto_region 2 with fail
          have HB := Aside0.mk (show Below W.heap.size W (W.alloc (.cells #[.int .i64 2, .string op, .int .i64 n, .string v, .string f, .slice (some ad) [y].length c] 24 (0, 0))) from below_alloc (Below.refl _ _) _)
          have BE := Aside0.mk (show (W.alloc (.cells #[.int .i64 2, .string op, .int .i64 n, .string v, .string f, .slice (some ad) [y].length c] 24 (0, 0))).heap[W.heap.size]? = some (.cells #[.int .i64 2, .string op, .int .i64 n, .string v, .string f, .slice (some ad) [y].length c] 24 (0, 0)) from blk_new _ _)
          clear HB0
          generalize (W.alloc (.cells #[.int .i64 2, .string op, .int .i64 n, .string v, .string f, .slice (some ad) [y].length c] 24 (0, 0))) = w0 at *
          obtain ⟨qBE_0, qBE_1, qBE_2, qBE_3, qBE_4, qBE_5, lBE⟩ := cells6 BE.out
          have HL := Aside0.mk (Below.refl w0.heap.size w0)
          obtain ⟨A5, c5, e0, e1, e2, e3, e4, e5, hk0c, hK0⟩ := kid0 (Kd.C_below HR.out HB.out)
          have HK0 := Aside0.mk hK0
          clear hK0
          have t1_ := ta_bb
          have t2_ := ta_bt
          have t3_ := ta_bn
          have t4_ := ta_nb
          have t5_ := ta_nn
          go_wp2_with (first | (go_at_call 39; (with_reducible refine (HI0.out _ _ _ (Kd.C_below HK0.out (by repeat (first | (with_reducible first | exact HL.out | apply below_alloc | apply pw_below_drewN | apply below_drew1) | exact HL.out))) hk0c (Kd.C_below HBB.out (by repeat (first | (with_reducible first | exact HB.out | apply below_alloc | apply pw_below_drewN | apply below_drew1) | exact HB.out)))).mono ?_); rintro e w1 ⟨rfl, hb⟩; have n0_ := Aside0.mk (below_step (by repeat (first | (with_reducible first | exact HB.out | apply below_alloc | apply pw_below_drewN | apply below_drew1) | exact HB.out)) hb); clear HB; have HB := n0_; clear n0_; have hs_ := below_step (by repeat (first | (with_reducible first | exact HL.out | apply below_alloc | apply pw_below_drewN | apply below_drew1) | exact HL.out)) hb; have n_ := Aside0.mk (blk_below BE.out hs_); clear qBE_0 qBE_1 qBE_2 qBE_3 qBE_4 qBE_5 lBE; clear BE; have BE := n_; clear n_; obtain ⟨qBE_0, qBE_1, qBE_2, qBE_3, qBE_4, qBE_5, lBE⟩ := cells6 BE.out; clear e0 e1 e2 e3 e4 e5 HK0; clear HL hs_ hb; have HL := Aside0.mk (Below.refl w1.heap.size w1)))
          all_goals (try (exfalso; omega))
          all_goals go_ret
          all_goals exact ⟨by rw [HT.out]; rfl, (by repeat (first | (with_reducible first | exact HB.out | apply below_alloc | apply pw_below_drewN | apply below_drew1) | exact HB.out))⟩
    · obtain ⟨t1, t2, t3⟩ := types_two (by decide) ht
      have hs : SizeOf.sizeOf y < SizeOf.sizeOf [y, z] := List.sizeOf_lt_of_mem (by simp)
      have hs2 : SizeOf.sizeOf z < SizeOf.sizeOf [y, z] := List.sizeOf_lt_of_mem (by simp)
      rw [InK, InK] at hI
      have hA : ∃ ad, A = some ad := by
        obtain ⟨ad, e, _⟩ := HR.out.2.2 (by simp)
        exact ⟨ad, e⟩
      obtain ⟨ad, rfl⟩ := hA
      have hty : typesE y ≠ 0 := by rw [t1]; unfold wantE; split <;> decide
      have htz : typesE z ≠ 0 := by rw [t2]; unfold wantE; split <;> decide
      have HI0Q := Aside0.mk (show ∀ (W2 : World) (A2 : Option Addr) (c2 : Nat), Kd.C k24 W2 A2 y.f5.length y.f5 → y.f5.length ≤ c2 → Kd.C k55 W2 BA bl B → Calls Tryd.prog 39 #[.agg #[.int .i64 y.f0, .string y.f1, .int .i64 y.f2, .string y.f3, .string y.f4, .slice A2 y.f5.length c2], .slice BA bl bc] W2 fun e w' => e = .returned (vW (reckonE B y)) ∧ Below W2.heap.size W2 w' from fun W2 A2 c2 h1 h2 h3 => ih y (by omega) hy hI.2.1 hty h1 h2 h3)
      have HI1Q := Aside0.mk (show ∀ (W2 : World) (A2 : Option Addr) (c2 : Nat), Kd.C k24 W2 A2 z.f5.length z.f5 → z.f5.length ≤ c2 → Kd.C k55 W2 BA bl B → Calls Tryd.prog 39 #[.agg #[.int .i64 z.f0, .string z.f1, .int .i64 z.f2, .string z.f3, .string z.f4, .slice A2 z.f5.length c2], .slice BA bl bc] W2 fun e w' => e = .returned (vW (reckonE B z)) ∧ Below W2.heap.size W2 w' from fun W2 A2 c2 h1 h2 h3 => ih z (by omega) hz hI.2.2.1 htz h1 h2 h3)
      have hyt := reck_typ nm hB (SizeOf.sizeOf y) y (Nat.le_refl _) hy hI.2.1 hty
      have hzt := reck_typ nm hB (SizeOf.sizeOf z) z (Nat.le_refl _) hz hI.2.2.1 htz
      have hb := lvl_bang hlv
      have hb' : (op.toList == [33]) = false := hb
      clear ih hx hr ht hs hs2
      by_cases h3 : lvl op < 3
      · obtain ⟨w1, w2⟩ := want3a h3
        have hyv : TrR (reckonE B y) := by
          rcases hyt with ⟨h, _⟩ | ⟨_, h⟩
          · omega
          · exact h
        clear hyt hzt t1 t2 t3 w1 w2 h3 hlv hty htz
        rcases hyv with hv | ⟨b, hv⟩
        · have HI0 := Aside0.mk (show ∀ (W2 : World) (A2 : Option Addr) (c2 : Nat), Kd.C k24 W2 A2 y.f5.length y.f5 → y.f5.length ≤ c2 → Kd.C k55 W2 BA bl B → Calls Tryd.prog 39 #[.agg #[.int .i64 y.f0, .string y.f1, .int .i64 y.f2, .string y.f3, .string y.f4, .slice A2 y.f5.length c2], .slice BA bl bc] W2 fun e w' => e = .returned (.iface 80 (.agg #[])) ∧ Below W2.heap.size W2 w' from by
            have h_ := HI0Q.out
            rw [hv] at h_
            exact h_)
          have HT := Aside0.mk (show reckonE B ⟨3, op, n, v, f, [y, z]⟩ = .bad by rw [reckonE, if_neg (by decide), if_neg (by decide), reckonL, reckonL, reckonL]; rw [hv, comb_bad])
          go_enter Tryd.func39, Tryd.ntmps39
          go_upto_region 2 with fail
          have HB := Aside0.mk (show Below W.heap.size W (W.alloc (.cells #[.int .i64 3, .string op, .int .i64 n, .string v, .string f, .slice (some ad) [y, z].length c] 24 (0, 0))) from below_alloc (Below.refl _ _) _)
          have BE := Aside0.mk (show (W.alloc (.cells #[.int .i64 3, .string op, .int .i64 n, .string v, .string f, .slice (some ad) [y, z].length c] 24 (0, 0))).heap[W.heap.size]? = some (.cells #[.int .i64 3, .string op, .int .i64 n, .string v, .string f, .slice (some ad) [y, z].length c] 24 (0, 0)) from blk_new _ _)
          clear HB0
          generalize (W.alloc (.cells #[.int .i64 3, .string op, .int .i64 n, .string v, .string f, .slice (some ad) [y, z].length c] 24 (0, 0))) = w0 at *
          obtain ⟨qBE_0, qBE_1, qBE_2, qBE_3, qBE_4, qBE_5, lBE⟩ := cells6 BE.out
          have HL := Aside0.mk (Below.refl w0.heap.size w0)
          obtain ⟨A5, c5, e0, e1, e2, e3, e4, e5, hk0c, hK0⟩ := kid0 (Kd.C_below HR.out HB.out)
          have HK0 := Aside0.mk hK0
          clear hK0
          have t1_ := ta_bb
          have t2_ := ta_bt
          have t3_ := ta_bn
          have t4_ := ta_nb
          have t5_ := ta_nn
          go_wp2_with (first | (go_at_call 39; (with_reducible refine (HI0.out _ _ _ (Kd.C_below HK0.out (by repeat (first | (with_reducible first | exact HL.out | apply below_alloc | apply pw_below_drewN | apply below_drew1) | exact HL.out))) hk0c (Kd.C_below HBB.out (by repeat (first | (with_reducible first | exact HB.out | apply below_alloc | apply pw_below_drewN | apply below_drew1) | exact HB.out)))).mono ?_); rintro e w1 ⟨rfl, hb⟩; have n0_ := Aside0.mk (below_step (by repeat (first | (with_reducible first | exact HB.out | apply below_alloc | apply pw_below_drewN | apply below_drew1) | exact HB.out)) hb); clear HB; have HB := n0_; clear n0_; have hs_ := below_step (by repeat (first | (with_reducible first | exact HL.out | apply below_alloc | apply pw_below_drewN | apply below_drew1) | exact HL.out)) hb; have n_ := Aside0.mk (blk_below BE.out hs_); clear qBE_0 qBE_1 qBE_2 qBE_3 qBE_4 qBE_5 lBE; clear BE; have BE := n_; clear n_; obtain ⟨qBE_0, qBE_1, qBE_2, qBE_3, qBE_4, qBE_5, lBE⟩ := cells6 BE.out; clear e0 e1 e2 e3 e4 e5 HK0; obtain ⟨A6, c6, g0, g1, g2, g3, g4, g5, hk1c, hK1⟩ := kid1 (Kd.C_below HR.out HB.out); have HK1 := Aside0.mk hK1; clear hK1; clear HL hs_ hb; have HL := Aside0.mk (Below.refl w1.heap.size w1)))
          all_goals (try (exfalso; omega))
          all_goals go_ret
          all_goals exact ⟨by rw [HT.out]; rfl, (by repeat (first | (with_reducible first | exact HB.out | apply below_alloc | apply pw_below_drewN | apply below_drew1) | exact HB.out))⟩
        · cases b
          · cases e4_ : op.toList == [124, 124]
            · have HI0 := Aside0.mk (show ∀ (W2 : World) (A2 : Option Addr) (c2 : Nat), Kd.C k24 W2 A2 y.f5.length y.f5 → y.f5.length ≤ c2 → Kd.C k55 W2 BA bl B → Calls Tryd.prog 39 #[.agg #[.int .i64 y.f0, .string y.f1, .int .i64 y.f2, .string y.f3, .string y.f4, .slice A2 y.f5.length c2], .slice BA bl bc] W2 fun e w' => e = .returned (.iface 4 (.bool false)) ∧ Below W2.heap.size W2 w' from by
                have h_ := HI0Q.out
                rw [hv] at h_
                exact h_)
              have HT := Aside0.mk (show reckonE B ⟨3, op, n, v, f, [y, z]⟩ = .tr false by rw [reckonE, if_neg (by decide), if_neg (by decide), reckonL, reckonL, reckonL]; rw [hv, comb_short hb (by unfold eqS; rw [e4_]; rfl)])
              go_enter Tryd.func39, Tryd.ntmps39
              go_upto_region 2 with fail
              have HB := Aside0.mk (show Below W.heap.size W (W.alloc (.cells #[.int .i64 3, .string op, .int .i64 n, .string v, .string f, .slice (some ad) [y, z].length c] 24 (0, 0))) from below_alloc (Below.refl _ _) _)
              have BE := Aside0.mk (show (W.alloc (.cells #[.int .i64 3, .string op, .int .i64 n, .string v, .string f, .slice (some ad) [y, z].length c] 24 (0, 0))).heap[W.heap.size]? = some (.cells #[.int .i64 3, .string op, .int .i64 n, .string v, .string f, .slice (some ad) [y, z].length c] 24 (0, 0)) from blk_new _ _)
              clear HB0
              generalize (W.alloc (.cells #[.int .i64 3, .string op, .int .i64 n, .string v, .string f, .slice (some ad) [y, z].length c] 24 (0, 0))) = w0 at *
              obtain ⟨qBE_0, qBE_1, qBE_2, qBE_3, qBE_4, qBE_5, lBE⟩ := cells6 BE.out
              have HL := Aside0.mk (Below.refl w0.heap.size w0)
              obtain ⟨A5, c5, e0, e1, e2, e3, e4, e5, hk0c, hK0⟩ := kid0 (Kd.C_below HR.out HB.out)
              have HK0 := Aside0.mk hK0
              clear hK0
              have t1_ := ta_bb
              have t2_ := ta_bt
              have t3_ := ta_bn
              have t4_ := ta_nb
              have t5_ := ta_nn
              go_wp2_with (first | (go_at_call 39; (with_reducible refine (HI0.out _ _ _ (Kd.C_below HK0.out (by repeat (first | (with_reducible first | exact HL.out | apply below_alloc | apply pw_below_drewN | apply below_drew1) | exact HL.out))) hk0c (Kd.C_below HBB.out (by repeat (first | (with_reducible first | exact HB.out | apply below_alloc | apply pw_below_drewN | apply below_drew1) | exact HB.out)))).mono ?_); rintro e w1 ⟨rfl, hb⟩; have n0_ := Aside0.mk (below_step (by repeat (first | (with_reducible first | exact HB.out | apply below_alloc | apply pw_below_drewN | apply below_drew1) | exact HB.out)) hb); clear HB; have HB := n0_; clear n0_; have hs_ := below_step (by repeat (first | (with_reducible first | exact HL.out | apply below_alloc | apply pw_below_drewN | apply below_drew1) | exact HL.out)) hb; have n_ := Aside0.mk (blk_below BE.out hs_); clear qBE_0 qBE_1 qBE_2 qBE_3 qBE_4 qBE_5 lBE; clear BE; have BE := n_; clear n_; obtain ⟨qBE_0, qBE_1, qBE_2, qBE_3, qBE_4, qBE_5, lBE⟩ := cells6 BE.out; clear e0 e1 e2 e3 e4 e5 HK0; obtain ⟨A6, c6, g0, g1, g2, g3, g4, g5, hk1c, hK1⟩ := kid1 (Kd.C_below HR.out HB.out); have HK1 := Aside0.mk hK1; clear hK1; clear HL hs_ hb; have HL := Aside0.mk (Below.refl w1.heap.size w1)))
              all_goals (try (exfalso; omega))
              all_goals go_ret
              all_goals exact ⟨by rw [HT.out]; rfl, (by repeat (first | (with_reducible first | exact HB.out | apply below_alloc | apply pw_below_drewN | apply below_drew1) | exact HB.out))⟩
            · have HI0 := Aside0.mk (show ∀ (W2 : World) (A2 : Option Addr) (c2 : Nat), Kd.C k24 W2 A2 y.f5.length y.f5 → y.f5.length ≤ c2 → Kd.C k55 W2 BA bl B → Calls Tryd.prog 39 #[.agg #[.int .i64 y.f0, .string y.f1, .int .i64 y.f2, .string y.f3, .string y.f4, .slice A2 y.f5.length c2], .slice BA bl bc] W2 fun e w' => e = .returned (.iface 4 (.bool false)) ∧ Below W2.heap.size W2 w' from by
                have h_ := HI0Q.out
                rw [hv] at h_
                exact h_)
              obtain ⟨v1, hv1⟩ : ∃ v1, reckonE B z = v1 := ⟨_, rfl⟩
              have HI1 := Aside0.mk (show ∀ (W2 : World) (A2 : Option Addr) (c2 : Nat), Kd.C k24 W2 A2 z.f5.length z.f5 → z.f5.length ≤ c2 → Kd.C k55 W2 BA bl B → Calls Tryd.prog 39 #[.agg #[.int .i64 z.f0, .string z.f1, .int .i64 z.f2, .string z.f3, .string z.f4, .slice A2 z.f5.length c2], .slice BA bl bc] W2 fun e w' => e = .returned (vW v1) ∧ Below W2.heap.size W2 w' from by
                have h_ := HI1Q.out
                rw [hv1] at h_
                exact h_)
              have HT := Aside0.mk (show reckonE B ⟨3, op, n, v, f, [y, z]⟩ = v1 by rw [reckonE, if_neg (by decide), if_neg (by decide), reckonL, reckonL, reckonL]; rw [hv, hv1, comb_next hb (by unfold eqS; rw [e4_]; rfl)])
              go_enter Tryd.func39, Tryd.ntmps39
              go_upto_region 2 with fail
              have HB := Aside0.mk (show Below W.heap.size W (W.alloc (.cells #[.int .i64 3, .string op, .int .i64 n, .string v, .string f, .slice (some ad) [y, z].length c] 24 (0, 0))) from below_alloc (Below.refl _ _) _)
              have BE := Aside0.mk (show (W.alloc (.cells #[.int .i64 3, .string op, .int .i64 n, .string v, .string f, .slice (some ad) [y, z].length c] 24 (0, 0))).heap[W.heap.size]? = some (.cells #[.int .i64 3, .string op, .int .i64 n, .string v, .string f, .slice (some ad) [y, z].length c] 24 (0, 0)) from blk_new _ _)
              clear HB0
              generalize (W.alloc (.cells #[.int .i64 3, .string op, .int .i64 n, .string v, .string f, .slice (some ad) [y, z].length c] 24 (0, 0))) = w0 at *
              obtain ⟨qBE_0, qBE_1, qBE_2, qBE_3, qBE_4, qBE_5, lBE⟩ := cells6 BE.out
              have HL := Aside0.mk (Below.refl w0.heap.size w0)
              obtain ⟨A5, c5, e0, e1, e2, e3, e4, e5, hk0c, hK0⟩ := kid0 (Kd.C_below HR.out HB.out)
              have HK0 := Aside0.mk hK0
              clear hK0
              have t1_ := ta_bb
              have t2_ := ta_bt
              have t3_ := ta_bn
              have t4_ := ta_nb
              have t5_ := ta_nn
              go_wp2_with (first | (go_at_call 39; (with_reducible refine (HI0.out _ _ _ (Kd.C_below HK0.out (by repeat (first | (with_reducible first | exact HL.out | apply below_alloc | apply pw_below_drewN | apply below_drew1) | exact HL.out))) hk0c (Kd.C_below HBB.out (by repeat (first | (with_reducible first | exact HB.out | apply below_alloc | apply pw_below_drewN | apply below_drew1) | exact HB.out)))).mono ?_); rintro e w1 ⟨rfl, hb⟩; have n0_ := Aside0.mk (below_step (by repeat (first | (with_reducible first | exact HB.out | apply below_alloc | apply pw_below_drewN | apply below_drew1) | exact HB.out)) hb); clear HB; have HB := n0_; clear n0_; have hs_ := below_step (by repeat (first | (with_reducible first | exact HL.out | apply below_alloc | apply pw_below_drewN | apply below_drew1) | exact HL.out)) hb; have n_ := Aside0.mk (blk_below BE.out hs_); clear qBE_0 qBE_1 qBE_2 qBE_3 qBE_4 qBE_5 lBE; clear BE; have BE := n_; clear n_; obtain ⟨qBE_0, qBE_1, qBE_2, qBE_3, qBE_4, qBE_5, lBE⟩ := cells6 BE.out; clear e0 e1 e2 e3 e4 e5 HK0; obtain ⟨A6, c6, g0, g1, g2, g3, g4, g5, hk1c, hK1⟩ := kid1 (Kd.C_below HR.out HB.out); have HK1 := Aside0.mk hK1; clear hK1; clear HL hs_ hb; have HL := Aside0.mk (Below.refl w1.heap.size w1)) | (go_at_call 39; (with_reducible refine (HI1.out _ _ _ (Kd.C_below HK1.out (by repeat (first | (with_reducible first | exact HL.out | apply below_alloc | apply pw_below_drewN | apply below_drew1) | exact HL.out))) hk1c (Kd.C_below HBB.out (by repeat (first | (with_reducible first | exact HB.out | apply below_alloc | apply pw_below_drewN | apply below_drew1) | exact HB.out)))).mono ?_); rintro e w2 ⟨rfl, hb⟩; have n0_ := Aside0.mk (below_step (by repeat (first | (with_reducible first | exact HB.out | apply below_alloc | apply pw_below_drewN | apply below_drew1) | exact HB.out)) hb); clear HB; have HB := n0_; clear n0_; have hs_ := below_step (by repeat (first | (with_reducible first | exact HL.out | apply below_alloc | apply pw_below_drewN | apply below_drew1) | exact HL.out)) hb; have n_ := Aside0.mk (blk_below BE.out hs_); clear qBE_0 qBE_1 qBE_2 qBE_3 qBE_4 qBE_5 lBE; clear BE; have BE := n_; clear n_; obtain ⟨qBE_0, qBE_1, qBE_2, qBE_3, qBE_4, qBE_5, lBE⟩ := cells6 BE.out; clear g0 g1 g2 g3 g4 g5 HK1; clear HL hs_ hb; have HL := Aside0.mk (Below.refl w2.heap.size w2)))
              all_goals (try (exfalso; omega))
              all_goals go_ret
              all_goals exact ⟨by rw [HT.out]; rfl, (by repeat (first | (with_reducible first | exact HB.out | apply below_alloc | apply pw_below_drewN | apply below_drew1) | exact HB.out))⟩
          · cases e4_ : op.toList == [124, 124]
            · have HI0 := Aside0.mk (show ∀ (W2 : World) (A2 : Option Addr) (c2 : Nat), Kd.C k24 W2 A2 y.f5.length y.f5 → y.f5.length ≤ c2 → Kd.C k55 W2 BA bl B → Calls Tryd.prog 39 #[.agg #[.int .i64 y.f0, .string y.f1, .int .i64 y.f2, .string y.f3, .string y.f4, .slice A2 y.f5.length c2], .slice BA bl bc] W2 fun e w' => e = .returned (.iface 4 (.bool true)) ∧ Below W2.heap.size W2 w' from by
                have h_ := HI0Q.out
                rw [hv] at h_
                exact h_)
              obtain ⟨v1, hv1⟩ : ∃ v1, reckonE B z = v1 := ⟨_, rfl⟩
              have HI1 := Aside0.mk (show ∀ (W2 : World) (A2 : Option Addr) (c2 : Nat), Kd.C k24 W2 A2 z.f5.length z.f5 → z.f5.length ≤ c2 → Kd.C k55 W2 BA bl B → Calls Tryd.prog 39 #[.agg #[.int .i64 z.f0, .string z.f1, .int .i64 z.f2, .string z.f3, .string z.f4, .slice A2 z.f5.length c2], .slice BA bl bc] W2 fun e w' => e = .returned (vW v1) ∧ Below W2.heap.size W2 w' from by
                have h_ := HI1Q.out
                rw [hv1] at h_
                exact h_)
              have HT := Aside0.mk (show reckonE B ⟨3, op, n, v, f, [y, z]⟩ = v1 by rw [reckonE, if_neg (by decide), if_neg (by decide), reckonL, reckonL, reckonL]; rw [hv, hv1, comb_next hb (by unfold eqS; rw [e4_]; rfl)])
              go_enter Tryd.func39, Tryd.ntmps39
              go_upto_region 2 with fail
              have HB := Aside0.mk (show Below W.heap.size W (W.alloc (.cells #[.int .i64 3, .string op, .int .i64 n, .string v, .string f, .slice (some ad) [y, z].length c] 24 (0, 0))) from below_alloc (Below.refl _ _) _)
              have BE := Aside0.mk (show (W.alloc (.cells #[.int .i64 3, .string op, .int .i64 n, .string v, .string f, .slice (some ad) [y, z].length c] 24 (0, 0))).heap[W.heap.size]? = some (.cells #[.int .i64 3, .string op, .int .i64 n, .string v, .string f, .slice (some ad) [y, z].length c] 24 (0, 0)) from blk_new _ _)
              clear HB0
              generalize (W.alloc (.cells #[.int .i64 3, .string op, .int .i64 n, .string v, .string f, .slice (some ad) [y, z].length c] 24 (0, 0))) = w0 at *
              obtain ⟨qBE_0, qBE_1, qBE_2, qBE_3, qBE_4, qBE_5, lBE⟩ := cells6 BE.out
              have HL := Aside0.mk (Below.refl w0.heap.size w0)
              obtain ⟨A5, c5, e0, e1, e2, e3, e4, e5, hk0c, hK0⟩ := kid0 (Kd.C_below HR.out HB.out)
              have HK0 := Aside0.mk hK0
              clear hK0
              have t1_ := ta_bb
              have t2_ := ta_bt
              have t3_ := ta_bn
              have t4_ := ta_nb
              have t5_ := ta_nn
              go_wp2_with (first | (go_at_call 39; (with_reducible refine (HI0.out _ _ _ (Kd.C_below HK0.out (by repeat (first | (with_reducible first | exact HL.out | apply below_alloc | apply pw_below_drewN | apply below_drew1) | exact HL.out))) hk0c (Kd.C_below HBB.out (by repeat (first | (with_reducible first | exact HB.out | apply below_alloc | apply pw_below_drewN | apply below_drew1) | exact HB.out)))).mono ?_); rintro e w1 ⟨rfl, hb⟩; have n0_ := Aside0.mk (below_step (by repeat (first | (with_reducible first | exact HB.out | apply below_alloc | apply pw_below_drewN | apply below_drew1) | exact HB.out)) hb); clear HB; have HB := n0_; clear n0_; have hs_ := below_step (by repeat (first | (with_reducible first | exact HL.out | apply below_alloc | apply pw_below_drewN | apply below_drew1) | exact HL.out)) hb; have n_ := Aside0.mk (blk_below BE.out hs_); clear qBE_0 qBE_1 qBE_2 qBE_3 qBE_4 qBE_5 lBE; clear BE; have BE := n_; clear n_; obtain ⟨qBE_0, qBE_1, qBE_2, qBE_3, qBE_4, qBE_5, lBE⟩ := cells6 BE.out; clear e0 e1 e2 e3 e4 e5 HK0; obtain ⟨A6, c6, g0, g1, g2, g3, g4, g5, hk1c, hK1⟩ := kid1 (Kd.C_below HR.out HB.out); have HK1 := Aside0.mk hK1; clear hK1; clear HL hs_ hb; have HL := Aside0.mk (Below.refl w1.heap.size w1)) | (go_at_call 39; (with_reducible refine (HI1.out _ _ _ (Kd.C_below HK1.out (by repeat (first | (with_reducible first | exact HL.out | apply below_alloc | apply pw_below_drewN | apply below_drew1) | exact HL.out))) hk1c (Kd.C_below HBB.out (by repeat (first | (with_reducible first | exact HB.out | apply below_alloc | apply pw_below_drewN | apply below_drew1) | exact HB.out)))).mono ?_); rintro e w2 ⟨rfl, hb⟩; have n0_ := Aside0.mk (below_step (by repeat (first | (with_reducible first | exact HB.out | apply below_alloc | apply pw_below_drewN | apply below_drew1) | exact HB.out)) hb); clear HB; have HB := n0_; clear n0_; have hs_ := below_step (by repeat (first | (with_reducible first | exact HL.out | apply below_alloc | apply pw_below_drewN | apply below_drew1) | exact HL.out)) hb; have n_ := Aside0.mk (blk_below BE.out hs_); clear qBE_0 qBE_1 qBE_2 qBE_3 qBE_4 qBE_5 lBE; clear BE; have BE := n_; clear n_; obtain ⟨qBE_0, qBE_1, qBE_2, qBE_3, qBE_4, qBE_5, lBE⟩ := cells6 BE.out; clear g0 g1 g2 g3 g4 g5 HK1; clear HL hs_ hb; have HL := Aside0.mk (Below.refl w2.heap.size w2)))
              all_goals (try (exfalso; omega))
              all_goals go_ret
              all_goals exact ⟨by rw [HT.out]; rfl, (by repeat (first | (with_reducible first | exact HB.out | apply below_alloc | apply pw_below_drewN | apply below_drew1) | exact HB.out))⟩
            · have HI0 := Aside0.mk (show ∀ (W2 : World) (A2 : Option Addr) (c2 : Nat), Kd.C k24 W2 A2 y.f5.length y.f5 → y.f5.length ≤ c2 → Kd.C k55 W2 BA bl B → Calls Tryd.prog 39 #[.agg #[.int .i64 y.f0, .string y.f1, .int .i64 y.f2, .string y.f3, .string y.f4, .slice A2 y.f5.length c2], .slice BA bl bc] W2 fun e w' => e = .returned (.iface 4 (.bool true)) ∧ Below W2.heap.size W2 w' from by
                have h_ := HI0Q.out
                rw [hv] at h_
                exact h_)
              have HT := Aside0.mk (show reckonE B ⟨3, op, n, v, f, [y, z]⟩ = .tr true by rw [reckonE, if_neg (by decide), if_neg (by decide), reckonL, reckonL, reckonL]; rw [hv, comb_short hb (by unfold eqS; rw [e4_]; rfl)])
              go_enter Tryd.func39, Tryd.ntmps39
              go_upto_region 2 with fail
              have HB := Aside0.mk (show Below W.heap.size W (W.alloc (.cells #[.int .i64 3, .string op, .int .i64 n, .string v, .string f, .slice (some ad) [y, z].length c] 24 (0, 0))) from below_alloc (Below.refl _ _) _)
              have BE := Aside0.mk (show (W.alloc (.cells #[.int .i64 3, .string op, .int .i64 n, .string v, .string f, .slice (some ad) [y, z].length c] 24 (0, 0))).heap[W.heap.size]? = some (.cells #[.int .i64 3, .string op, .int .i64 n, .string v, .string f, .slice (some ad) [y, z].length c] 24 (0, 0)) from blk_new _ _)
              clear HB0
              generalize (W.alloc (.cells #[.int .i64 3, .string op, .int .i64 n, .string v, .string f, .slice (some ad) [y, z].length c] 24 (0, 0))) = w0 at *
              obtain ⟨qBE_0, qBE_1, qBE_2, qBE_3, qBE_4, qBE_5, lBE⟩ := cells6 BE.out
              have HL := Aside0.mk (Below.refl w0.heap.size w0)
              obtain ⟨A5, c5, e0, e1, e2, e3, e4, e5, hk0c, hK0⟩ := kid0 (Kd.C_below HR.out HB.out)
              have HK0 := Aside0.mk hK0
              clear hK0
              have t1_ := ta_bb
              have t2_ := ta_bt
              have t3_ := ta_bn
              have t4_ := ta_nb
              have t5_ := ta_nn
              go_wp2_with (first | (go_at_call 39; (with_reducible refine (HI0.out _ _ _ (Kd.C_below HK0.out (by repeat (first | (with_reducible first | exact HL.out | apply below_alloc | apply pw_below_drewN | apply below_drew1) | exact HL.out))) hk0c (Kd.C_below HBB.out (by repeat (first | (with_reducible first | exact HB.out | apply below_alloc | apply pw_below_drewN | apply below_drew1) | exact HB.out)))).mono ?_); rintro e w1 ⟨rfl, hb⟩; have n0_ := Aside0.mk (below_step (by repeat (first | (with_reducible first | exact HB.out | apply below_alloc | apply pw_below_drewN | apply below_drew1) | exact HB.out)) hb); clear HB; have HB := n0_; clear n0_; have hs_ := below_step (by repeat (first | (with_reducible first | exact HL.out | apply below_alloc | apply pw_below_drewN | apply below_drew1) | exact HL.out)) hb; have n_ := Aside0.mk (blk_below BE.out hs_); clear qBE_0 qBE_1 qBE_2 qBE_3 qBE_4 qBE_5 lBE; clear BE; have BE := n_; clear n_; obtain ⟨qBE_0, qBE_1, qBE_2, qBE_3, qBE_4, qBE_5, lBE⟩ := cells6 BE.out; clear e0 e1 e2 e3 e4 e5 HK0; obtain ⟨A6, c6, g0, g1, g2, g3, g4, g5, hk1c, hK1⟩ := kid1 (Kd.C_below HR.out HB.out); have HK1 := Aside0.mk hK1; clear hK1; clear HL hs_ hb; have HL := Aside0.mk (Below.refl w1.heap.size w1)))
              all_goals (try (exfalso; omega))
              all_goals go_ret
              all_goals exact ⟨by rw [HT.out]; rfl, (by repeat (first | (with_reducible first | exact HB.out | apply below_alloc | apply pw_below_drewN | apply below_drew1) | exact HB.out))⟩
      · have hw : wantE 3 op = 1 := by
          by_cases h5 : lvl op < 5
          · exact (want3b h3 h5).1
          · exact (want3c h3 h5).1
        have hyv : NumR (reckonE B y) := by
          rcases hyt with ⟨_, h⟩ | ⟨h, _⟩
          · exact h
          · omega
        have hzv : NumR (reckonE B z) := by
          rcases hzt with ⟨_, h⟩ | ⟨h, _⟩
          · exact h
          · omega
        clear hyt hzt t1 t2 t3 hw h3 hlv hty htz
        rcases hyv with hv | ⟨a, ha, hv⟩
        · have HI0 := Aside0.mk (show ∀ (W2 : World) (A2 : Option Addr) (c2 : Nat), Kd.C k24 W2 A2 y.f5.length y.f5 → y.f5.length ≤ c2 → Kd.C k55 W2 BA bl B → Calls Tryd.prog 39 #[.agg #[.int .i64 y.f0, .string y.f1, .int .i64 y.f2, .string y.f3, .string y.f4, .slice A2 y.f5.length c2], .slice BA bl bc] W2 fun e w' => e = .returned (.iface 80 (.agg #[])) ∧ Below W2.heap.size W2 w' from by
            have h_ := HI0Q.out
            rw [hv] at h_
            exact h_)
          have HT := Aside0.mk (show reckonE B ⟨3, op, n, v, f, [y, z]⟩ = .bad by rw [reckonE, if_neg (by decide), if_neg (by decide), reckonL, reckonL, reckonL]; rw [hv, comb_bad])
          go_enter Tryd.func39, Tryd.ntmps39
          go_upto_region 2 with fail
          have HB := Aside0.mk (show Below W.heap.size W (W.alloc (.cells #[.int .i64 3, .string op, .int .i64 n, .string v, .string f, .slice (some ad) [y, z].length c] 24 (0, 0))) from below_alloc (Below.refl _ _) _)
          have BE := Aside0.mk (show (W.alloc (.cells #[.int .i64 3, .string op, .int .i64 n, .string v, .string f, .slice (some ad) [y, z].length c] 24 (0, 0))).heap[W.heap.size]? = some (.cells #[.int .i64 3, .string op, .int .i64 n, .string v, .string f, .slice (some ad) [y, z].length c] 24 (0, 0)) from blk_new _ _)
          clear HB0
          generalize (W.alloc (.cells #[.int .i64 3, .string op, .int .i64 n, .string v, .string f, .slice (some ad) [y, z].length c] 24 (0, 0))) = w0 at *
          obtain ⟨qBE_0, qBE_1, qBE_2, qBE_3, qBE_4, qBE_5, lBE⟩ := cells6 BE.out
          have HL := Aside0.mk (Below.refl w0.heap.size w0)
          obtain ⟨A5, c5, e0, e1, e2, e3, e4, e5, hk0c, hK0⟩ := kid0 (Kd.C_below HR.out HB.out)
          have HK0 := Aside0.mk hK0
          clear hK0
          have t1_ := ta_bb
          have t2_ := ta_bt
          have t3_ := ta_bn
          have t4_ := ta_nb
          have t5_ := ta_nn
          go_wp2_with (first | (go_at_call 39; (with_reducible refine (HI0.out _ _ _ (Kd.C_below HK0.out (by repeat (first | (with_reducible first | exact HL.out | apply below_alloc | apply pw_below_drewN | apply below_drew1) | exact HL.out))) hk0c (Kd.C_below HBB.out (by repeat (first | (with_reducible first | exact HB.out | apply below_alloc | apply pw_below_drewN | apply below_drew1) | exact HB.out)))).mono ?_); rintro e w1 ⟨rfl, hb⟩; have n0_ := Aside0.mk (below_step (by repeat (first | (with_reducible first | exact HB.out | apply below_alloc | apply pw_below_drewN | apply below_drew1) | exact HB.out)) hb); clear HB; have HB := n0_; clear n0_; have hs_ := below_step (by repeat (first | (with_reducible first | exact HL.out | apply below_alloc | apply pw_below_drewN | apply below_drew1) | exact HL.out)) hb; have n_ := Aside0.mk (blk_below BE.out hs_); clear qBE_0 qBE_1 qBE_2 qBE_3 qBE_4 qBE_5 lBE; clear BE; have BE := n_; clear n_; obtain ⟨qBE_0, qBE_1, qBE_2, qBE_3, qBE_4, qBE_5, lBE⟩ := cells6 BE.out; clear e0 e1 e2 e3 e4 e5 HK0; obtain ⟨A6, c6, g0, g1, g2, g3, g4, g5, hk1c, hK1⟩ := kid1 (Kd.C_below HR.out HB.out); have HK1 := Aside0.mk hK1; clear hK1; clear HL hs_ hb; have HL := Aside0.mk (Below.refl w1.heap.size w1)))
          all_goals (try (exfalso; omega))
          all_goals go_ret
          all_goals exact ⟨by rw [HT.out]; rfl, (by repeat (first | (with_reducible first | exact HB.out | apply below_alloc | apply pw_below_drewN | apply below_drew1) | exact HB.out))⟩
        · rcases hzv with hw | ⟨cz, hcz, hw⟩
          · have HI0 := Aside0.mk (show ∀ (W2 : World) (A2 : Option Addr) (c2 : Nat), Kd.C k24 W2 A2 y.f5.length y.f5 → y.f5.length ≤ c2 → Kd.C k55 W2 BA bl B → Calls Tryd.prog 39 #[.agg #[.int .i64 y.f0, .string y.f1, .int .i64 y.f2, .string y.f3, .string y.f4, .slice A2 y.f5.length c2], .slice BA bl bc] W2 fun e w' => e = .returned (.iface 2 (.int .i64 a)) ∧ Below W2.heap.size W2 w' from by
              have h_ := HI0Q.out
              rw [hv] at h_
              exact h_)
            have HI1 := Aside0.mk (show ∀ (W2 : World) (A2 : Option Addr) (c2 : Nat), Kd.C k24 W2 A2 z.f5.length z.f5 → z.f5.length ≤ c2 → Kd.C k55 W2 BA bl B → Calls Tryd.prog 39 #[.agg #[.int .i64 z.f0, .string z.f1, .int .i64 z.f2, .string z.f3, .string z.f4, .slice A2 z.f5.length c2], .slice BA bl bc] W2 fun e w' => e = .returned (.iface 80 (.agg #[])) ∧ Below W2.heap.size W2 w' from by
              have h_ := HI1Q.out
              rw [hw] at h_
              exact h_)
            have HT := Aside0.mk (show reckonE B ⟨3, op, n, v, f, [y, z]⟩ = .bad by rw [reckonE, if_neg (by decide), if_neg (by decide), reckonL, reckonL, reckonL]; rw [hv, hw, comb_arb])
            go_enter Tryd.func39, Tryd.ntmps39
            go_upto_region 2 with fail
            have HB := Aside0.mk (show Below W.heap.size W (W.alloc (.cells #[.int .i64 3, .string op, .int .i64 n, .string v, .string f, .slice (some ad) [y, z].length c] 24 (0, 0))) from below_alloc (Below.refl _ _) _)
            have BE := Aside0.mk (show (W.alloc (.cells #[.int .i64 3, .string op, .int .i64 n, .string v, .string f, .slice (some ad) [y, z].length c] 24 (0, 0))).heap[W.heap.size]? = some (.cells #[.int .i64 3, .string op, .int .i64 n, .string v, .string f, .slice (some ad) [y, z].length c] 24 (0, 0)) from blk_new _ _)
            clear HB0
            generalize (W.alloc (.cells #[.int .i64 3, .string op, .int .i64 n, .string v, .string f, .slice (some ad) [y, z].length c] 24 (0, 0))) = w0 at *
            obtain ⟨qBE_0, qBE_1, qBE_2, qBE_3, qBE_4, qBE_5, lBE⟩ := cells6 BE.out
            have HL := Aside0.mk (Below.refl w0.heap.size w0)
            obtain ⟨A5, c5, e0, e1, e2, e3, e4, e5, hk0c, hK0⟩ := kid0 (Kd.C_below HR.out HB.out)
            have HK0 := Aside0.mk hK0
            clear hK0
            have t1_ := ta_bb
            have t2_ := ta_bt
            have t3_ := ta_bn
            have t4_ := ta_nb
            have t5_ := ta_nn
            go_wp2_with (first | (go_at_call 39; (with_reducible refine (HI0.out _ _ _ (Kd.C_below HK0.out (by repeat (first | (with_reducible first | exact HL.out | apply below_alloc | apply pw_below_drewN | apply below_drew1) | exact HL.out))) hk0c (Kd.C_below HBB.out (by repeat (first | (with_reducible first | exact HB.out | apply below_alloc | apply pw_below_drewN | apply below_drew1) | exact HB.out)))).mono ?_); rintro e w1 ⟨rfl, hb⟩; have n0_ := Aside0.mk (below_step (by repeat (first | (with_reducible first | exact HB.out | apply below_alloc | apply pw_below_drewN | apply below_drew1) | exact HB.out)) hb); clear HB; have HB := n0_; clear n0_; have hs_ := below_step (by repeat (first | (with_reducible first | exact HL.out | apply below_alloc | apply pw_below_drewN | apply below_drew1) | exact HL.out)) hb; have n_ := Aside0.mk (blk_below BE.out hs_); clear qBE_0 qBE_1 qBE_2 qBE_3 qBE_4 qBE_5 lBE; clear BE; have BE := n_; clear n_; obtain ⟨qBE_0, qBE_1, qBE_2, qBE_3, qBE_4, qBE_5, lBE⟩ := cells6 BE.out; clear e0 e1 e2 e3 e4 e5 HK0; obtain ⟨A6, c6, g0, g1, g2, g3, g4, g5, hk1c, hK1⟩ := kid1 (Kd.C_below HR.out HB.out); have HK1 := Aside0.mk hK1; clear hK1; clear HL hs_ hb; have HL := Aside0.mk (Below.refl w1.heap.size w1)) | (go_at_call 39; (with_reducible refine (HI1.out _ _ _ (Kd.C_below HK1.out (by repeat (first | (with_reducible first | exact HL.out | apply below_alloc | apply pw_below_drewN | apply below_drew1) | exact HL.out))) hk1c (Kd.C_below HBB.out (by repeat (first | (with_reducible first | exact HB.out | apply below_alloc | apply pw_below_drewN | apply below_drew1) | exact HB.out)))).mono ?_); rintro e w2 ⟨rfl, hb⟩; have n0_ := Aside0.mk (below_step (by repeat (first | (with_reducible first | exact HB.out | apply below_alloc | apply pw_below_drewN | apply below_drew1) | exact HB.out)) hb); clear HB; have HB := n0_; clear n0_; have hs_ := below_step (by repeat (first | (with_reducible first | exact HL.out | apply below_alloc | apply pw_below_drewN | apply below_drew1) | exact HL.out)) hb; have n_ := Aside0.mk (blk_below BE.out hs_); clear qBE_0 qBE_1 qBE_2 qBE_3 qBE_4 qBE_5 lBE; clear BE; have BE := n_; clear n_; obtain ⟨qBE_0, qBE_1, qBE_2, qBE_3, qBE_4, qBE_5, lBE⟩ := cells6 BE.out; clear g0 g1 g2 g3 g4 g5 HK1; clear HL hs_ hb; have HL := Aside0.mk (Below.refl w2.heap.size w2)))
            all_goals (try (exfalso; omega))
            all_goals go_ret
            all_goals exact ⟨by rw [HT.out]; rfl, (by repeat (first | (with_reducible first | exact HB.out | apply below_alloc | apply pw_below_drewN | apply below_drew1) | exact HB.out))⟩
          · have HI0 := Aside0.mk (show ∀ (W2 : World) (A2 : Option Addr) (c2 : Nat), Kd.C k24 W2 A2 y.f5.length y.f5 → y.f5.length ≤ c2 → Kd.C k55 W2 BA bl B → Calls Tryd.prog 39 #[.agg #[.int .i64 y.f0, .string y.f1, .int .i64 y.f2, .string y.f3, .string y.f4, .slice A2 y.f5.length c2], .slice BA bl bc] W2 fun e w' => e = .returned (.iface 2 (.int .i64 a)) ∧ Below W2.heap.size W2 w' from by
              have h_ := HI0Q.out
              rw [hv] at h_
              exact h_)
            have HI1 := Aside0.mk (show ∀ (W2 : World) (A2 : Option Addr) (c2 : Nat), Kd.C k24 W2 A2 z.f5.length z.f5 → z.f5.length ≤ c2 → Kd.C k55 W2 BA bl B → Calls Tryd.prog 39 #[.agg #[.int .i64 z.f0, .string z.f1, .int .i64 z.f2, .string z.f3, .string z.f4, .slice A2 z.f5.length c2], .slice BA bl bc] W2 fun e w' => e = .returned (.iface 2 (.int .i64 cz)) ∧ Below W2.heap.size W2 w' from by
              have h_ := HI1Q.out
              rw [hw] at h_
              exact h_)
            cases o0 : op.toList == [61, 61]
            · cases o1 : op.toList == [33, 61]
              · cases o2 : op.toList == [60]
                · cases o3 : op.toList == [60, 61]
                  · cases o4 : op.toList == [62]
                    · cases o5 : op.toList == [62, 61]
                      · cases o6 : op.toList == [43]
                        · cases o7 : op.toList == [45]
                          · cases o8 : op.toList == [42]
                            · cases o9 : op.toList == [47]
                              · obtain ⟨⟨n1, ok1⟩, hok⟩ : ∃ p, remF a cz = p := ⟨_, rfl⟩
                                have HT := Aside0.mk (show reckonE B ⟨3, op, n, v, f, [y, z]⟩ = numV (n1, ok1) by rw [reckonE, if_neg (by decide), if_neg (by decide), reckonL, reckonL, reckonL]; rw [hv, hw, comb_ar]; unfold arith; rw [if_neg (by rw [show eqS op [61, 61] = false from o0]; decide), if_neg (by rw [show eqS op [33, 61] = false from o1]; decide), if_neg (by rw [show eqS op [60] = false from o2]; decide), if_neg (by rw [show eqS op [60, 61] = false from o3]; decide), if_neg (by rw [show eqS op [62] = false from o4]; decide), if_neg (by rw [show eqS op [62, 61] = false from o5]; decide), if_neg (by rw [show eqS op [43] = false from o6]; decide), if_neg (by rw [show eqS op [45] = false from o7]; decide), if_neg (by rw [show eqS op [42] = false from o8]; decide), if_neg (by rw [show eqS op [47] = false from o9]; decide)]; rw [hok])
                                have HOK := Aside0.mk hok
                                clear hok
                                go_enter Tryd.func39, Tryd.ntmps39
                                go_upto_region 2 with fail
                                have HB := Aside0.mk (show Below W.heap.size W (W.alloc (.cells #[.int .i64 3, .string op, .int .i64 n, .string v, .string f, .slice (some ad) [y, z].length c] 24 (0, 0))) from below_alloc (Below.refl _ _) _)
                                have BE := Aside0.mk (show (W.alloc (.cells #[.int .i64 3, .string op, .int .i64 n, .string v, .string f, .slice (some ad) [y, z].length c] 24 (0, 0))).heap[W.heap.size]? = some (.cells #[.int .i64 3, .string op, .int .i64 n, .string v, .string f, .slice (some ad) [y, z].length c] 24 (0, 0)) from blk_new _ _)
                                clear HB0
                                generalize (W.alloc (.cells #[.int .i64 3, .string op, .int .i64 n, .string v, .string f, .slice (some ad) [y, z].length c] 24 (0, 0))) = w0 at *
                                obtain ⟨qBE_0, qBE_1, qBE_2, qBE_3, qBE_4, qBE_5, lBE⟩ := cells6 BE.out
                                have HL := Aside0.mk (Below.refl w0.heap.size w0)
                                obtain ⟨A5, c5, e0, e1, e2, e3, e4, e5, hk0c, hK0⟩ := kid0 (Kd.C_below HR.out HB.out)
                                have HK0 := Aside0.mk hK0
                                clear hK0
                                have t1_ := ta_bb
                                have t2_ := ta_bt
                                have t3_ := ta_bn
                                have t4_ := ta_nb
                                have t5_ := ta_nn
                                go_wp2_with (first | (go_at_call 39; (with_reducible refine (HI0.out _ _ _ (Kd.C_below HK0.out (by repeat (first | (with_reducible first | exact HL.out | apply below_alloc | apply pw_below_drewN | apply below_drew1) | exact HL.out))) hk0c (Kd.C_below HBB.out (by repeat (first | (with_reducible first | exact HB.out | apply below_alloc | apply pw_below_drewN | apply below_drew1) | exact HB.out)))).mono ?_); rintro e w1 ⟨rfl, hb⟩; have n0_ := Aside0.mk (below_step (by repeat (first | (with_reducible first | exact HB.out | apply below_alloc | apply pw_below_drewN | apply below_drew1) | exact HB.out)) hb); clear HB; have HB := n0_; clear n0_; have hs_ := below_step (by repeat (first | (with_reducible first | exact HL.out | apply below_alloc | apply pw_below_drewN | apply below_drew1) | exact HL.out)) hb; have n_ := Aside0.mk (blk_below BE.out hs_); clear qBE_0 qBE_1 qBE_2 qBE_3 qBE_4 qBE_5 lBE; clear BE; have BE := n_; clear n_; obtain ⟨qBE_0, qBE_1, qBE_2, qBE_3, qBE_4, qBE_5, lBE⟩ := cells6 BE.out; clear e0 e1 e2 e3 e4 e5 HK0; obtain ⟨A6, c6, g0, g1, g2, g3, g4, g5, hk1c, hK1⟩ := kid1 (Kd.C_below HR.out HB.out); have HK1 := Aside0.mk hK1; clear hK1; clear HL hs_ hb; have HL := Aside0.mk (Below.refl w1.heap.size w1)) | (go_at_call 39; (with_reducible refine (HI1.out _ _ _ (Kd.C_below HK1.out (by repeat (first | (with_reducible first | exact HL.out | apply below_alloc | apply pw_below_drewN | apply below_drew1) | exact HL.out))) hk1c (Kd.C_below HBB.out (by repeat (first | (with_reducible first | exact HB.out | apply below_alloc | apply pw_below_drewN | apply below_drew1) | exact HB.out)))).mono ?_); rintro e w2 ⟨rfl, hb⟩; have n0_ := Aside0.mk (below_step (by repeat (first | (with_reducible first | exact HB.out | apply below_alloc | apply pw_below_drewN | apply below_drew1) | exact HB.out)) hb); clear HB; have HB := n0_; clear n0_; have hs_ := below_step (by repeat (first | (with_reducible first | exact HL.out | apply below_alloc | apply pw_below_drewN | apply below_drew1) | exact HL.out)) hb; have n_ := Aside0.mk (blk_below BE.out hs_); clear qBE_0 qBE_1 qBE_2 qBE_3 qBE_4 qBE_5 lBE; clear BE; have BE := n_; clear n_; obtain ⟨qBE_0, qBE_1, qBE_2, qBE_3, qBE_4, qBE_5, lBE⟩ := cells6 BE.out; clear g0 g1 g2 g3 g4 g5 HK1; clear HL hs_ hb; have HL := Aside0.mk (Below.refl w2.heap.size w2)) | (go_at_call 22; (with_reducible refine (rem_c n1 ok1 HOK.out).mono ?_); rintro e w3 ⟨rfl, hb⟩; have n0_ := Aside0.mk (below_step (by repeat (first | (with_reducible first | exact HB.out | apply below_alloc | apply pw_below_drewN | apply below_drew1) | exact HB.out)) hb); clear HB; have HB := n0_; clear n0_; have hs_ := below_step (by repeat (first | (with_reducible first | exact HL.out | apply below_alloc | apply pw_below_drewN | apply below_drew1) | exact HL.out)) hb; have n_ := Aside0.mk (blk_below BE.out hs_); clear qBE_0 qBE_1 qBE_2 qBE_3 qBE_4 qBE_5 lBE; clear BE; have BE := n_; clear n_; obtain ⟨qBE_0, qBE_1, qBE_2, qBE_3, qBE_4, qBE_5, lBE⟩ := cells6 BE.out; clear HL hs_ hb; have HL := Aside0.mk (Below.refl w3.heap.size w3)) | (go_at_call 47; (with_reducible refine (num_c n1 ok1).mono ?_); rintro e w4 ⟨rfl, hb⟩; have n0_ := Aside0.mk (below_step (by repeat (first | (with_reducible first | exact HB.out | apply below_alloc | apply pw_below_drewN | apply below_drew1) | exact HB.out)) hb); clear HB; have HB := n0_; clear n0_; have hs_ := below_step (by repeat (first | (with_reducible first | exact HL.out | apply below_alloc | apply pw_below_drewN | apply below_drew1) | exact HL.out)) hb; have n_ := Aside0.mk (blk_below BE.out hs_); clear qBE_0 qBE_1 qBE_2 qBE_3 qBE_4 qBE_5 lBE; clear BE; have BE := n_; clear n_; obtain ⟨qBE_0, qBE_1, qBE_2, qBE_3, qBE_4, qBE_5, lBE⟩ := cells6 BE.out; clear HL hs_ hb; have HL := Aside0.mk (Below.refl w4.heap.size w4)))
                                all_goals (try (exfalso; omega))
                                all_goals go_ret
                                all_goals exact ⟨by rw [HT.out]; rfl, (by repeat (first | (with_reducible first | exact HB.out | apply below_alloc | apply pw_below_drewN | apply below_drew1) | exact HB.out))⟩
                              · obtain ⟨⟨n1, ok1⟩, hok⟩ : ∃ p, divF a cz = p := ⟨_, rfl⟩
                                have HT := Aside0.mk (show reckonE B ⟨3, op, n, v, f, [y, z]⟩ = numV (n1, ok1) by rw [reckonE, if_neg (by decide), if_neg (by decide), reckonL, reckonL, reckonL]; rw [hv, hw, comb_ar]; unfold arith; rw [if_neg (by rw [show eqS op [61, 61] = false from o0]; decide), if_neg (by rw [show eqS op [33, 61] = false from o1]; decide), if_neg (by rw [show eqS op [60] = false from o2]; decide), if_neg (by rw [show eqS op [60, 61] = false from o3]; decide), if_neg (by rw [show eqS op [62] = false from o4]; decide), if_neg (by rw [show eqS op [62, 61] = false from o5]; decide), if_neg (by rw [show eqS op [43] = false from o6]; decide), if_neg (by rw [show eqS op [45] = false from o7]; decide), if_neg (by rw [show eqS op [42] = false from o8]; decide), if_pos (show eqS op [47] = true from o9)]; rw [hok])
                                have HOK := Aside0.mk hok
                                clear hok
                                go_enter Tryd.func39, Tryd.ntmps39
                                go_upto_region 2 with fail
                                have HB := Aside0.mk (show Below W.heap.size W (W.alloc (.cells #[.int .i64 3, .string op, .int .i64 n, .string v, .string f, .slice (some ad) [y, z].length c] 24 (0, 0))) from below_alloc (Below.refl _ _) _)
                                have BE := Aside0.mk (show (W.alloc (.cells #[.int .i64 3, .string op, .int .i64 n, .string v, .string f, .slice (some ad) [y, z].length c] 24 (0, 0))).heap[W.heap.size]? = some (.cells #[.int .i64 3, .string op, .int .i64 n, .string v, .string f, .slice (some ad) [y, z].length c] 24 (0, 0)) from blk_new _ _)
                                clear HB0
                                generalize (W.alloc (.cells #[.int .i64 3, .string op, .int .i64 n, .string v, .string f, .slice (some ad) [y, z].length c] 24 (0, 0))) = w0 at *
                                obtain ⟨qBE_0, qBE_1, qBE_2, qBE_3, qBE_4, qBE_5, lBE⟩ := cells6 BE.out
                                have HL := Aside0.mk (Below.refl w0.heap.size w0)
                                obtain ⟨A5, c5, e0, e1, e2, e3, e4, e5, hk0c, hK0⟩ := kid0 (Kd.C_below HR.out HB.out)
                                have HK0 := Aside0.mk hK0
                                clear hK0
                                have t1_ := ta_bb
                                have t2_ := ta_bt
                                have t3_ := ta_bn
                                have t4_ := ta_nb
                                have t5_ := ta_nn
                                go_wp2_with (first | (go_at_call 39; (with_reducible refine (HI0.out _ _ _ (Kd.C_below HK0.out (by repeat (first | (with_reducible first | exact HL.out | apply below_alloc | apply pw_below_drewN | apply below_drew1) | exact HL.out))) hk0c (Kd.C_below HBB.out (by repeat (first | (with_reducible first | exact HB.out | apply below_alloc | apply pw_below_drewN | apply below_drew1) | exact HB.out)))).mono ?_); rintro e w1 ⟨rfl, hb⟩; have n0_ := Aside0.mk (below_step (by repeat (first | (with_reducible first | exact HB.out | apply below_alloc | apply pw_below_drewN | apply below_drew1) | exact HB.out)) hb); clear HB; have HB := n0_; clear n0_; have hs_ := below_step (by repeat (first | (with_reducible first | exact HL.out | apply below_alloc | apply pw_below_drewN | apply below_drew1) | exact HL.out)) hb; have n_ := Aside0.mk (blk_below BE.out hs_); clear qBE_0 qBE_1 qBE_2 qBE_3 qBE_4 qBE_5 lBE; clear BE; have BE := n_; clear n_; obtain ⟨qBE_0, qBE_1, qBE_2, qBE_3, qBE_4, qBE_5, lBE⟩ := cells6 BE.out; clear e0 e1 e2 e3 e4 e5 HK0; obtain ⟨A6, c6, g0, g1, g2, g3, g4, g5, hk1c, hK1⟩ := kid1 (Kd.C_below HR.out HB.out); have HK1 := Aside0.mk hK1; clear hK1; clear HL hs_ hb; have HL := Aside0.mk (Below.refl w1.heap.size w1)) | (go_at_call 39; (with_reducible refine (HI1.out _ _ _ (Kd.C_below HK1.out (by repeat (first | (with_reducible first | exact HL.out | apply below_alloc | apply pw_below_drewN | apply below_drew1) | exact HL.out))) hk1c (Kd.C_below HBB.out (by repeat (first | (with_reducible first | exact HB.out | apply below_alloc | apply pw_below_drewN | apply below_drew1) | exact HB.out)))).mono ?_); rintro e w2 ⟨rfl, hb⟩; have n0_ := Aside0.mk (below_step (by repeat (first | (with_reducible first | exact HB.out | apply below_alloc | apply pw_below_drewN | apply below_drew1) | exact HB.out)) hb); clear HB; have HB := n0_; clear n0_; have hs_ := below_step (by repeat (first | (with_reducible first | exact HL.out | apply below_alloc | apply pw_below_drewN | apply below_drew1) | exact HL.out)) hb; have n_ := Aside0.mk (blk_below BE.out hs_); clear qBE_0 qBE_1 qBE_2 qBE_3 qBE_4 qBE_5 lBE; clear BE; have BE := n_; clear n_; obtain ⟨qBE_0, qBE_1, qBE_2, qBE_3, qBE_4, qBE_5, lBE⟩ := cells6 BE.out; clear g0 g1 g2 g3 g4 g5 HK1; clear HL hs_ hb; have HL := Aside0.mk (Below.refl w2.heap.size w2)) | (go_at_call 20; (with_reducible refine (div_c ha n1 ok1 HOK.out).mono ?_); rintro e w3 ⟨rfl, hb⟩; have n0_ := Aside0.mk (below_step (by repeat (first | (with_reducible first | exact HB.out | apply below_alloc | apply pw_below_drewN | apply below_drew1) | exact HB.out)) hb); clear HB; have HB := n0_; clear n0_; have hs_ := below_step (by repeat (first | (with_reducible first | exact HL.out | apply below_alloc | apply pw_below_drewN | apply below_drew1) | exact HL.out)) hb; have n_ := Aside0.mk (blk_below BE.out hs_); clear qBE_0 qBE_1 qBE_2 qBE_3 qBE_4 qBE_5 lBE; clear BE; have BE := n_; clear n_; obtain ⟨qBE_0, qBE_1, qBE_2, qBE_3, qBE_4, qBE_5, lBE⟩ := cells6 BE.out; clear HL hs_ hb; have HL := Aside0.mk (Below.refl w3.heap.size w3)) | (go_at_call 47; (with_reducible refine (num_c n1 ok1).mono ?_); rintro e w4 ⟨rfl, hb⟩; have n0_ := Aside0.mk (below_step (by repeat (first | (with_reducible first | exact HB.out | apply below_alloc | apply pw_below_drewN | apply below_drew1) | exact HB.out)) hb); clear HB; have HB := n0_; clear n0_; have hs_ := below_step (by repeat (first | (with_reducible first | exact HL.out | apply below_alloc | apply pw_below_drewN | apply below_drew1) | exact HL.out)) hb; have n_ := Aside0.mk (blk_below BE.out hs_); clear qBE_0 qBE_1 qBE_2 qBE_3 qBE_4 qBE_5 lBE; clear BE; have BE := n_; clear n_; obtain ⟨qBE_0, qBE_1, qBE_2, qBE_3, qBE_4, qBE_5, lBE⟩ := cells6 BE.out; clear HL hs_ hb; have HL := Aside0.mk (Below.refl w4.heap.size w4)))
                                all_goals (try (exfalso; omega))
                                all_goals go_ret
                                all_goals exact ⟨by rw [HT.out]; rfl, (by repeat (first | (with_reducible first | exact HB.out | apply below_alloc | apply pw_below_drewN | apply below_drew1) | exact HB.out))⟩
                            · obtain ⟨⟨n1, ok1⟩, hok⟩ : ∃ p, okF (a * cz) = p := ⟨_, rfl⟩
                              have HT := Aside0.mk (show reckonE B ⟨3, op, n, v, f, [y, z]⟩ = numV (n1, ok1) by rw [reckonE, if_neg (by decide), if_neg (by decide), reckonL, reckonL, reckonL]; rw [hv, hw, comb_ar]; unfold arith; rw [if_neg (by rw [show eqS op [61, 61] = false from o0]; decide), if_neg (by rw [show eqS op [33, 61] = false from o1]; decide), if_neg (by rw [show eqS op [60] = false from o2]; decide), if_neg (by rw [show eqS op [60, 61] = false from o3]; decide), if_neg (by rw [show eqS op [62] = false from o4]; decide), if_neg (by rw [show eqS op [62, 61] = false from o5]; decide), if_neg (by rw [show eqS op [43] = false from o6]; decide), if_neg (by rw [show eqS op [45] = false from o7]; decide), if_pos (show eqS op [42] = true from o8)]; rw [hok])
                              have HOK := Aside0.mk hok
                              clear hok
                              go_enter Tryd.func39, Tryd.ntmps39
                              go_upto_region 2 with fail
                              have HB := Aside0.mk (show Below W.heap.size W (W.alloc (.cells #[.int .i64 3, .string op, .int .i64 n, .string v, .string f, .slice (some ad) [y, z].length c] 24 (0, 0))) from below_alloc (Below.refl _ _) _)
                              have BE := Aside0.mk (show (W.alloc (.cells #[.int .i64 3, .string op, .int .i64 n, .string v, .string f, .slice (some ad) [y, z].length c] 24 (0, 0))).heap[W.heap.size]? = some (.cells #[.int .i64 3, .string op, .int .i64 n, .string v, .string f, .slice (some ad) [y, z].length c] 24 (0, 0)) from blk_new _ _)
                              clear HB0
                              generalize (W.alloc (.cells #[.int .i64 3, .string op, .int .i64 n, .string v, .string f, .slice (some ad) [y, z].length c] 24 (0, 0))) = w0 at *
                              obtain ⟨qBE_0, qBE_1, qBE_2, qBE_3, qBE_4, qBE_5, lBE⟩ := cells6 BE.out
                              have HL := Aside0.mk (Below.refl w0.heap.size w0)
                              obtain ⟨A5, c5, e0, e1, e2, e3, e4, e5, hk0c, hK0⟩ := kid0 (Kd.C_below HR.out HB.out)
                              have HK0 := Aside0.mk hK0
                              clear hK0
                              have t1_ := ta_bb
                              have t2_ := ta_bt
                              have t3_ := ta_bn
                              have t4_ := ta_nb
                              have t5_ := ta_nn
                              go_wp2_with (first | (go_at_call 39; (with_reducible refine (HI0.out _ _ _ (Kd.C_below HK0.out (by repeat (first | (with_reducible first | exact HL.out | apply below_alloc | apply pw_below_drewN | apply below_drew1) | exact HL.out))) hk0c (Kd.C_below HBB.out (by repeat (first | (with_reducible first | exact HB.out | apply below_alloc | apply pw_below_drewN | apply below_drew1) | exact HB.out)))).mono ?_); rintro e w1 ⟨rfl, hb⟩; have n0_ := Aside0.mk (below_step (by repeat (first | (with_reducible first | exact HB.out | apply below_alloc | apply pw_below_drewN | apply below_drew1) | exact HB.out)) hb); clear HB; have HB := n0_; clear n0_; have hs_ := below_step (by repeat (first | (with_reducible first | exact HL.out | apply below_alloc | apply pw_below_drewN | apply below_drew1) | exact HL.out)) hb; have n_ := Aside0.mk (blk_below BE.out hs_); clear qBE_0 qBE_1 qBE_2 qBE_3 qBE_4 qBE_5 lBE; clear BE; have BE := n_; clear n_; obtain ⟨qBE_0, qBE_1, qBE_2, qBE_3, qBE_4, qBE_5, lBE⟩ := cells6 BE.out; clear e0 e1 e2 e3 e4 e5 HK0; obtain ⟨A6, c6, g0, g1, g2, g3, g4, g5, hk1c, hK1⟩ := kid1 (Kd.C_below HR.out HB.out); have HK1 := Aside0.mk hK1; clear hK1; clear HL hs_ hb; have HL := Aside0.mk (Below.refl w1.heap.size w1)) | (go_at_call 39; (with_reducible refine (HI1.out _ _ _ (Kd.C_below HK1.out (by repeat (first | (with_reducible first | exact HL.out | apply below_alloc | apply pw_below_drewN | apply below_drew1) | exact HL.out))) hk1c (Kd.C_below HBB.out (by repeat (first | (with_reducible first | exact HB.out | apply below_alloc | apply pw_below_drewN | apply below_drew1) | exact HB.out)))).mono ?_); rintro e w2 ⟨rfl, hb⟩; have n0_ := Aside0.mk (below_step (by repeat (first | (with_reducible first | exact HB.out | apply below_alloc | apply pw_below_drewN | apply below_drew1) | exact HB.out)) hb); clear HB; have HB := n0_; clear n0_; have hs_ := below_step (by repeat (first | (with_reducible first | exact HL.out | apply below_alloc | apply pw_below_drewN | apply below_drew1) | exact HL.out)) hb; have n_ := Aside0.mk (blk_below BE.out hs_); clear qBE_0 qBE_1 qBE_2 qBE_3 qBE_4 qBE_5 lBE; clear BE; have BE := n_; clear n_; obtain ⟨qBE_0, qBE_1, qBE_2, qBE_3, qBE_4, qBE_5, lBE⟩ := cells6 BE.out; clear g0 g1 g2 g3 g4 g5 HK1; clear HL hs_ hb; have HL := Aside0.mk (Below.refl w2.heap.size w2)) | (go_at_call 18; (with_reducible refine (mul_c ha hcz n1 ok1 HOK.out).mono ?_); rintro e w3 ⟨rfl, hb⟩; have n0_ := Aside0.mk (below_step (by repeat (first | (with_reducible first | exact HB.out | apply below_alloc | apply pw_below_drewN | apply below_drew1) | exact HB.out)) hb); clear HB; have HB := n0_; clear n0_; have hs_ := below_step (by repeat (first | (with_reducible first | exact HL.out | apply below_alloc | apply pw_below_drewN | apply below_drew1) | exact HL.out)) hb; have n_ := Aside0.mk (blk_below BE.out hs_); clear qBE_0 qBE_1 qBE_2 qBE_3 qBE_4 qBE_5 lBE; clear BE; have BE := n_; clear n_; obtain ⟨qBE_0, qBE_1, qBE_2, qBE_3, qBE_4, qBE_5, lBE⟩ := cells6 BE.out; clear HL hs_ hb; have HL := Aside0.mk (Below.refl w3.heap.size w3)) | (go_at_call 47; (with_reducible refine (num_c n1 ok1).mono ?_); rintro e w4 ⟨rfl, hb⟩; have n0_ := Aside0.mk (below_step (by repeat (first | (with_reducible first | exact HB.out | apply below_alloc | apply pw_below_drewN | apply below_drew1) | exact HB.out)) hb); clear HB; have HB := n0_; clear n0_; have hs_ := below_step (by repeat (first | (with_reducible first | exact HL.out | apply below_alloc | apply pw_below_drewN | apply below_drew1) | exact HL.out)) hb; have n_ := Aside0.mk (blk_below BE.out hs_); clear qBE_0 qBE_1 qBE_2 qBE_3 qBE_4 qBE_5 lBE; clear BE; have BE := n_; clear n_; obtain ⟨qBE_0, qBE_1, qBE_2, qBE_3, qBE_4, qBE_5, lBE⟩ := cells6 BE.out; clear HL hs_ hb; have HL := Aside0.mk (Below.refl w4.heap.size w4)))
                              all_goals (try (exfalso; omega))
                              all_goals go_ret
                              all_goals exact ⟨by rw [HT.out]; rfl, (by repeat (first | (with_reducible first | exact HB.out | apply below_alloc | apply pw_below_drewN | apply below_drew1) | exact HB.out))⟩
                          · obtain ⟨⟨n1, ok1⟩, hok⟩ : ∃ p, okF (a - cz) = p := ⟨_, rfl⟩
                            have HT := Aside0.mk (show reckonE B ⟨3, op, n, v, f, [y, z]⟩ = numV (n1, ok1) by rw [reckonE, if_neg (by decide), if_neg (by decide), reckonL, reckonL, reckonL]; rw [hv, hw, comb_ar]; unfold arith; rw [if_neg (by rw [show eqS op [61, 61] = false from o0]; decide), if_neg (by rw [show eqS op [33, 61] = false from o1]; decide), if_neg (by rw [show eqS op [60] = false from o2]; decide), if_neg (by rw [show eqS op [60, 61] = false from o3]; decide), if_neg (by rw [show eqS op [62] = false from o4]; decide), if_neg (by rw [show eqS op [62, 61] = false from o5]; decide), if_neg (by rw [show eqS op [43] = false from o6]; decide), if_pos (show eqS op [45] = true from o7)]; rw [hok])
                            have HOK := Aside0.mk hok
                            clear hok
                            go_enter Tryd.func39, Tryd.ntmps39
                            go_upto_region 2 with fail
                            have HB := Aside0.mk (show Below W.heap.size W (W.alloc (.cells #[.int .i64 3, .string op, .int .i64 n, .string v, .string f, .slice (some ad) [y, z].length c] 24 (0, 0))) from below_alloc (Below.refl _ _) _)
                            have BE := Aside0.mk (show (W.alloc (.cells #[.int .i64 3, .string op, .int .i64 n, .string v, .string f, .slice (some ad) [y, z].length c] 24 (0, 0))).heap[W.heap.size]? = some (.cells #[.int .i64 3, .string op, .int .i64 n, .string v, .string f, .slice (some ad) [y, z].length c] 24 (0, 0)) from blk_new _ _)
                            clear HB0
                            generalize (W.alloc (.cells #[.int .i64 3, .string op, .int .i64 n, .string v, .string f, .slice (some ad) [y, z].length c] 24 (0, 0))) = w0 at *
                            obtain ⟨qBE_0, qBE_1, qBE_2, qBE_3, qBE_4, qBE_5, lBE⟩ := cells6 BE.out
                            have HL := Aside0.mk (Below.refl w0.heap.size w0)
                            obtain ⟨A5, c5, e0, e1, e2, e3, e4, e5, hk0c, hK0⟩ := kid0 (Kd.C_below HR.out HB.out)
                            have HK0 := Aside0.mk hK0
                            clear hK0
                            have t1_ := ta_bb
                            have t2_ := ta_bt
                            have t3_ := ta_bn
                            have t4_ := ta_nb
                            have t5_ := ta_nn
                            go_wp2_with (first | (go_at_call 39; (with_reducible refine (HI0.out _ _ _ (Kd.C_below HK0.out (by repeat (first | (with_reducible first | exact HL.out | apply below_alloc | apply pw_below_drewN | apply below_drew1) | exact HL.out))) hk0c (Kd.C_below HBB.out (by repeat (first | (with_reducible first | exact HB.out | apply below_alloc | apply pw_below_drewN | apply below_drew1) | exact HB.out)))).mono ?_); rintro e w1 ⟨rfl, hb⟩; have n0_ := Aside0.mk (below_step (by repeat (first | (with_reducible first | exact HB.out | apply below_alloc | apply pw_below_drewN | apply below_drew1) | exact HB.out)) hb); clear HB; have HB := n0_; clear n0_; have hs_ := below_step (by repeat (first | (with_reducible first | exact HL.out | apply below_alloc | apply pw_below_drewN | apply below_drew1) | exact HL.out)) hb; have n_ := Aside0.mk (blk_below BE.out hs_); clear qBE_0 qBE_1 qBE_2 qBE_3 qBE_4 qBE_5 lBE; clear BE; have BE := n_; clear n_; obtain ⟨qBE_0, qBE_1, qBE_2, qBE_3, qBE_4, qBE_5, lBE⟩ := cells6 BE.out; clear e0 e1 e2 e3 e4 e5 HK0; obtain ⟨A6, c6, g0, g1, g2, g3, g4, g5, hk1c, hK1⟩ := kid1 (Kd.C_below HR.out HB.out); have HK1 := Aside0.mk hK1; clear hK1; clear HL hs_ hb; have HL := Aside0.mk (Below.refl w1.heap.size w1)) | (go_at_call 39; (with_reducible refine (HI1.out _ _ _ (Kd.C_below HK1.out (by repeat (first | (with_reducible first | exact HL.out | apply below_alloc | apply pw_below_drewN | apply below_drew1) | exact HL.out))) hk1c (Kd.C_below HBB.out (by repeat (first | (with_reducible first | exact HB.out | apply below_alloc | apply pw_below_drewN | apply below_drew1) | exact HB.out)))).mono ?_); rintro e w2 ⟨rfl, hb⟩; have n0_ := Aside0.mk (below_step (by repeat (first | (with_reducible first | exact HB.out | apply below_alloc | apply pw_below_drewN | apply below_drew1) | exact HB.out)) hb); clear HB; have HB := n0_; clear n0_; have hs_ := below_step (by repeat (first | (with_reducible first | exact HL.out | apply below_alloc | apply pw_below_drewN | apply below_drew1) | exact HL.out)) hb; have n_ := Aside0.mk (blk_below BE.out hs_); clear qBE_0 qBE_1 qBE_2 qBE_3 qBE_4 qBE_5 lBE; clear BE; have BE := n_; clear n_; obtain ⟨qBE_0, qBE_1, qBE_2, qBE_3, qBE_4, qBE_5, lBE⟩ := cells6 BE.out; clear g0 g1 g2 g3 g4 g5 HK1; clear HL hs_ hb; have HL := Aside0.mk (Below.refl w2.heap.size w2)) | (go_at_call 16; (with_reducible refine (sub_c ha hcz n1 ok1 HOK.out).mono ?_); rintro e w3 ⟨rfl, hb⟩; have n0_ := Aside0.mk (below_step (by repeat (first | (with_reducible first | exact HB.out | apply below_alloc | apply pw_below_drewN | apply below_drew1) | exact HB.out)) hb); clear HB; have HB := n0_; clear n0_; have hs_ := below_step (by repeat (first | (with_reducible first | exact HL.out | apply below_alloc | apply pw_below_drewN | apply below_drew1) | exact HL.out)) hb; have n_ := Aside0.mk (blk_below BE.out hs_); clear qBE_0 qBE_1 qBE_2 qBE_3 qBE_4 qBE_5 lBE; clear BE; have BE := n_; clear n_; obtain ⟨qBE_0, qBE_1, qBE_2, qBE_3, qBE_4, qBE_5, lBE⟩ := cells6 BE.out; clear HL hs_ hb; have HL := Aside0.mk (Below.refl w3.heap.size w3)) | (go_at_call 47; (with_reducible refine (num_c n1 ok1).mono ?_); rintro e w4 ⟨rfl, hb⟩; have n0_ := Aside0.mk (below_step (by repeat (first | (with_reducible first | exact HB.out | apply below_alloc | apply pw_below_drewN | apply below_drew1) | exact HB.out)) hb); clear HB; have HB := n0_; clear n0_; have hs_ := below_step (by repeat (first | (with_reducible first | exact HL.out | apply below_alloc | apply pw_below_drewN | apply below_drew1) | exact HL.out)) hb; have n_ := Aside0.mk (blk_below BE.out hs_); clear qBE_0 qBE_1 qBE_2 qBE_3 qBE_4 qBE_5 lBE; clear BE; have BE := n_; clear n_; obtain ⟨qBE_0, qBE_1, qBE_2, qBE_3, qBE_4, qBE_5, lBE⟩ := cells6 BE.out; clear HL hs_ hb; have HL := Aside0.mk (Below.refl w4.heap.size w4)))
                            all_goals (try (exfalso; omega))
                            all_goals go_ret
                            all_goals exact ⟨by rw [HT.out]; rfl, (by repeat (first | (with_reducible first | exact HB.out | apply below_alloc | apply pw_below_drewN | apply below_drew1) | exact HB.out))⟩
                        · obtain ⟨⟨n1, ok1⟩, hok⟩ : ∃ p, okF (a + cz) = p := ⟨_, rfl⟩
                          have HT := Aside0.mk (show reckonE B ⟨3, op, n, v, f, [y, z]⟩ = numV (n1, ok1) by rw [reckonE, if_neg (by decide), if_neg (by decide), reckonL, reckonL, reckonL]; rw [hv, hw, comb_ar]; unfold arith; rw [if_neg (by rw [show eqS op [61, 61] = false from o0]; decide), if_neg (by rw [show eqS op [33, 61] = false from o1]; decide), if_neg (by rw [show eqS op [60] = false from o2]; decide), if_neg (by rw [show eqS op [60, 61] = false from o3]; decide), if_neg (by rw [show eqS op [62] = false from o4]; decide), if_neg (by rw [show eqS op [62, 61] = false from o5]; decide), if_pos (show eqS op [43] = true from o6)]; rw [hok])
                          have HOK := Aside0.mk hok
                          clear hok
                          go_enter Tryd.func39, Tryd.ntmps39
                          go_upto_region 2 with fail
                          have HB := Aside0.mk (show Below W.heap.size W (W.alloc (.cells #[.int .i64 3, .string op, .int .i64 n, .string v, .string f, .slice (some ad) [y, z].length c] 24 (0, 0))) from below_alloc (Below.refl _ _) _)
                          have BE := Aside0.mk (show (W.alloc (.cells #[.int .i64 3, .string op, .int .i64 n, .string v, .string f, .slice (some ad) [y, z].length c] 24 (0, 0))).heap[W.heap.size]? = some (.cells #[.int .i64 3, .string op, .int .i64 n, .string v, .string f, .slice (some ad) [y, z].length c] 24 (0, 0)) from blk_new _ _)
                          clear HB0
                          generalize (W.alloc (.cells #[.int .i64 3, .string op, .int .i64 n, .string v, .string f, .slice (some ad) [y, z].length c] 24 (0, 0))) = w0 at *
                          obtain ⟨qBE_0, qBE_1, qBE_2, qBE_3, qBE_4, qBE_5, lBE⟩ := cells6 BE.out
                          have HL := Aside0.mk (Below.refl w0.heap.size w0)
                          obtain ⟨A5, c5, e0, e1, e2, e3, e4, e5, hk0c, hK0⟩ := kid0 (Kd.C_below HR.out HB.out)
                          have HK0 := Aside0.mk hK0
                          clear hK0
                          have t1_ := ta_bb
                          have t2_ := ta_bt
                          have t3_ := ta_bn
                          have t4_ := ta_nb
                          have t5_ := ta_nn
                          go_wp2_with (first | (go_at_call 39; (with_reducible refine (HI0.out _ _ _ (Kd.C_below HK0.out (by repeat (first | (with_reducible first | exact HL.out | apply below_alloc | apply pw_below_drewN | apply below_drew1) | exact HL.out))) hk0c (Kd.C_below HBB.out (by repeat (first | (with_reducible first | exact HB.out | apply below_alloc | apply pw_below_drewN | apply below_drew1) | exact HB.out)))).mono ?_); rintro e w1 ⟨rfl, hb⟩; have n0_ := Aside0.mk (below_step (by repeat (first | (with_reducible first | exact HB.out | apply below_alloc | apply pw_below_drewN | apply below_drew1) | exact HB.out)) hb); clear HB; have HB := n0_; clear n0_; have hs_ := below_step (by repeat (first | (with_reducible first | exact HL.out | apply below_alloc | apply pw_below_drewN | apply below_drew1) | exact HL.out)) hb; have n_ := Aside0.mk (blk_below BE.out hs_); clear qBE_0 qBE_1 qBE_2 qBE_3 qBE_4 qBE_5 lBE; clear BE; have BE := n_; clear n_; obtain ⟨qBE_0, qBE_1, qBE_2, qBE_3, qBE_4, qBE_5, lBE⟩ := cells6 BE.out; clear e0 e1 e2 e3 e4 e5 HK0; obtain ⟨A6, c6, g0, g1, g2, g3, g4, g5, hk1c, hK1⟩ := kid1 (Kd.C_below HR.out HB.out); have HK1 := Aside0.mk hK1; clear hK1; clear HL hs_ hb; have HL := Aside0.mk (Below.refl w1.heap.size w1)) | (go_at_call 39; (with_reducible refine (HI1.out _ _ _ (Kd.C_below HK1.out (by repeat (first | (with_reducible first | exact HL.out | apply below_alloc | apply pw_below_drewN | apply below_drew1) | exact HL.out))) hk1c (Kd.C_below HBB.out (by repeat (first | (with_reducible first | exact HB.out | apply below_alloc | apply pw_below_drewN | apply below_drew1) | exact HB.out)))).mono ?_); rintro e w2 ⟨rfl, hb⟩; have n0_ := Aside0.mk (below_step (by repeat (first | (with_reducible first | exact HB.out | apply below_alloc | apply pw_below_drewN | apply below_drew1) | exact HB.out)) hb); clear HB; have HB := n0_; clear n0_; have hs_ := below_step (by repeat (first | (with_reducible first | exact HL.out | apply below_alloc | apply pw_below_drewN | apply below_drew1) | exact HL.out)) hb; have n_ := Aside0.mk (blk_below BE.out hs_); clear qBE_0 qBE_1 qBE_2 qBE_3 qBE_4 qBE_5 lBE; clear BE; have BE := n_; clear n_; obtain ⟨qBE_0, qBE_1, qBE_2, qBE_3, qBE_4, qBE_5, lBE⟩ := cells6 BE.out; clear g0 g1 g2 g3 g4 g5 HK1; clear HL hs_ hb; have HL := Aside0.mk (Below.refl w2.heap.size w2)) | (go_at_call 14; (with_reducible refine (add_c ha hcz n1 ok1 HOK.out).mono ?_); rintro e w3 ⟨rfl, hb⟩; have n0_ := Aside0.mk (below_step (by repeat (first | (with_reducible first | exact HB.out | apply below_alloc | apply pw_below_drewN | apply below_drew1) | exact HB.out)) hb); clear HB; have HB := n0_; clear n0_; have hs_ := below_step (by repeat (first | (with_reducible first | exact HL.out | apply below_alloc | apply pw_below_drewN | apply below_drew1) | exact HL.out)) hb; have n_ := Aside0.mk (blk_below BE.out hs_); clear qBE_0 qBE_1 qBE_2 qBE_3 qBE_4 qBE_5 lBE; clear BE; have BE := n_; clear n_; obtain ⟨qBE_0, qBE_1, qBE_2, qBE_3, qBE_4, qBE_5, lBE⟩ := cells6 BE.out; clear HL hs_ hb; have HL := Aside0.mk (Below.refl w3.heap.size w3)) | (go_at_call 47; (with_reducible refine (num_c n1 ok1).mono ?_); rintro e w4 ⟨rfl, hb⟩; have n0_ := Aside0.mk (below_step (by repeat (first | (with_reducible first | exact HB.out | apply below_alloc | apply pw_below_drewN | apply below_drew1) | exact HB.out)) hb); clear HB; have HB := n0_; clear n0_; have hs_ := below_step (by repeat (first | (with_reducible first | exact HL.out | apply below_alloc | apply pw_below_drewN | apply below_drew1) | exact HL.out)) hb; have n_ := Aside0.mk (blk_below BE.out hs_); clear qBE_0 qBE_1 qBE_2 qBE_3 qBE_4 qBE_5 lBE; clear BE; have BE := n_; clear n_; obtain ⟨qBE_0, qBE_1, qBE_2, qBE_3, qBE_4, qBE_5, lBE⟩ := cells6 BE.out; clear HL hs_ hb; have HL := Aside0.mk (Below.refl w4.heap.size w4)))
                          all_goals (try (exfalso; omega))
                          all_goals go_ret
                          all_goals exact ⟨by rw [HT.out]; rfl, (by repeat (first | (with_reducible first | exact HB.out | apply below_alloc | apply pw_below_drewN | apply below_drew1) | exact HB.out))⟩
                      · have HT := Aside0.mk (show reckonE B ⟨3, op, n, v, f, [y, z]⟩ = .tr (decide (cz ≤ a)) by rw [reckonE, if_neg (by decide), if_neg (by decide), reckonL, reckonL, reckonL]; rw [hv, hw, comb_ar]; unfold arith; rw [if_neg (by rw [show eqS op [61, 61] = false from o0]; decide), if_neg (by rw [show eqS op [33, 61] = false from o1]; decide), if_neg (by rw [show eqS op [60] = false from o2]; decide), if_neg (by rw [show eqS op [60, 61] = false from o3]; decide), if_neg (by rw [show eqS op [62] = false from o4]; decide), if_pos (show eqS op [62, 61] = true from o5)])
                        go_enter Tryd.func39, Tryd.ntmps39
                        go_upto_region 2 with fail
                        have HB := Aside0.mk (show Below W.heap.size W (W.alloc (.cells #[.int .i64 3, .string op, .int .i64 n, .string v, .string f, .slice (some ad) [y, z].length c] 24 (0, 0))) from below_alloc (Below.refl _ _) _)
                        have BE := Aside0.mk (show (W.alloc (.cells #[.int .i64 3, .string op, .int .i64 n, .string v, .string f, .slice (some ad) [y, z].length c] 24 (0, 0))).heap[W.heap.size]? = some (.cells #[.int .i64 3, .string op, .int .i64 n, .string v, .string f, .slice (some ad) [y, z].length c] 24 (0, 0)) from blk_new _ _)
                        clear HB0
                        generalize (W.alloc (.cells #[.int .i64 3, .string op, .int .i64 n, .string v, .string f, .slice (some ad) [y, z].length c] 24 (0, 0))) = w0 at *
                        obtain ⟨qBE_0, qBE_1, qBE_2, qBE_3, qBE_4, qBE_5, lBE⟩ := cells6 BE.out
                        have HL := Aside0.mk (Below.refl w0.heap.size w0)
                        obtain ⟨A5, c5, e0, e1, e2, e3, e4, e5, hk0c, hK0⟩ := kid0 (Kd.C_below HR.out HB.out)
                        have HK0 := Aside0.mk hK0
                        clear hK0
                        have t1_ := ta_bb
                        have t2_ := ta_bt
                        have t3_ := ta_bn
                        have t4_ := ta_nb
                        have t5_ := ta_nn
                        go_wp2_with (first | (go_at_call 39; (with_reducible refine (HI0.out _ _ _ (Kd.C_below HK0.out (by repeat (first | (with_reducible first | exact HL.out | apply below_alloc | apply pw_below_drewN | apply below_drew1) | exact HL.out))) hk0c (Kd.C_below HBB.out (by repeat (first | (with_reducible first | exact HB.out | apply below_alloc | apply pw_below_drewN | apply below_drew1) | exact HB.out)))).mono ?_); rintro e w1 ⟨rfl, hb⟩; have n0_ := Aside0.mk (below_step (by repeat (first | (with_reducible first | exact HB.out | apply below_alloc | apply pw_below_drewN | apply below_drew1) | exact HB.out)) hb); clear HB; have HB := n0_; clear n0_; have hs_ := below_step (by repeat (first | (with_reducible first | exact HL.out | apply below_alloc | apply pw_below_drewN | apply below_drew1) | exact HL.out)) hb; have n_ := Aside0.mk (blk_below BE.out hs_); clear qBE_0 qBE_1 qBE_2 qBE_3 qBE_4 qBE_5 lBE; clear BE; have BE := n_; clear n_; obtain ⟨qBE_0, qBE_1, qBE_2, qBE_3, qBE_4, qBE_5, lBE⟩ := cells6 BE.out; clear e0 e1 e2 e3 e4 e5 HK0; obtain ⟨A6, c6, g0, g1, g2, g3, g4, g5, hk1c, hK1⟩ := kid1 (Kd.C_below HR.out HB.out); have HK1 := Aside0.mk hK1; clear hK1; clear HL hs_ hb; have HL := Aside0.mk (Below.refl w1.heap.size w1)) | (go_at_call 39; (with_reducible refine (HI1.out _ _ _ (Kd.C_below HK1.out (by repeat (first | (with_reducible first | exact HL.out | apply below_alloc | apply pw_below_drewN | apply below_drew1) | exact HL.out))) hk1c (Kd.C_below HBB.out (by repeat (first | (with_reducible first | exact HB.out | apply below_alloc | apply pw_below_drewN | apply below_drew1) | exact HB.out)))).mono ?_); rintro e w2 ⟨rfl, hb⟩; have n0_ := Aside0.mk (below_step (by repeat (first | (with_reducible first | exact HB.out | apply below_alloc | apply pw_below_drewN | apply below_drew1) | exact HB.out)) hb); clear HB; have HB := n0_; clear n0_; have hs_ := below_step (by repeat (first | (with_reducible first | exact HL.out | apply below_alloc | apply pw_below_drewN | apply below_drew1) | exact HL.out)) hb; have n_ := Aside0.mk (blk_below BE.out hs_); clear qBE_0 qBE_1 qBE_2 qBE_3 qBE_4 qBE_5 lBE; clear BE; have BE := n_; clear n_; obtain ⟨qBE_0, qBE_1, qBE_2, qBE_3, qBE_4, qBE_5, lBE⟩ := cells6 BE.out; clear g0 g1 g2 g3 g4 g5 HK1; clear HL hs_ hb; have HL := Aside0.mk (Below.refl w2.heap.size w2)))
                        all_goals (try (exfalso; omega))
                        all_goals go_ret
                        all_goals exact ⟨by rw [HT.out]; rfl, (by repeat (first | (with_reducible first | exact HB.out | apply below_alloc | apply pw_below_drewN | apply below_drew1) | exact HB.out))⟩
                    · have HT := Aside0.mk (show reckonE B ⟨3, op, n, v, f, [y, z]⟩ = .tr (decide (cz < a)) by rw [reckonE, if_neg (by decide), if_neg (by decide), reckonL, reckonL, reckonL]; rw [hv, hw, comb_ar]; unfold arith; rw [if_neg (by rw [show eqS op [61, 61] = false from o0]; decide), if_neg (by rw [show eqS op [33, 61] = false from o1]; decide), if_neg (by rw [show eqS op [60] = false from o2]; decide), if_neg (by rw [show eqS op [60, 61] = false from o3]; decide), if_pos (show eqS op [62] = true from o4)])
                      go_enter Tryd.func39, Tryd.ntmps39
                      go_upto_region 2 with fail
                      have HB := Aside0.mk (show Below W.heap.size W (W.alloc (.cells #[.int .i64 3, .string op, .int .i64 n, .string v, .string f, .slice (some ad) [y, z].length c] 24 (0, 0))) from below_alloc (Below.refl _ _) _)
                      have BE := Aside0.mk (show (W.alloc (.cells #[.int .i64 3, .string op, .int .i64 n, .string v, .string f, .slice (some ad) [y, z].length c] 24 (0, 0))).heap[W.heap.size]? = some (.cells #[.int .i64 3, .string op, .int .i64 n, .string v, .string f, .slice (some ad) [y, z].length c] 24 (0, 0)) from blk_new _ _)
                      clear HB0
                      generalize (W.alloc (.cells #[.int .i64 3, .string op, .int .i64 n, .string v, .string f, .slice (some ad) [y, z].length c] 24 (0, 0))) = w0 at *
                      obtain ⟨qBE_0, qBE_1, qBE_2, qBE_3, qBE_4, qBE_5, lBE⟩ := cells6 BE.out
                      have HL := Aside0.mk (Below.refl w0.heap.size w0)
                      obtain ⟨A5, c5, e0, e1, e2, e3, e4, e5, hk0c, hK0⟩ := kid0 (Kd.C_below HR.out HB.out)
                      have HK0 := Aside0.mk hK0
                      clear hK0
                      have t1_ := ta_bb
                      have t2_ := ta_bt
                      have t3_ := ta_bn
                      have t4_ := ta_nb
                      have t5_ := ta_nn
                      go_wp2_with (first | (go_at_call 39; (with_reducible refine (HI0.out _ _ _ (Kd.C_below HK0.out (by repeat (first | (with_reducible first | exact HL.out | apply below_alloc | apply pw_below_drewN | apply below_drew1) | exact HL.out))) hk0c (Kd.C_below HBB.out (by repeat (first | (with_reducible first | exact HB.out | apply below_alloc | apply pw_below_drewN | apply below_drew1) | exact HB.out)))).mono ?_); rintro e w1 ⟨rfl, hb⟩; have n0_ := Aside0.mk (below_step (by repeat (first | (with_reducible first | exact HB.out | apply below_alloc | apply pw_below_drewN | apply below_drew1) | exact HB.out)) hb); clear HB; have HB := n0_; clear n0_; have hs_ := below_step (by repeat (first | (with_reducible first | exact HL.out | apply below_alloc | apply pw_below_drewN | apply below_drew1) | exact HL.out)) hb; have n_ := Aside0.mk (blk_below BE.out hs_); clear qBE_0 qBE_1 qBE_2 qBE_3 qBE_4 qBE_5 lBE; clear BE; have BE := n_; clear n_; obtain ⟨qBE_0, qBE_1, qBE_2, qBE_3, qBE_4, qBE_5, lBE⟩ := cells6 BE.out; clear e0 e1 e2 e3 e4 e5 HK0; obtain ⟨A6, c6, g0, g1, g2, g3, g4, g5, hk1c, hK1⟩ := kid1 (Kd.C_below HR.out HB.out); have HK1 := Aside0.mk hK1; clear hK1; clear HL hs_ hb; have HL := Aside0.mk (Below.refl w1.heap.size w1)) | (go_at_call 39; (with_reducible refine (HI1.out _ _ _ (Kd.C_below HK1.out (by repeat (first | (with_reducible first | exact HL.out | apply below_alloc | apply pw_below_drewN | apply below_drew1) | exact HL.out))) hk1c (Kd.C_below HBB.out (by repeat (first | (with_reducible first | exact HB.out | apply below_alloc | apply pw_below_drewN | apply below_drew1) | exact HB.out)))).mono ?_); rintro e w2 ⟨rfl, hb⟩; have n0_ := Aside0.mk (below_step (by repeat (first | (with_reducible first | exact HB.out | apply below_alloc | apply pw_below_drewN | apply below_drew1) | exact HB.out)) hb); clear HB; have HB := n0_; clear n0_; have hs_ := below_step (by repeat (first | (with_reducible first | exact HL.out | apply below_alloc | apply pw_below_drewN | apply below_drew1) | exact HL.out)) hb; have n_ := Aside0.mk (blk_below BE.out hs_); clear qBE_0 qBE_1 qBE_2 qBE_3 qBE_4 qBE_5 lBE; clear BE; have BE := n_; clear n_; obtain ⟨qBE_0, qBE_1, qBE_2, qBE_3, qBE_4, qBE_5, lBE⟩ := cells6 BE.out; clear g0 g1 g2 g3 g4 g5 HK1; clear HL hs_ hb; have HL := Aside0.mk (Below.refl w2.heap.size w2)))
                      all_goals (try (exfalso; omega))
                      all_goals go_ret
                      all_goals exact ⟨by rw [HT.out]; rfl, (by repeat (first | (with_reducible first | exact HB.out | apply below_alloc | apply pw_below_drewN | apply below_drew1) | exact HB.out))⟩
                  · have HT := Aside0.mk (show reckonE B ⟨3, op, n, v, f, [y, z]⟩ = .tr (decide (a ≤ cz)) by rw [reckonE, if_neg (by decide), if_neg (by decide), reckonL, reckonL, reckonL]; rw [hv, hw, comb_ar]; unfold arith; rw [if_neg (by rw [show eqS op [61, 61] = false from o0]; decide), if_neg (by rw [show eqS op [33, 61] = false from o1]; decide), if_neg (by rw [show eqS op [60] = false from o2]; decide), if_pos (show eqS op [60, 61] = true from o3)])
                    go_enter Tryd.func39, Tryd.ntmps39
                    go_upto_region 2 with fail
                    have HB := Aside0.mk (show Below W.heap.size W (W.alloc (.cells #[.int .i64 3, .string op, .int .i64 n, .string v, .string f, .slice (some ad) [y, z].length c] 24 (0, 0))) from below_alloc (Below.refl _ _) _)
                    have BE := Aside0.mk (show (W.alloc (.cells #[.int .i64 3, .string op, .int .i64 n, .string v, .string f, .slice (some ad) [y, z].length c] 24 (0, 0))).heap[W.heap.size]? = some (.cells #[.int .i64 3, .string op, .int .i64 n, .string v, .string f, .slice (some ad) [y, z].length c] 24 (0, 0)) from blk_new _ _)
                    clear HB0
                    generalize (W.alloc (.cells #[.int .i64 3, .string op, .int .i64 n, .string v, .string f, .slice (some ad) [y, z].length c] 24 (0, 0))) = w0 at *
                    obtain ⟨qBE_0, qBE_1, qBE_2, qBE_3, qBE_4, qBE_5, lBE⟩ := cells6 BE.out
                    have HL := Aside0.mk (Below.refl w0.heap.size w0)
                    obtain ⟨A5, c5, e0, e1, e2, e3, e4, e5, hk0c, hK0⟩ := kid0 (Kd.C_below HR.out HB.out)
                    have HK0 := Aside0.mk hK0
                    clear hK0
                    have t1_ := ta_bb
                    have t2_ := ta_bt
                    have t3_ := ta_bn
                    have t4_ := ta_nb
                    have t5_ := ta_nn
                    go_wp2_with (first | (go_at_call 39; (with_reducible refine (HI0.out _ _ _ (Kd.C_below HK0.out (by repeat (first | (with_reducible first | exact HL.out | apply below_alloc | apply pw_below_drewN | apply below_drew1) | exact HL.out))) hk0c (Kd.C_below HBB.out (by repeat (first | (with_reducible first | exact HB.out | apply below_alloc | apply pw_below_drewN | apply below_drew1) | exact HB.out)))).mono ?_); rintro e w1 ⟨rfl, hb⟩; have n0_ := Aside0.mk (below_step (by repeat (first | (with_reducible first | exact HB.out | apply below_alloc | apply pw_below_drewN | apply below_drew1) | exact HB.out)) hb); clear HB; have HB := n0_; clear n0_; have hs_ := below_step (by repeat (first | (with_reducible first | exact HL.out | apply below_alloc | apply pw_below_drewN | apply below_drew1) | exact HL.out)) hb; have n_ := Aside0.mk (blk_below BE.out hs_); clear qBE_0 qBE_1 qBE_2 qBE_3 qBE_4 qBE_5 lBE; clear BE; have BE := n_; clear n_; obtain ⟨qBE_0, qBE_1, qBE_2, qBE_3, qBE_4, qBE_5, lBE⟩ := cells6 BE.out; clear e0 e1 e2 e3 e4 e5 HK0; obtain ⟨A6, c6, g0, g1, g2, g3, g4, g5, hk1c, hK1⟩ := kid1 (Kd.C_below HR.out HB.out); have HK1 := Aside0.mk hK1; clear hK1; clear HL hs_ hb; have HL := Aside0.mk (Below.refl w1.heap.size w1)) | (go_at_call 39; (with_reducible refine (HI1.out _ _ _ (Kd.C_below HK1.out (by repeat (first | (with_reducible first | exact HL.out | apply below_alloc | apply pw_below_drewN | apply below_drew1) | exact HL.out))) hk1c (Kd.C_below HBB.out (by repeat (first | (with_reducible first | exact HB.out | apply below_alloc | apply pw_below_drewN | apply below_drew1) | exact HB.out)))).mono ?_); rintro e w2 ⟨rfl, hb⟩; have n0_ := Aside0.mk (below_step (by repeat (first | (with_reducible first | exact HB.out | apply below_alloc | apply pw_below_drewN | apply below_drew1) | exact HB.out)) hb); clear HB; have HB := n0_; clear n0_; have hs_ := below_step (by repeat (first | (with_reducible first | exact HL.out | apply below_alloc | apply pw_below_drewN | apply below_drew1) | exact HL.out)) hb; have n_ := Aside0.mk (blk_below BE.out hs_); clear qBE_0 qBE_1 qBE_2 qBE_3 qBE_4 qBE_5 lBE; clear BE; have BE := n_; clear n_; obtain ⟨qBE_0, qBE_1, qBE_2, qBE_3, qBE_4, qBE_5, lBE⟩ := cells6 BE.out; clear g0 g1 g2 g3 g4 g5 HK1; clear HL hs_ hb; have HL := Aside0.mk (Below.refl w2.heap.size w2)))
                    all_goals (try (exfalso; omega))
                    all_goals go_ret
                    all_goals exact ⟨by rw [HT.out]; rfl, (by repeat (first | (with_reducible first | exact HB.out | apply below_alloc | apply pw_below_drewN | apply below_drew1) | exact HB.out))⟩
                · have HT := Aside0.mk (show reckonE B ⟨3, op, n, v, f, [y, z]⟩ = .tr (decide (a < cz)) by rw [reckonE, if_neg (by decide), if_neg (by decide), reckonL, reckonL, reckonL]; rw [hv, hw, comb_ar]; unfold arith; rw [if_neg (by rw [show eqS op [61, 61] = false from o0]; decide), if_neg (by rw [show eqS op [33, 61] = false from o1]; decide), if_pos (show eqS op [60] = true from o2)])
                  go_enter Tryd.func39, Tryd.ntmps39
                  go_upto_region 2 with fail
                  have HB := Aside0.mk (show Below W.heap.size W (W.alloc (.cells #[.int .i64 3, .string op, .int .i64 n, .string v, .string f, .slice (some ad) [y, z].length c] 24 (0, 0))) from below_alloc (Below.refl _ _) _)
                  have BE := Aside0.mk (show (W.alloc (.cells #[.int .i64 3, .string op, .int .i64 n, .string v, .string f, .slice (some ad) [y, z].length c] 24 (0, 0))).heap[W.heap.size]? = some (.cells #[.int .i64 3, .string op, .int .i64 n, .string v, .string f, .slice (some ad) [y, z].length c] 24 (0, 0)) from blk_new _ _)
                  clear HB0
                  generalize (W.alloc (.cells #[.int .i64 3, .string op, .int .i64 n, .string v, .string f, .slice (some ad) [y, z].length c] 24 (0, 0))) = w0 at *
                  obtain ⟨qBE_0, qBE_1, qBE_2, qBE_3, qBE_4, qBE_5, lBE⟩ := cells6 BE.out
                  have HL := Aside0.mk (Below.refl w0.heap.size w0)
                  obtain ⟨A5, c5, e0, e1, e2, e3, e4, e5, hk0c, hK0⟩ := kid0 (Kd.C_below HR.out HB.out)
                  have HK0 := Aside0.mk hK0
                  clear hK0
                  have t1_ := ta_bb
                  have t2_ := ta_bt
                  have t3_ := ta_bn
                  have t4_ := ta_nb
                  have t5_ := ta_nn
                  go_wp2_with (first | (go_at_call 39; (with_reducible refine (HI0.out _ _ _ (Kd.C_below HK0.out (by repeat (first | (with_reducible first | exact HL.out | apply below_alloc | apply pw_below_drewN | apply below_drew1) | exact HL.out))) hk0c (Kd.C_below HBB.out (by repeat (first | (with_reducible first | exact HB.out | apply below_alloc | apply pw_below_drewN | apply below_drew1) | exact HB.out)))).mono ?_); rintro e w1 ⟨rfl, hb⟩; have n0_ := Aside0.mk (below_step (by repeat (first | (with_reducible first | exact HB.out | apply below_alloc | apply pw_below_drewN | apply below_drew1) | exact HB.out)) hb); clear HB; have HB := n0_; clear n0_; have hs_ := below_step (by repeat (first | (with_reducible first | exact HL.out | apply below_alloc | apply pw_below_drewN | apply below_drew1) | exact HL.out)) hb; have n_ := Aside0.mk (blk_below BE.out hs_); clear qBE_0 qBE_1 qBE_2 qBE_3 qBE_4 qBE_5 lBE; clear BE; have BE := n_; clear n_; obtain ⟨qBE_0, qBE_1, qBE_2, qBE_3, qBE_4, qBE_5, lBE⟩ := cells6 BE.out; clear e0 e1 e2 e3 e4 e5 HK0; obtain ⟨A6, c6, g0, g1, g2, g3, g4, g5, hk1c, hK1⟩ := kid1 (Kd.C_below HR.out HB.out); have HK1 := Aside0.mk hK1; clear hK1; clear HL hs_ hb; have HL := Aside0.mk (Below.refl w1.heap.size w1)) | (go_at_call 39; (with_reducible refine (HI1.out _ _ _ (Kd.C_below HK1.out (by repeat (first | (with_reducible first | exact HL.out | apply below_alloc | apply pw_below_drewN | apply below_drew1) | exact HL.out))) hk1c (Kd.C_below HBB.out (by repeat (first | (with_reducible first | exact HB.out | apply below_alloc | apply pw_below_drewN | apply below_drew1) | exact HB.out)))).mono ?_); rintro e w2 ⟨rfl, hb⟩; have n0_ := Aside0.mk (below_step (by repeat (first | (with_reducible first | exact HB.out | apply below_alloc | apply pw_below_drewN | apply below_drew1) | exact HB.out)) hb); clear HB; have HB := n0_; clear n0_; have hs_ := below_step (by repeat (first | (with_reducible first | exact HL.out | apply below_alloc | apply pw_below_drewN | apply below_drew1) | exact HL.out)) hb; have n_ := Aside0.mk (blk_below BE.out hs_); clear qBE_0 qBE_1 qBE_2 qBE_3 qBE_4 qBE_5 lBE; clear BE; have BE := n_; clear n_; obtain ⟨qBE_0, qBE_1, qBE_2, qBE_3, qBE_4, qBE_5, lBE⟩ := cells6 BE.out; clear g0 g1 g2 g3 g4 g5 HK1; clear HL hs_ hb; have HL := Aside0.mk (Below.refl w2.heap.size w2)))
                  all_goals (try (exfalso; omega))
                  all_goals go_ret
                  all_goals exact ⟨by rw [HT.out]; rfl, (by repeat (first | (with_reducible first | exact HB.out | apply below_alloc | apply pw_below_drewN | apply below_drew1) | exact HB.out))⟩
              · have HT := Aside0.mk (show reckonE B ⟨3, op, n, v, f, [y, z]⟩ = .tr (a != cz) by rw [reckonE, if_neg (by decide), if_neg (by decide), reckonL, reckonL, reckonL]; rw [hv, hw, comb_ar]; unfold arith; rw [if_neg (by rw [show eqS op [61, 61] = false from o0]; decide), if_pos (show eqS op [33, 61] = true from o1)])
                go_enter Tryd.func39, Tryd.ntmps39
                go_upto_region 2 with fail
                have HB := Aside0.mk (show Below W.heap.size W (W.alloc (.cells #[.int .i64 3, .string op, .int .i64 n, .string v, .string f, .slice (some ad) [y, z].length c] 24 (0, 0))) from below_alloc (Below.refl _ _) _)
                have BE := Aside0.mk (show (W.alloc (.cells #[.int .i64 3, .string op, .int .i64 n, .string v, .string f, .slice (some ad) [y, z].length c] 24 (0, 0))).heap[W.heap.size]? = some (.cells #[.int .i64 3, .string op, .int .i64 n, .string v, .string f, .slice (some ad) [y, z].length c] 24 (0, 0)) from blk_new _ _)
                clear HB0
                generalize (W.alloc (.cells #[.int .i64 3, .string op, .int .i64 n, .string v, .string f, .slice (some ad) [y, z].length c] 24 (0, 0))) = w0 at *
                obtain ⟨qBE_0, qBE_1, qBE_2, qBE_3, qBE_4, qBE_5, lBE⟩ := cells6 BE.out
                have HL := Aside0.mk (Below.refl w0.heap.size w0)
                obtain ⟨A5, c5, e0, e1, e2, e3, e4, e5, hk0c, hK0⟩ := kid0 (Kd.C_below HR.out HB.out)
                have HK0 := Aside0.mk hK0
                clear hK0
                have t1_ := ta_bb
                have t2_ := ta_bt
                have t3_ := ta_bn
                have t4_ := ta_nb
                have t5_ := ta_nn
                go_wp2_with (first | (go_at_call 39; (with_reducible refine (HI0.out _ _ _ (Kd.C_below HK0.out (by repeat (first | (with_reducible first | exact HL.out | apply below_alloc | apply pw_below_drewN | apply below_drew1) | exact HL.out))) hk0c (Kd.C_below HBB.out (by repeat (first | (with_reducible first | exact HB.out | apply below_alloc | apply pw_below_drewN | apply below_drew1) | exact HB.out)))).mono ?_); rintro e w1 ⟨rfl, hb⟩; have n0_ := Aside0.mk (below_step (by repeat (first | (with_reducible first | exact HB.out | apply below_alloc | apply pw_below_drewN | apply below_drew1) | exact HB.out)) hb); clear HB; have HB := n0_; clear n0_; have hs_ := below_step (by repeat (first | (with_reducible first | exact HL.out | apply below_alloc | apply pw_below_drewN | apply below_drew1) | exact HL.out)) hb; have n_ := Aside0.mk (blk_below BE.out hs_); clear qBE_0 qBE_1 qBE_2 qBE_3 qBE_4 qBE_5 lBE; clear BE; have BE := n_; clear n_; obtain ⟨qBE_0, qBE_1, qBE_2, qBE_3, qBE_4, qBE_5, lBE⟩ := cells6 BE.out; clear e0 e1 e2 e3 e4 e5 HK0; obtain ⟨A6, c6, g0, g1, g2, g3, g4, g5, hk1c, hK1⟩ := kid1 (Kd.C_below HR.out HB.out); have HK1 := Aside0.mk hK1; clear hK1; clear HL hs_ hb; have HL := Aside0.mk (Below.refl w1.heap.size w1)) | (go_at_call 39; (with_reducible refine (HI1.out _ _ _ (Kd.C_below HK1.out (by repeat (first | (with_reducible first | exact HL.out | apply below_alloc | apply pw_below_drewN | apply below_drew1) | exact HL.out))) hk1c (Kd.C_below HBB.out (by repeat (first | (with_reducible first | exact HB.out | apply below_alloc | apply pw_below_drewN | apply below_drew1) | exact HB.out)))).mono ?_); rintro e w2 ⟨rfl, hb⟩; have n0_ := Aside0.mk (below_step (by repeat (first | (with_reducible first | exact HB.out | apply below_alloc | apply pw_below_drewN | apply below_drew1) | exact HB.out)) hb); clear HB; have HB := n0_; clear n0_; have hs_ := below_step (by repeat (first | (with_reducible first | exact HL.out | apply below_alloc | apply pw_below_drewN | apply below_drew1) | exact HL.out)) hb; have n_ := Aside0.mk (blk_below BE.out hs_); clear qBE_0 qBE_1 qBE_2 qBE_3 qBE_4 qBE_5 lBE; clear BE; have BE := n_; clear n_; obtain ⟨qBE_0, qBE_1, qBE_2, qBE_3, qBE_4, qBE_5, lBE⟩ := cells6 BE.out; clear g0 g1 g2 g3 g4 g5 HK1; clear HL hs_ hb; have HL := Aside0.mk (Below.refl w2.heap.size w2)))
                all_goals (try (exfalso; omega))
                all_goals go_ret
                all_goals exact ⟨by rw [HT.out]; rfl, (by repeat (first | (with_reducible first | exact HB.out | apply below_alloc | apply pw_below_drewN | apply below_drew1) | exact HB.out))⟩
            · have HT := Aside0.mk (show reckonE B ⟨3, op, n, v, f, [y, z]⟩ = .tr (decide (a = cz)) by rw [reckonE, if_neg (by decide), if_neg (by decide), reckonL, reckonL, reckonL]; rw [hv, hw, comb_ar]; unfold arith; rw [if_pos (show eqS op [61, 61] = true from o0)])
              go_enter Tryd.func39, Tryd.ntmps39
              go_upto_region 2 with fail
              have HB := Aside0.mk (show Below W.heap.size W (W.alloc (.cells #[.int .i64 3, .string op, .int .i64 n, .string v, .string f, .slice (some ad) [y, z].length c] 24 (0, 0))) from below_alloc (Below.refl _ _) _)
              have BE := Aside0.mk (show (W.alloc (.cells #[.int .i64 3, .string op, .int .i64 n, .string v, .string f, .slice (some ad) [y, z].length c] 24 (0, 0))).heap[W.heap.size]? = some (.cells #[.int .i64 3, .string op, .int .i64 n, .string v, .string f, .slice (some ad) [y, z].length c] 24 (0, 0)) from blk_new _ _)
              clear HB0
              generalize (W.alloc (.cells #[.int .i64 3, .string op, .int .i64 n, .string v, .string f, .slice (some ad) [y, z].length c] 24 (0, 0))) = w0 at *
              obtain ⟨qBE_0, qBE_1, qBE_2, qBE_3, qBE_4, qBE_5, lBE⟩ := cells6 BE.out
              have HL := Aside0.mk (Below.refl w0.heap.size w0)
              obtain ⟨A5, c5, e0, e1, e2, e3, e4, e5, hk0c, hK0⟩ := kid0 (Kd.C_below HR.out HB.out)
              have HK0 := Aside0.mk hK0
              clear hK0
              have t1_ := ta_bb
              have t2_ := ta_bt
              have t3_ := ta_bn
              have t4_ := ta_nb
              have t5_ := ta_nn
              go_wp2_with (first | (go_at_call 39; (with_reducible refine (HI0.out _ _ _ (Kd.C_below HK0.out (by repeat (first | (with_reducible first | exact HL.out | apply below_alloc | apply pw_below_drewN | apply below_drew1) | exact HL.out))) hk0c (Kd.C_below HBB.out (by repeat (first | (with_reducible first | exact HB.out | apply below_alloc | apply pw_below_drewN | apply below_drew1) | exact HB.out)))).mono ?_); rintro e w1 ⟨rfl, hb⟩; have n0_ := Aside0.mk (below_step (by repeat (first | (with_reducible first | exact HB.out | apply below_alloc | apply pw_below_drewN | apply below_drew1) | exact HB.out)) hb); clear HB; have HB := n0_; clear n0_; have hs_ := below_step (by repeat (first | (with_reducible first | exact HL.out | apply below_alloc | apply pw_below_drewN | apply below_drew1) | exact HL.out)) hb; have n_ := Aside0.mk (blk_below BE.out hs_); clear qBE_0 qBE_1 qBE_2 qBE_3 qBE_4 qBE_5 lBE; clear BE; have BE := n_; clear n_; obtain ⟨qBE_0, qBE_1, qBE_2, qBE_3, qBE_4, qBE_5, lBE⟩ := cells6 BE.out; clear e0 e1 e2 e3 e4 e5 HK0; obtain ⟨A6, c6, g0, g1, g2, g3, g4, g5, hk1c, hK1⟩ := kid1 (Kd.C_below HR.out HB.out); have HK1 := Aside0.mk hK1; clear hK1; clear HL hs_ hb; have HL := Aside0.mk (Below.refl w1.heap.size w1)) | (go_at_call 39; (with_reducible refine (HI1.out _ _ _ (Kd.C_below HK1.out (by repeat (first | (with_reducible first | exact HL.out | apply below_alloc | apply pw_below_drewN | apply below_drew1) | exact HL.out))) hk1c (Kd.C_below HBB.out (by repeat (first | (with_reducible first | exact HB.out | apply below_alloc | apply pw_below_drewN | apply below_drew1) | exact HB.out)))).mono ?_); rintro e w2 ⟨rfl, hb⟩; have n0_ := Aside0.mk (below_step (by repeat (first | (with_reducible first | exact HB.out | apply below_alloc | apply pw_below_drewN | apply below_drew1) | exact HB.out)) hb); clear HB; have HB := n0_; clear n0_; have hs_ := below_step (by repeat (first | (with_reducible first | exact HL.out | apply below_alloc | apply pw_below_drewN | apply below_drew1) | exact HL.out)) hb; have n_ := Aside0.mk (blk_below BE.out hs_); clear qBE_0 qBE_1 qBE_2 qBE_3 qBE_4 qBE_5 lBE; clear BE; have BE := n_; clear n_; obtain ⟨qBE_0, qBE_1, qBE_2, qBE_3, qBE_4, qBE_5, lBE⟩ := cells6 BE.out; clear g0 g1 g2 g3 g4 g5 HK1; clear HL hs_ hb; have HL := Aside0.mk (Below.refl w2.heap.size w2)))
              all_goals (try (exfalso; omega))
              all_goals go_ret
              all_goals exact ⟨by rw [HT.out]; rfl, (by repeat (first | (with_reducible first | exact HB.out | apply below_alloc | apply pw_below_drewN | apply below_drew1) | exact HB.out))⟩
end Go.Proofs.YtimmomhgljofnaaDoor.Hand
