/- Package wire's Get: bytes that are none. -/
import Derived.Test.YthckcbacmonihaaE7
import Derived.OpenShut
set_option linter.unusedVariables false
set_option linter.unusedSimpArgs false
namespace Go.Proofs.Ythckcbacmonihaa.Hand
open Go.RowKit Go.Proofs.Ythckcbacmonihaa.PWireTells Go.Proofs.YthckcbacmonihaaW.PrintWords Go.Proofs.YthckcbacmonihaaW.PrintLast Go.Proofs.YthckcbacmonihaaW.PrintMore

theorem getV1 (s : ByteArray) (a : Int) (h0 : 0 ≤ a) (h1 : a < s.size) : getV s a 1 = (bt s a, true) := by
  unfold getV
  rw [if_neg (by decide), if_neg (by decide), if_neg (by omega), if_neg (by omega)]
  have e : ((a.toNat + 0 : Nat) : Int) = a := by omega
  show (beI s a.toNat 1, true) = _
  unfold beI beI
  rw [e, Int.zero_mul, Int.zero_add]
theorem getV1_no (s : ByteArray) (a : Int) (h0 : 0 ≤ a) (h1 : (s.size : Int) ≤ a) : getV s a 1 = (0, false) := getV_no s a 1 (by omega)
def giV (s : ByteArray) (a : Int) : Int := wrap64 (beI s a.toNat 8)
theorem gintV_yes (s : ByteArray) (a : Int) (h0 : 0 ≤ a) (h1 : a + 8 ≤ s.size) : gintV s a = (giV s a, true) := by
  have e : getV s a 8 = (beI s a.toNat 8, true) := by
    unfold getV
    rw [if_neg (by decide), if_neg (by decide), if_neg (by omega), if_neg (by omega)]
    rfl
  unfold gintV
  rw [e]
  rfl
theorem gintV_no (s : ByteArray) (a : Int) (h0 : 0 ≤ a) (h1 : (s.size : Int) < a + 8) : gintV s a = (0, false) := by
  have e : getV s a 8 = (0, false) := getV_no s a 8 (by omega)
  unfold gintV
  rw [e]
  show (wrap64 0, false) = _
  rw [w_id (by decide) (by decide)]
set_option maxHeartbeats 1000000 in
set_option maxRecDepth 100000 in
theorem get_f1 (s : ByteArray) (w : World) (hs : s.size ≤ 1000000000000000) (h : s.size = 0) :
    Calls Try.prog 12 #[.string s] w fun e w' => e = .returned (.tuple #[.agg #[.int .i64 0, .int .i64 0, .slice none 0 0], .int .i64 7]) ∧ Below w.heap.size w w' := by
  have e0 := Aside0.mk (getV1_no s 0 (by omega) (by omega))
  have hmf : ∀ (fn : Fn) (first cap : Array Value) (w : World), (Instr.makeFunc fn first cap).run Try.prog w = .ok (.func fn first cap) w := fun _ _ _ _ => rfl
  have HS := Aside0.mk (St.new w s)
  have zc0 : True := trivial
  have zc1 : True := trivial
  have zc2 : True := trivial
  have zf0 : True := trivial
  have zf1 : True := trivial
  have zf2 : True := trivial
  have ze0 : True := trivial
  have zef : True := trivial
  have zr0 : True := trivial
  have zr1 : True := trivial
  have zrf : True := trivial
  have zlt : True := trivial
  go_enter_defers Try.func12, Try.ntmps12
  go_wp2_with (first | (go_at_call 28; (with_reducible refine (rbyte_no _ s 0 0 _ hs HS.out.rd e0).mono ?_); rintro y w9 ⟨rfl, hb⟩; have n0_ := Aside0.mk (HS.out.below hb); clear HS; have HS := n0_; clear n0_; clear hb))
  refine leaves_cons (f := 27) (args := #[.pointer (some ⟨w.heap.size, 0, none⟩), .pointer (some ⟨w.heap.size + 1, 0, none⟩)]) (by simp) (by simp [go_sem]) ?_
  refine (catch_bad w.heap.size (w.heap.size + 1) (by omega) _ _ _ _ _ (blk_cell HS.out.2.1 0) (blk_cell HS.out.2.1 1) (blk_cell HS.out.2.1 2) (blk_cell HS.out.2.2.1 0) (blk_frozen HS.out.2.1 0) (blk_frozen HS.out.2.1 1) (blk_frozen HS.out.2.1 2) (blk_frozen HS.out.2.2.1 0)).mono ?_
  rintro e u' w'' ⟨rfl, rfl, z0, z1, z2, z3, hB⟩
  have hBB : Below w.heap.size w w'' := HS.out.1.trans (hB w.heap.size (Nat.le_refl _) (by omega))
  simp [Leaves, settle, results, Try.results12, go_sem, bad1, z0, z1, z2, z3]
  exact hBB
set_option maxHeartbeats 1000000 in
set_option maxRecDepth 100000 in
theorem get_f2 (s : ByteArray) (w : World) (hs : s.size ≤ 1000000000000000) (h : s.size = 1) :
    Calls Try.prog 12 #[.string s] w fun e w' => e = .returned (.tuple #[.agg #[.int .i64 0, .int .i64 0, .slice none 0 0], .int .i64 7]) ∧ Below w.heap.size w w' := by
  have e0 := Aside0.mk (getV1 s 0 (by omega) (by omega))
  have e1 := Aside0.mk (getV1_no s 1 (by omega) (by omega))
  have hmf : ∀ (fn : Fn) (first cap : Array Value) (w : World), (Instr.makeFunc fn first cap).run Try.prog w = .ok (.func fn first cap) w := fun _ _ _ _ => rfl
  have HS := Aside0.mk (St.new w s)
  have zc0 : True := trivial
  have zc1 : True := trivial
  have zc2 : True := trivial
  have zf0 : True := trivial
  have zf1 : True := trivial
  have zf2 : True := trivial
  have ze0 : True := trivial
  have zef : True := trivial
  have zr0 : True := trivial
  have zr1 : True := trivial
  have zrf : True := trivial
  have zlt : True := trivial
  go_enter_defers Try.func12, Try.ntmps12
  go_wp2_with (first | (go_at_call 28; (with_reducible refine (rbyte_yes _ s 0 (bt s 0) _ hs HS.out.rd e0 (bt_range s _).1 (bt_range s _).2 (by decide) (by decide)).mono ?_); rintro y w9 ⟨rfl, hT⟩; clear zc0 zc1 zc2 zf0 zf1 zf2 ze0 zef zr0 zr1 zrf zlt; have n0_ := Aside0.mk (HS.out.turn hT); clear HS; have HS := n0_; clear n0_; clear hT; have zc0 := blk_cell HS.out.2.1 0; have zc1 := blk_cell HS.out.2.1 1; have zc2 := blk_cell HS.out.2.1 2; have zf0 := blk_frozen HS.out.2.1 0; have zf1 := blk_frozen HS.out.2.1 1; have zf2 := blk_frozen HS.out.2.1 2; have ze0 := blk_cell HS.out.2.2.1 0; have zef := blk_frozen HS.out.2.2.1 0; have zr0 := blk_cell HS.out.2.2.2.1 0; have zr1 := blk_cell HS.out.2.2.2.1 1; have zrf := blk_frozen HS.out.2.2.2.1 1; have zlt := HS.out.1.size; simp only [List.getElem?_toArray, List.getElem?_cons_zero, List.getElem?_cons_succ] at zc0 zc1 zc2 ze0 zr0 zr1) | (go_at_call 28; have n1_ := Aside0.mk (HS.out.ev0 (bt s 0)); clear HS; have HS := n1_; clear n1_; (with_reducible refine (rbyte_no _ s 1 0 _ hs HS.out.rd e1).mono ?_); rintro y w9 ⟨rfl, hb⟩; have n0_ := Aside0.mk (HS.out.below hb); clear HS; have HS := n0_; clear n0_; clear hb))
  refine leaves_cons (f := 27) (args := #[.pointer (some ⟨w.heap.size, 0, none⟩), .pointer (some ⟨w.heap.size + 1, 0, none⟩)]) (by simp) (by simp [go_sem]) ?_
  refine (catch_bad w.heap.size (w.heap.size + 1) (by omega) _ _ _ _ _ (blk_cell HS.out.2.1 0) (blk_cell HS.out.2.1 1) (blk_cell HS.out.2.1 2) (blk_cell HS.out.2.2.1 0) (blk_frozen HS.out.2.1 0) (blk_frozen HS.out.2.1 1) (blk_frozen HS.out.2.1 2) (blk_frozen HS.out.2.2.1 0)).mono ?_
  rintro e u' w'' ⟨rfl, rfl, z0, z1, z2, z3, hB⟩
  have hBB : Below w.heap.size w w'' := HS.out.1.trans (hB w.heap.size (Nat.le_refl _) (by omega))
  simp [Leaves, settle, results, Try.results12, go_sem, bad1, z0, z1, z2, z3]
  exact hBB
set_option maxHeartbeats 1000000 in
set_option maxRecDepth 100000 in
theorem get_f3 (s : ByteArray) (w : World) (hs : s.size ≤ 1000000000000000) (h : 2 ≤ s.size) (hm : 8 < bt s 1) :
    Calls Try.prog 12 #[.string s] w fun e w' => e = .returned (.tuple #[.agg #[.int .i64 0, .int .i64 0, .slice none 0 0], .int .i64 7]) ∧ Below w.heap.size w w' := by
  have e0 := Aside0.mk (getV1 s 0 (by omega) (by omega))
  have e1 := Aside0.mk (getV1 s 1 (by omega) (by omega))
  have hd : decide (bt s 1 ≤ 8) = false := decide_eq_false (by omega)
  have hm2 : ¬ bt s 1 ≤ 8 := by omega
  have hmf : ∀ (fn : Fn) (first cap : Array Value) (w : World), (Instr.makeFunc fn first cap).run Try.prog w = .ok (.func fn first cap) w := fun _ _ _ _ => rfl
  have HS := Aside0.mk (St.new w s)
  have zc0 : True := trivial
  have zc1 : True := trivial
  have zc2 : True := trivial
  have zf0 : True := trivial
  have zf1 : True := trivial
  have zf2 : True := trivial
  have ze0 : True := trivial
  have zef : True := trivial
  have zr0 : True := trivial
  have zr1 : True := trivial
  have zrf : True := trivial
  have zlt : True := trivial
  go_enter_defers Try.func12, Try.ntmps12
  go_wp2_with (first | (go_at_call 28; (with_reducible refine (rbyte_yes _ s 0 (bt s 0) _ hs HS.out.rd e0 (bt_range s _).1 (bt_range s _).2 (by decide) (by decide)).mono ?_); rintro y w9 ⟨rfl, hT⟩; clear zc0 zc1 zc2 zf0 zf1 zf2 ze0 zef zr0 zr1 zrf zlt; have n0_ := Aside0.mk (HS.out.turn hT); clear HS; have HS := n0_; clear n0_; clear hT; have zc0 := blk_cell HS.out.2.1 0; have zc1 := blk_cell HS.out.2.1 1; have zc2 := blk_cell HS.out.2.1 2; have zf0 := blk_frozen HS.out.2.1 0; have zf1 := blk_frozen HS.out.2.1 1; have zf2 := blk_frozen HS.out.2.1 2; have ze0 := blk_cell HS.out.2.2.1 0; have zef := blk_frozen HS.out.2.2.1 0; have zr0 := blk_cell HS.out.2.2.2.1 0; have zr1 := blk_cell HS.out.2.2.2.1 1; have zrf := blk_frozen HS.out.2.2.2.1 1; have zlt := HS.out.1.size; simp only [List.getElem?_toArray, List.getElem?_cons_zero, List.getElem?_cons_succ] at zc0 zc1 zc2 ze0 zr0 zr1) | (go_at_call 28; have n1_ := Aside0.mk (HS.out.ev0 (bt s 0)); clear HS; have HS := n1_; clear n1_; (with_reducible refine (rbyte_yes _ s 1 (bt s 1) _ hs HS.out.rd e1 (bt_range s _).1 (bt_range s _).2 (by decide) (by decide)).mono ?_); rintro y w9 ⟨rfl, hT⟩; clear zc0 zc1 zc2 zf0 zf1 zf2 ze0 zef zr0 zr1 zrf zlt; have n0_ := Aside0.mk (HS.out.turn hT); clear HS; have HS := n0_; clear n0_; clear hT; have zc0 := blk_cell HS.out.2.1 0; have zc1 := blk_cell HS.out.2.1 1; have zc2 := blk_cell HS.out.2.1 2; have zf0 := blk_frozen HS.out.2.1 0; have zf1 := blk_frozen HS.out.2.1 1; have zf2 := blk_frozen HS.out.2.1 2; have ze0 := blk_cell HS.out.2.2.1 0; have zef := blk_frozen HS.out.2.2.1 0; have zr0 := blk_cell HS.out.2.2.2.1 0; have zr1 := blk_cell HS.out.2.2.2.1 1; have zrf := blk_frozen HS.out.2.2.2.1 1; have zlt := HS.out.1.size; simp only [List.getElem?_toArray, List.getElem?_cons_zero, List.getElem?_cons_succ] at zc0 zc1 zc2 ze0 zr0 zr1) | (go_at_call 29; refine (must_no _).mono ?_; rintro y w8 ⟨rfl, rfl⟩; skip))
  refine leaves_cons (f := 27) (args := #[.pointer (some ⟨w.heap.size, 0, none⟩), .pointer (some ⟨w.heap.size + 1, 0, none⟩)]) (by simp) (by simp [go_sem]) ?_
  refine (catch_bad w.heap.size (w.heap.size + 1) (by omega) _ _ _ _ _ (blk_cell HS.out.2.1 0) (blk_cell HS.out.2.1 1) (blk_cell HS.out.2.1 2) (blk_cell HS.out.2.2.1 0) (blk_frozen HS.out.2.1 0) (blk_frozen HS.out.2.1 1) (blk_frozen HS.out.2.1 2) (blk_frozen HS.out.2.2.1 0)).mono ?_
  rintro e u' w'' ⟨rfl, rfl, z0, z1, z2, z3, hB⟩
  have hBB : Below w.heap.size w w'' := HS.out.1.trans (hB w.heap.size (Nat.le_refl _) (by omega))
  simp [Leaves, settle, results, Try.results12, go_sem, bad1, z0, z1, z2, z3]
  exact hBB
set_option maxHeartbeats 1000000 in
set_option maxRecDepth 100000 in
theorem get_f4 (s : ByteArray) (w : World) (hs : s.size ≤ 1000000000000000) (h : 2 ≤ s.size) (hm : bt s 1 ≤ 8) (h2 : s.size < 10) :
    Calls Try.prog 12 #[.string s] w fun e w' => e = .returned (.tuple #[.agg #[.int .i64 0, .int .i64 0, .slice none 0 0], .int .i64 7]) ∧ Below w.heap.size w w' := by
  have e0 := Aside0.mk (getV1 s 0 (by omega) (by omega))
  have e1 := Aside0.mk (getV1 s 1 (by omega) (by omega))
  have e2 := Aside0.mk (gintV_no s 2 (by omega) (by omega))
  have hmf : ∀ (fn : Fn) (first cap : Array Value) (w : World), (Instr.makeFunc fn first cap).run Try.prog w = .ok (.func fn first cap) w := fun _ _ _ _ => rfl
  have HS := Aside0.mk (St.new w s)
  have zc0 : True := trivial
  have zc1 : True := trivial
  have zc2 : True := trivial
  have zf0 : True := trivial
  have zf1 : True := trivial
  have zf2 : True := trivial
  have ze0 : True := trivial
  have zef : True := trivial
  have zr0 : True := trivial
  have zr1 : True := trivial
  have zrf : True := trivial
  have zlt : True := trivial
  go_enter_defers Try.func12, Try.ntmps12
  go_wp2_with (first | (go_at_call 28; (with_reducible refine (rbyte_yes _ s 0 (bt s 0) _ hs HS.out.rd e0 (bt_range s _).1 (bt_range s _).2 (by decide) (by decide)).mono ?_); rintro y w9 ⟨rfl, hT⟩; clear zc0 zc1 zc2 zf0 zf1 zf2 ze0 zef zr0 zr1 zrf zlt; have n0_ := Aside0.mk (HS.out.turn hT); clear HS; have HS := n0_; clear n0_; clear hT; have zc0 := blk_cell HS.out.2.1 0; have zc1 := blk_cell HS.out.2.1 1; have zc2 := blk_cell HS.out.2.1 2; have zf0 := blk_frozen HS.out.2.1 0; have zf1 := blk_frozen HS.out.2.1 1; have zf2 := blk_frozen HS.out.2.1 2; have ze0 := blk_cell HS.out.2.2.1 0; have zef := blk_frozen HS.out.2.2.1 0; have zr0 := blk_cell HS.out.2.2.2.1 0; have zr1 := blk_cell HS.out.2.2.2.1 1; have zrf := blk_frozen HS.out.2.2.2.1 1; have zlt := HS.out.1.size; simp only [List.getElem?_toArray, List.getElem?_cons_zero, List.getElem?_cons_succ] at zc0 zc1 zc2 ze0 zr0 zr1) | (go_at_call 28; have n1_ := Aside0.mk (HS.out.ev0 (bt s 0)); clear HS; have HS := n1_; clear n1_; (with_reducible refine (rbyte_yes _ s 1 (bt s 1) _ hs HS.out.rd e1 (bt_range s _).1 (bt_range s _).2 (by decide) (by decide)).mono ?_); rintro y w9 ⟨rfl, hT⟩; clear zc0 zc1 zc2 zf0 zf1 zf2 ze0 zef zr0 zr1 zrf zlt; have n0_ := Aside0.mk (HS.out.turn hT); clear HS; have HS := n0_; clear n0_; clear hT; have zc0 := blk_cell HS.out.2.1 0; have zc1 := blk_cell HS.out.2.1 1; have zc2 := blk_cell HS.out.2.1 2; have zf0 := blk_frozen HS.out.2.1 0; have zf1 := blk_frozen HS.out.2.1 1; have zf2 := blk_frozen HS.out.2.1 2; have ze0 := blk_cell HS.out.2.2.1 0; have zef := blk_frozen HS.out.2.2.1 0; have zr0 := blk_cell HS.out.2.2.2.1 0; have zr1 := blk_cell HS.out.2.2.2.1 1; have zrf := blk_frozen HS.out.2.2.2.1 1; have zlt := HS.out.1.size; simp only [List.getElem?_toArray, List.getElem?_cons_zero, List.getElem?_cons_succ] at zc0 zc1 zc2 ze0 zr0 zr1) | (go_at_call 29; refine (must_yes _).mono ?_; rintro y w8 ⟨rfl, rfl⟩) | (go_at_call 30; (with_reducible refine (rint_no _ s 2 0 _ hs HS.out.rd e2).mono ?_); rintro y w9 ⟨rfl, hb⟩; have n0_ := Aside0.mk (HS.out.below hb); clear HS; have HS := n0_; clear n0_; clear hb))
  refine leaves_cons (f := 27) (args := #[.pointer (some ⟨w.heap.size, 0, none⟩), .pointer (some ⟨w.heap.size + 1, 0, none⟩)]) (by simp) (by simp [go_sem]) ?_
  refine (catch_bad w.heap.size (w.heap.size + 1) (by omega) _ _ _ _ _ (blk_cell HS.out.2.1 0) (blk_cell HS.out.2.1 1) (blk_cell HS.out.2.1 2) (blk_cell HS.out.2.2.1 0) (blk_frozen HS.out.2.1 0) (blk_frozen HS.out.2.1 1) (blk_frozen HS.out.2.1 2) (blk_frozen HS.out.2.2.1 0)).mono ?_
  rintro e u' w'' ⟨rfl, rfl, z0, z1, z2, z3, hB⟩
  have hBB : Below w.heap.size w w'' := HS.out.1.trans (hB w.heap.size (Nat.le_refl _) (by omega))
  simp [Leaves, settle, results, Try.results12, go_sem, bad1, z0, z1, z2, z3]
  exact hBB
end Go.Proofs.Ythckcbacmonihaa.Hand
