/- Joined: E6, E7, E8, E9. -/
import Derived.Test.YtibcbeibehaeeaaG4
import Derived.Defers
import Derived.Recover
import Derived.OpenShut
import Derived.Deep.RegionHeld3
import Derived.Deep.RegionLaw
/- Package wire's Get: what its deferred closure does. -/
set_option linter.unusedVariables false
set_option linter.unusedSimpArgs false
namespace Go.Proofs.Ytibcbeibehaeeaa.Hand
open Go.RowKit Go.Proofs.Ytibcbeibehaeeaa.PStorePlays Go.Proofs.YtibcbeibehaeeaaW.PrintWords Go.Proofs.YtibcbeibehaeeaaW.PrintLast Go.Proofs.YtibcbeibehaeeaaW.PrintMore

def bad1 (older : List PanicEntry) : List PanicEntry := { v := .iface 39 (.int .i64 7), recovered := true } :: older
set_option maxRecDepth 100000 in
theorem assert_errno (W : World) : (Instr.typeAssert (.iface 39 (.int .i64 7)) 20 39 false).run Try.prog W = .ok (.int .i64 7) W := by
  first | kernel_rfl | rfl | simp [go_sem]
set_option maxHeartbeats 1000000 in
set_option maxRecDepth 100000 in
theorem catch_bad (n m : Nat) (hne : n ≠ m) (c0 c1 c2 r0 : Value) (w : World) (h0 : w.cell? ⟨n, 0, none⟩ = some c0) (h1 : w.cell? ⟨n, 1, none⟩ = some c1) (h2 : w.cell? ⟨n, 2, none⟩ = some c2) (h3 : w.cell? ⟨m, 0, none⟩ = some r0)
    (f0 : w.frozen? ⟨n, 0, none⟩ = false) (f1 : w.frozen? ⟨n, 1, none⟩ = false) (f2 : w.frozen? ⟨n, 2, none⟩ = false) (f3 : w.frozen? ⟨m, 0, none⟩ = false) :
    CallsD Try.prog 56 #[.pointer (some ⟨n, 0, none⟩), .pointer (some ⟨m, 0, none⟩)] (.panicking bad) w fun e u' w' =>
      e = .returned (.tuple #[]) ∧ u' = .panicking (bad1 []) ∧ w'.cell? ⟨n, 0, none⟩ = some (.int .i64 0) ∧ w'.cell? ⟨n, 1, none⟩ = some (.int .i64 0) ∧ w'.cell? ⟨n, 2, none⟩ = some (.slice none 0 0) ∧ w'.cell? ⟨m, 0, none⟩ = some (.int .i64 7) ∧ (∀ B, B ≤ n → B ≤ m → Below B w w') := by
  refine callsD_of_wpS Try.func56 rfl fun c₀ cs hu => ?_
  apply wpS_seq
  apply wpS_region
  simp [wpOpsS, go_sem, recoverD, hu, Try.ntmps56, Exit.thenS, bad]
  refine wpS_of_wp ?_
  go_wp2
  change Code.wp Try.prog _ _ { tmps := #[.pointer (some ⟨n, 0, none⟩), .pointer (some ⟨m, 0, none⟩), .iface 39 (.int .i64 7), .iface 39 (.int .i64 7), .iface 39 (.int .i64 7), undef, undef, undef, .bool false], defers := [] } _
  have hta : ∀ W : World, (Instr.typeAssert (.iface 39 (.int .i64 7)) 20 39 false).run Try.prog W = .ok (.int .i64 7) W := assert_errno
  go_region
  all_goals go_wp2
  cases c₀
  have hne' : m ≠ n := fun h => hne h.symm
  refine ⟨rfl, _, rfl, .tuple #[], by simp [results, Try.results56, go_sem], rfl, rfl, ?_, ?_, ?_, ?_, ?_⟩
  · simp [go_sem, hne, hne', h0, h1, h2, h3]
  · simp [go_sem, hne, hne', h0, h1, h2, h3]
  · simp [go_sem, hne, hne', h0, h1, h2, h3]
  · simp [go_sem, hne, hne', h0, h1, h2, h3]
  · intro B hn hm
    exact (((((Below.refl B w).setCell (p := ⟨n, 0, none⟩) hn _).setCell (p := ⟨n, 1, none⟩) hn _).setCell (p := ⟨n, 2, none⟩) hn _).setCell (p := ⟨m, 0, none⟩) hm _).drew
theorem catch_idle (n m : Nat) (w : World) :
    CallsD Try.prog 56 #[.pointer (some ⟨n, 0, none⟩), .pointer (some ⟨m, 0, none⟩)] .returning w fun e u' w' => e = .returned (.tuple #[]) ∧ u' = .returning ∧ w' = w := by
  refine callsD_of_wpS Try.func56 rfl fun c₀ cs hu => ?_
  apply wpS_seq
  apply wpS_region
  simp [wpOpsS, go_sem, recoverD, hu, Try.ntmps56, Exit.thenS]
  refine wpS_of_wp ?_
  go_wp2
  cases c₀
  simp_all [bodyPostS, results, Try.results56]
end Go.Proofs.Ytibcbeibehaeeaa.Hand

/- Package wire's Get: the walk. -/
set_option linter.unusedVariables false
set_option linter.unusedSimpArgs false
namespace Go.Proofs.Ytibcbeibehaeeaa.Hand
open Go.RowKit Go.Proofs.Ytibcbeibehaeeaa.PStorePlays Go.Proofs.YtibcbeibehaeeaaW.PrintWords Go.Proofs.YtibcbeibehaeeaaW.PrintLast Go.Proofs.YtibcbeibehaeeaaW.PrintMore

/-- Where Get stands: the event that it makes, the error, the reader, the row of numbers. -/
def St (w W : World) (s : ByteArray) (a k t : Int) (v : Value) (l : List Int) : Prop :=
  Below w.heap.size w W ∧ W.heap[w.heap.size]? = some (.cells #[.int .i64 k, .int .i64 t, v] 35 (0, 0)) ∧ W.heap[w.heap.size + 1]? = some (.cells #[.int .i64 0] 39 (0, 0)) ∧ W.heap[w.heap.size + 1 + 1]? = some (.cells #[.string s, .int .i64 a] 120 (0, 0)) ∧ Kd.R (Kd.int .i64) 2 W w.heap.size (fun _ => True) v l
section
variable {w W W1 : World} {s : ByteArray} {a k t : Int} {v : Value} {l : List Int}
theorem St.rd (h : St w W s a k t v l) : Rd W (w.heap.size + 1 + 1) s a := ⟨blk_cell h.2.2.2.1 0, blk_cell h.2.2.2.1 1, blk_frozen h.2.2.2.1 1⟩
theorem St.below (h : St w W s a k t v l) (hb : Below W.heap.size W W1) : St w W1 s a k t v l := by
  obtain ⟨h1, h2, h3, h4, h5⟩ := h
  exact ⟨below_step h1 hb, blk_below h2 hb, blk_below h3 hb, blk_below h4 hb, Kd.R_below h5 hb⟩
theorem St.turn {b : Int} (h : St w W s a k t v l) (ht : Turn (w.heap.size + 1 + 1) b W W1) : St w W1 s b k t v l := by
  obtain ⟨W0, hb, rfl⟩ := ht
  obtain ⟨h1, h2, h3, h4, h5⟩ := h.below hb
  exact ⟨below_set h1 (show w.heap.size ≤ w.heap.size + 1 + 1 by omega), blk_far h2 (show w.heap.size ≠ w.heap.size + 1 + 1 by omega) _, blk_far h3 (show w.heap.size + 1 ≠ w.heap.size + 1 + 1 by omega) _, blk_put h4 1 _ rfl, Kd.R_mono (Kd.R_far (Kd.R_types h5 h4 (by decide)) (fun _ hk => hk.2) _) (fun _ _ => trivial)⟩
theorem St.ev0 (h : St w W s a k t v l) (k' : Int) : St w (W.setCell ⟨w.heap.size, 0, none⟩ (.int .i64 k')) s a k' t v l := by
  obtain ⟨h1, h2, h3, h4, h5⟩ := h
  exact ⟨below_set h1 (Nat.le_refl w.heap.size), blk_put h2 0 _ rfl, blk_far h3 (show w.heap.size + 1 ≠ w.heap.size by omega) _, blk_far h4 (show w.heap.size + 1 + 1 ≠ w.heap.size by omega) _, Kd.R_mono (Kd.R_far (Kd.R_types h5 h2 (by decide)) (fun _ hk => hk.2) _) (fun _ _ => trivial)⟩
theorem St.ev1 (h : St w W s a k t v l) (t' : Int) : St w (W.setCell ⟨w.heap.size, 1, none⟩ (.int .i64 t')) s a k t' v l := by
  obtain ⟨h1, h2, h3, h4, h5⟩ := h
  exact ⟨below_set h1 (Nat.le_refl w.heap.size), blk_put h2 1 _ rfl, blk_far h3 (show w.heap.size + 1 ≠ w.heap.size by omega) _, blk_far h4 (show w.heap.size + 1 + 1 ≠ w.heap.size by omega) _, Kd.R_mono (Kd.R_far (Kd.R_types h5 h2 (by decide)) (fun _ hk => hk.2) _) (fun _ _ => trivial)⟩
theorem St.ev2 {v' : Value} {l' : List Int} (h : St w W s a k t v l) (hr : Kd.R (Kd.int .i64) 2 W w.heap.size (fun _ => True) v' l') : St w (W.setCell ⟨w.heap.size, 2, none⟩ v') s a k t v' l' := by
  obtain ⟨h1, h2, h3, h4, h5⟩ := h
  exact ⟨below_set h1 (Nat.le_refl w.heap.size), blk_put h2 2 _ rfl, blk_far h3 (show w.heap.size + 1 ≠ w.heap.size by omega) _, blk_far h4 (show w.heap.size + 1 + 1 ≠ w.heap.size by omega) _, Kd.R_mono (Kd.R_far (Kd.R_types hr h2 (by decide)) (fun _ hk => hk.2) _) (fun _ _ => trivial)⟩
theorem St.new (w : World) (s : ByteArray) : St w (((w.alloc (.cells #[.int .i64 0, .int .i64 0, .slice none 0 0] 35)).alloc (.cells #[.int .i64 0] 39)).alloc (.cells #[.string s, .int .i64 0] 120)) s 0 0 0 (.slice none 0 0) [] := by
  refine ⟨below_alloc (below_alloc (below_alloc (Below.refl _ _) _) _) _, ?_, ?_, ?_, Kd.R_nil _ _ _ _ _⟩
  · exact blk_alloc (blk_alloc (blk_new w _) _) _
  · have := blk_alloc (blk_new (w.alloc (.cells #[.int .i64 0, .int .i64 0, .slice none 0 0] 35)) (.cells #[.int .i64 0] 39)) (.cells #[.string s, .int .i64 0] 120)
    simpa using this
  · have := blk_new ((w.alloc (.cells #[.int .i64 0, .int .i64 0, .slice none 0 0] 35)).alloc (.cells #[.int .i64 0] 39)) (.cells #[.string s, .int .i64 0] 120)
    simpa using this
end
end Go.Proofs.Ytibcbeibehaeeaa.Hand

/- Package wire's Get: bytes that are none. -/
set_option linter.unusedVariables false
set_option linter.unusedSimpArgs false
namespace Go.Proofs.Ytibcbeibehaeeaa.Hand
open Go.RowKit Go.Proofs.Ytibcbeibehaeeaa.PStorePlays Go.Proofs.YtibcbeibehaeeaaW.PrintWords Go.Proofs.YtibcbeibehaeeaaW.PrintLast Go.Proofs.YtibcbeibehaeeaaW.PrintMore

theorem getV1 (s : ByteArray) (a : Int) (h0 : 0 ≤ a) (h1 : a < s.size) : getV s a 1 = (bt s a, true) := by
  unfold getV
  rw [if_neg (by decide), if_neg (by decide), if_neg (by omega), if_neg (by omega)]
  have e : ((a.toNat + 0 : Nat) : Int) = a := by omega
  show (beI s a.toNat 1, true) = _
  unfold beI beI
  rw [e, Int.zero_mul, Int.zero_add]
theorem getV1_no (s : ByteArray) (a : Int) (h0 : 0 ≤ a) (h1 : (s.size : Int) ≤ a) : getV s a 1 = (0, false) := getV_no s a 1 (by omega)
def giV (s : ByteArray) (a : Int) : Int := wrap64 (beI s a.toNat 8)
theorem gintV_yes (s : ByteArray) (a : Int) (h0 : 0 ≤ a) (h1 : a + 8 ≤ s.size) : gintV s a = (giV s a, true) := by
  have e : getV s a 8 = (beI s a.toNat 8, true) := by
    unfold getV
    rw [if_neg (by decide), if_neg (by decide), if_neg (by omega), if_neg (by omega)]
    rfl
  unfold gintV
  rw [e]
  rfl
theorem gintV_no (s : ByteArray) (a : Int) (h0 : 0 ≤ a) (h1 : (s.size : Int) < a + 8) : gintV s a = (0, false) := by
  have e : getV s a 8 = (0, false) := getV_no s a 8 (by omega)
  unfold gintV
  rw [e]
  show (wrap64 0, false) = _
  rw [w_id (by decide) (by decide)]
set_option maxHeartbeats 1000000 in
set_option maxRecDepth 100000 in
theorem get_f1 (s : ByteArray) (w : World) (hs : s.size ≤ 1000000000000000) (h : s.size = 0) :
    Calls Try.prog 40 #[.string s] w fun e w' => e = .returned (.tuple #[.agg #[.int .i64 0, .int .i64 0, .slice none 0 0], .int .i64 7]) ∧ Below w.heap.size w w' := by
  have e0 := Aside0.mk (getV1_no s 0 (by omega) (by omega))
  have hmf : ∀ (fn : Fn) (first cap : Array Value) (w : World), (Instr.makeFunc fn first cap).run Try.prog w = .ok (.func fn first cap) w := fun _ _ _ _ => rfl
  have HS := Aside0.mk (St.new w s)
  have zc0 : True := trivial
  have zc1 : True := trivial
  have zc2 : True := trivial
  have zf0 : True := trivial
  have zf1 : True := trivial
  have zf2 : True := trivial
  have ze0 : True := trivial
  have zef : True := trivial
  have zr0 : True := trivial
  have zr1 : True := trivial
  have zrf : True := trivial
  have zlt : True := trivial
  go_enter_defers Try.func40, Try.ntmps40
  go_wp2_with (first | (go_at_call 57; (with_reducible refine (rbyte_no _ s 0 0 _ hs HS.out.rd e0).mono ?_); rintro y w9 ⟨rfl, hb⟩; have n0_ := Aside0.mk (HS.out.below hb); clear HS; have HS := n0_; clear n0_; clear hb))
  refine leaves_cons (f := 56) (args := #[.pointer (some ⟨w.heap.size, 0, none⟩), .pointer (some ⟨w.heap.size + 1, 0, none⟩)]) (by simp) (by simp [go_sem]) ?_
  refine (catch_bad w.heap.size (w.heap.size + 1) (by omega) _ _ _ _ _ (blk_cell HS.out.2.1 0) (blk_cell HS.out.2.1 1) (blk_cell HS.out.2.1 2) (blk_cell HS.out.2.2.1 0) (blk_frozen HS.out.2.1 0) (blk_frozen HS.out.2.1 1) (blk_frozen HS.out.2.1 2) (blk_frozen HS.out.2.2.1 0)).mono ?_
  rintro e u' w'' ⟨rfl, rfl, z0, z1, z2, z3, hB⟩
  have hBB : Below w.heap.size w w'' := HS.out.1.trans (hB w.heap.size (Nat.le_refl _) (by omega))
  simp [Leaves, settle, results, Try.results40, go_sem, bad1, z0, z1, z2, z3]
  exact hBB
set_option maxHeartbeats 1000000 in
set_option maxRecDepth 100000 in
theorem get_f2 (s : ByteArray) (w : World) (hs : s.size ≤ 1000000000000000) (h : s.size = 1) :
    Calls Try.prog 40 #[.string s] w fun e w' => e = .returned (.tuple #[.agg #[.int .i64 0, .int .i64 0, .slice none 0 0], .int .i64 7]) ∧ Below w.heap.size w w' := by
  have e0 := Aside0.mk (getV1 s 0 (by omega) (by omega))
  have e1 := Aside0.mk (getV1_no s 1 (by omega) (by omega))
  have hmf : ∀ (fn : Fn) (first cap : Array Value) (w : World), (Instr.makeFunc fn first cap).run Try.prog w = .ok (.func fn first cap) w := fun _ _ _ _ => rfl
  have HS := Aside0.mk (St.new w s)
  have zc0 : True := trivial
  have zc1 : True := trivial
  have zc2 : True := trivial
  have zf0 : True := trivial
  have zf1 : True := trivial
  have zf2 : True := trivial
  have ze0 : True := trivial
  have zef : True := trivial
  have zr0 : True := trivial
  have zr1 : True := trivial
  have zrf : True := trivial
  have zlt : True := trivial
  go_enter_defers Try.func40, Try.ntmps40
  go_wp2_with (first | (go_at_call 57; (with_reducible refine (rbyte_yes _ s 0 (bt s 0) _ hs HS.out.rd e0 (bt_range s _).1 (bt_range s _).2 (by decide) (by decide)).mono ?_); rintro y w9 ⟨rfl, hT⟩; clear zc0 zc1 zc2 zf0 zf1 zf2 ze0 zef zr0 zr1 zrf zlt; have n0_ := Aside0.mk (HS.out.turn hT); clear HS; have HS := n0_; clear n0_; clear hT; have zc0 := blk_cell HS.out.2.1 0; have zc1 := blk_cell HS.out.2.1 1; have zc2 := blk_cell HS.out.2.1 2; have zf0 := blk_frozen HS.out.2.1 0; have zf1 := blk_frozen HS.out.2.1 1; have zf2 := blk_frozen HS.out.2.1 2; have ze0 := blk_cell HS.out.2.2.1 0; have zef := blk_frozen HS.out.2.2.1 0; have zr0 := blk_cell HS.out.2.2.2.1 0; have zr1 := blk_cell HS.out.2.2.2.1 1; have zrf := blk_frozen HS.out.2.2.2.1 1; have zlt := HS.out.1.size; simp only [List.getElem?_toArray, List.getElem?_cons_zero, List.getElem?_cons_succ] at zc0 zc1 zc2 ze0 zr0 zr1) | (go_at_call 57; have n1_ := Aside0.mk (HS.out.ev0 (bt s 0)); clear HS; have HS := n1_; clear n1_; (with_reducible refine (rbyte_no _ s 1 0 _ hs HS.out.rd e1).mono ?_); rintro y w9 ⟨rfl, hb⟩; have n0_ := Aside0.mk (HS.out.below hb); clear HS; have HS := n0_; clear n0_; clear hb))
  refine leaves_cons (f := 56) (args := #[.pointer (some ⟨w.heap.size, 0, none⟩), .pointer (some ⟨w.heap.size + 1, 0, none⟩)]) (by simp) (by simp [go_sem]) ?_
  refine (catch_bad w.heap.size (w.heap.size + 1) (by omega) _ _ _ _ _ (blk_cell HS.out.2.1 0) (blk_cell HS.out.2.1 1) (blk_cell HS.out.2.1 2) (blk_cell HS.out.2.2.1 0) (blk_frozen HS.out.2.1 0) (blk_frozen HS.out.2.1 1) (blk_frozen HS.out.2.1 2) (blk_frozen HS.out.2.2.1 0)).mono ?_
  rintro e u' w'' ⟨rfl, rfl, z0, z1, z2, z3, hB⟩
  have hBB : Below w.heap.size w w'' := HS.out.1.trans (hB w.heap.size (Nat.le_refl _) (by omega))
  simp [Leaves, settle, results, Try.results40, go_sem, bad1, z0, z1, z2, z3]
  exact hBB
set_option maxHeartbeats 1000000 in
set_option maxRecDepth 100000 in
theorem get_f3 (s : ByteArray) (w : World) (hs : s.size ≤ 1000000000000000) (h : 2 ≤ s.size) (hm : 8 < bt s 1) :
    Calls Try.prog 40 #[.string s] w fun e w' => e = .returned (.tuple #[.agg #[.int .i64 0, .int .i64 0, .slice none 0 0], .int .i64 7]) ∧ Below w.heap.size w w' := by
  have e0 := Aside0.mk (getV1 s 0 (by omega) (by omega))
  have e1 := Aside0.mk (getV1 s 1 (by omega) (by omega))
  have hd : decide (bt s 1 ≤ 8) = false := decide_eq_false (by omega)
  have hm2 : ¬ bt s 1 ≤ 8 := by omega
  have hmf : ∀ (fn : Fn) (first cap : Array Value) (w : World), (Instr.makeFunc fn first cap).run Try.prog w = .ok (.func fn first cap) w := fun _ _ _ _ => rfl
  have HS := Aside0.mk (St.new w s)
  have zc0 : True := trivial
  have zc1 : True := trivial
  have zc2 : True := trivial
  have zf0 : True := trivial
  have zf1 : True := trivial
  have zf2 : True := trivial
  have ze0 : True := trivial
  have zef : True := trivial
  have zr0 : True := trivial
  have zr1 : True := trivial
  have zrf : True := trivial
  have zlt : True := trivial
  go_enter_defers Try.func40, Try.ntmps40
  go_wp2_with (first | (go_at_call 57; (with_reducible refine (rbyte_yes _ s 0 (bt s 0) _ hs HS.out.rd e0 (bt_range s _).1 (bt_range s _).2 (by decide) (by decide)).mono ?_); rintro y w9 ⟨rfl, hT⟩; clear zc0 zc1 zc2 zf0 zf1 zf2 ze0 zef zr0 zr1 zrf zlt; have n0_ := Aside0.mk (HS.out.turn hT); clear HS; have HS := n0_; clear n0_; clear hT; have zc0 := blk_cell HS.out.2.1 0; have zc1 := blk_cell HS.out.2.1 1; have zc2 := blk_cell HS.out.2.1 2; have zf0 := blk_frozen HS.out.2.1 0; have zf1 := blk_frozen HS.out.2.1 1; have zf2 := blk_frozen HS.out.2.1 2; have ze0 := blk_cell HS.out.2.2.1 0; have zef := blk_frozen HS.out.2.2.1 0; have zr0 := blk_cell HS.out.2.2.2.1 0; have zr1 := blk_cell HS.out.2.2.2.1 1; have zrf := blk_frozen HS.out.2.2.2.1 1; have zlt := HS.out.1.size; simp only [List.getElem?_toArray, List.getElem?_cons_zero, List.getElem?_cons_succ] at zc0 zc1 zc2 ze0 zr0 zr1) | (go_at_call 57; have n1_ := Aside0.mk (HS.out.ev0 (bt s 0)); clear HS; have HS := n1_; clear n1_; (with_reducible refine (rbyte_yes _ s 1 (bt s 1) _ hs HS.out.rd e1 (bt_range s _).1 (bt_range s _).2 (by decide) (by decide)).mono ?_); rintro y w9 ⟨rfl, hT⟩; clear zc0 zc1 zc2 zf0 zf1 zf2 ze0 zef zr0 zr1 zrf zlt; have n0_ := Aside0.mk (HS.out.turn hT); clear HS; have HS := n0_; clear n0_; clear hT; have zc0 := blk_cell HS.out.2.1 0; have zc1 := blk_cell HS.out.2.1 1; have zc2 := blk_cell HS.out.2.1 2; have zf0 := blk_frozen HS.out.2.1 0; have zf1 := blk_frozen HS.out.2.1 1; have zf2 := blk_frozen HS.out.2.1 2; have ze0 := blk_cell HS.out.2.2.1 0; have zef := blk_frozen HS.out.2.2.1 0; have zr0 := blk_cell HS.out.2.2.2.1 0; have zr1 := blk_cell HS.out.2.2.2.1 1; have zrf := blk_frozen HS.out.2.2.2.1 1; have zlt := HS.out.1.size; simp only [List.getElem?_toArray, List.getElem?_cons_zero, List.getElem?_cons_succ] at zc0 zc1 zc2 ze0 zr0 zr1) | (go_at_call 58; refine (must_no _).mono ?_; rintro y w8 ⟨rfl, rfl⟩; skip))
  refine leaves_cons (f := 56) (args := #[.pointer (some ⟨w.heap.size, 0, none⟩), .pointer (some ⟨w.heap.size + 1, 0, none⟩)]) (by simp) (by simp [go_sem]) ?_
  refine (catch_bad w.heap.size (w.heap.size + 1) (by omega) _ _ _ _ _ (blk_cell HS.out.2.1 0) (blk_cell HS.out.2.1 1) (blk_cell HS.out.2.1 2) (blk_cell HS.out.2.2.1 0) (blk_frozen HS.out.2.1 0) (blk_frozen HS.out.2.1 1) (blk_frozen HS.out.2.1 2) (blk_frozen HS.out.2.2.1 0)).mono ?_
  rintro e u' w'' ⟨rfl, rfl, z0, z1, z2, z3, hB⟩
  have hBB : Below w.heap.size w w'' := HS.out.1.trans (hB w.heap.size (Nat.le_refl _) (by omega))
  simp [Leaves, settle, results, Try.results40, go_sem, bad1, z0, z1, z2, z3]
  exact hBB
set_option maxHeartbeats 1000000 in
set_option maxRecDepth 100000 in
theorem get_f4 (s : ByteArray) (w : World) (hs : s.size ≤ 1000000000000000) (h : 2 ≤ s.size) (hm : bt s 1 ≤ 8) (h2 : s.size < 10) :
    Calls Try.prog 40 #[.string s] w fun e w' => e = .returned (.tuple #[.agg #[.int .i64 0, .int .i64 0, .slice none 0 0], .int .i64 7]) ∧ Below w.heap.size w w' := by
  have e0 := Aside0.mk (getV1 s 0 (by omega) (by omega))
  have e1 := Aside0.mk (getV1 s 1 (by omega) (by omega))
  have e2 := Aside0.mk (gintV_no s 2 (by omega) (by omega))
  have hmf : ∀ (fn : Fn) (first cap : Array Value) (w : World), (Instr.makeFunc fn first cap).run Try.prog w = .ok (.func fn first cap) w := fun _ _ _ _ => rfl
  have HS := Aside0.mk (St.new w s)
  have zc0 : True := trivial
  have zc1 : True := trivial
  have zc2 : True := trivial
  have zf0 : True := trivial
  have zf1 : True := trivial
  have zf2 : True := trivial
  have ze0 : True := trivial
  have zef : True := trivial
  have zr0 : True := trivial
  have zr1 : True := trivial
  have zrf : True := trivial
  have zlt : True := trivial
  go_enter_defers Try.func40, Try.ntmps40
  go_wp2_with (first | (go_at_call 57; (with_reducible refine (rbyte_yes _ s 0 (bt s 0) _ hs HS.out.rd e0 (bt_range s _).1 (bt_range s _).2 (by decide) (by decide)).mono ?_); rintro y w9 ⟨rfl, hT⟩; clear zc0 zc1 zc2 zf0 zf1 zf2 ze0 zef zr0 zr1 zrf zlt; have n0_ := Aside0.mk (HS.out.turn hT); clear HS; have HS := n0_; clear n0_; clear hT; have zc0 := blk_cell HS.out.2.1 0; have zc1 := blk_cell HS.out.2.1 1; have zc2 := blk_cell HS.out.2.1 2; have zf0 := blk_frozen HS.out.2.1 0; have zf1 := blk_frozen HS.out.2.1 1; have zf2 := blk_frozen HS.out.2.1 2; have ze0 := blk_cell HS.out.2.2.1 0; have zef := blk_frozen HS.out.2.2.1 0; have zr0 := blk_cell HS.out.2.2.2.1 0; have zr1 := blk_cell HS.out.2.2.2.1 1; have zrf := blk_frozen HS.out.2.2.2.1 1; have zlt := HS.out.1.size; simp only [List.getElem?_toArray, List.getElem?_cons_zero, List.getElem?_cons_succ] at zc0 zc1 zc2 ze0 zr0 zr1) | (go_at_call 57; have n1_ := Aside0.mk (HS.out.ev0 (bt s 0)); clear HS; have HS := n1_; clear n1_; (with_reducible refine (rbyte_yes _ s 1 (bt s 1) _ hs HS.out.rd e1 (bt_range s _).1 (bt_range s _).2 (by decide) (by decide)).mono ?_); rintro y w9 ⟨rfl, hT⟩; clear zc0 zc1 zc2 zf0 zf1 zf2 ze0 zef zr0 zr1 zrf zlt; have n0_ := Aside0.mk (HS.out.turn hT); clear HS; have HS := n0_; clear n0_; clear hT; have zc0 := blk_cell HS.out.2.1 0; have zc1 := blk_cell HS.out.2.1 1; have zc2 := blk_cell HS.out.2.1 2; have zf0 := blk_frozen HS.out.2.1 0; have zf1 := blk_frozen HS.out.2.1 1; have zf2 := blk_frozen HS.out.2.1 2; have ze0 := blk_cell HS.out.2.2.1 0; have zef := blk_frozen HS.out.2.2.1 0; have zr0 := blk_cell HS.out.2.2.2.1 0; have zr1 := blk_cell HS.out.2.2.2.1 1; have zrf := blk_frozen HS.out.2.2.2.1 1; have zlt := HS.out.1.size; simp only [List.getElem?_toArray, List.getElem?_cons_zero, List.getElem?_cons_succ] at zc0 zc1 zc2 ze0 zr0 zr1) | (go_at_call 58; refine (must_yes _).mono ?_; rintro y w8 ⟨rfl, rfl⟩) | (go_at_call 59; (with_reducible refine (rint_no _ s 2 0 _ hs HS.out.rd e2).mono ?_); rintro y w9 ⟨rfl, hb⟩; have n0_ := Aside0.mk (HS.out.below hb); clear HS; have HS := n0_; clear n0_; clear hb))
  refine leaves_cons (f := 56) (args := #[.pointer (some ⟨w.heap.size, 0, none⟩), .pointer (some ⟨w.heap.size + 1, 0, none⟩)]) (by simp) (by simp [go_sem]) ?_
  refine (catch_bad w.heap.size (w.heap.size + 1) (by omega) _ _ _ _ _ (blk_cell HS.out.2.1 0) (blk_cell HS.out.2.1 1) (blk_cell HS.out.2.1 2) (blk_cell HS.out.2.2.1 0) (blk_frozen HS.out.2.1 0) (blk_frozen HS.out.2.1 1) (blk_frozen HS.out.2.1 2) (blk_frozen HS.out.2.2.1 0)).mono ?_
  rintro e u' w'' ⟨rfl, rfl, z0, z1, z2, z3, hB⟩
  have hBB : Below w.heap.size w w'' := HS.out.1.trans (hB w.heap.size (Nat.le_refl _) (by omega))
  simp [Leaves, settle, results, Try.results40, go_sem, bad1, z0, z1, z2, z3]
  exact hBB
end Go.Proofs.Ytibcbeibehaeeaa.Hand

/- Package wire's Get: the loop. -/
set_option linter.unusedVariables false
set_option linter.unusedSimpArgs false
namespace Go.Proofs.Ytibcbeibehaeeaa.Hand
open Go.RowKit Go.Proofs.Ytibcbeibehaeeaa.PStorePlays Go.Proofs.YtibcbeibehaeeaaW.PrintWords Go.Proofs.YtibcbeibehaeeaaW.PrintLast Go.Proofs.YtibcbeibehaeeaaW.PrintMore

def evN (s : ByteArray) (i : Nat) : List Int := (List.range i).map (fun (j : Nat) => giV s (10 + 8 * (j : Int)))
theorem evN_succ (s : ByteArray) (i : Nat) : evN s (i + 1) = evN s i ++ [giV s (10 + 8 * (i : Int))] := by
  unfold evN; rw [List.range_succ, List.map_append]; rfl
theorem evN_len (s : ByteArray) (i : Nat) : (evN s i).length = i := by simp [evN]
theorem St.drew {w W : World} {s : ByteArray} {a k t : Int} {v : Value} {l : List Int} (h : St w W s a k t v l) : St w W.drew s a k t v l := h.below (below_drew (Below.refl _ _))
theorem St.er0 {w W : World} {s : ByteArray} {a k t : Int} {v : Value} {l : List Int} (h : St w W s a k t v l) : St w (W.setCell ⟨w.heap.size + 1, 0, none⟩ (.int .i64 0)) s a k t v l := by
  obtain ⟨h1, h2, h3, h4, h5⟩ := h
  exact ⟨below_set h1 (Nat.le_succ w.heap.size), blk_far h2 (show w.heap.size ≠ w.heap.size + 1 by omega) _, blk_put h3 0 _ rfl, blk_far h4 (show w.heap.size + 1 + 1 ≠ w.heap.size + 1 by omega) _, Kd.R_mono (Kd.R_far (Kd.R_types h5 h3 (by decide)) (fun _ hk => hk.2) _) (fun _ _ => trivial)⟩
theorem St.lt0 {w W : World} {s : ByteArray} {a k t : Int} {v : Value} {l : List Int} (h : St w W s a k t v l) : w.heap.size < W.heap.size := World.block_lt_of_cell? _ _ (blk_cell h.2.1 0)
def PanicTo (ds : List Deferred) (p2 p3 : Value) (F : World → Prop) (ch : List PanicEntry) : Exit → Act → World → Prop
  | .panic c, a, w => c = ch ∧ a.defers = ds ∧ a.tmps[2]? = some p2 ∧ a.tmps[3]? = some p3 ∧ F w
  | _, _, _ => False
theorem panicTo_put {ds : List Deferred} {p2 p3 : Value} {F : World → Prop} {ch c : List PanicEntry} {a : Act} {d : Nat} (h2 : d ≠ 2) (h3 : d ≠ 3) {v : Value} {w : World} (h : PanicTo ds p2 p3 F ch (.panic c) (a.put (some d) v) w) : PanicTo ds p2 p3 F ch (.panic c) a w := by
  obtain ⟨e1, e2, e3, e4, e5⟩ := h
  simp only [Act.put] at e2 e3 e4
  rw [Array.getElem?_setIfInBounds_ne h2] at e3
  rw [Array.getElem?_setIfInBounds_ne h3] at e4
  exact ⟨e1, e2, e3, e4, e5⟩
theorem wp_region_panicTo {P : Program} {id : Nat} {ops : Array Oper} {b : Bool} {Q : Exit → Act → World → Prop} {a : Act} {w : World} (ds : List Deferred) (p2 p3 : Value) (F : World → Prop) (ch : List PanicEntry) (hQ : ∀ a w, a.defers = ds → a.tmps[2]? = some p2 → a.tmps[3]? = some p3 → F w → Q (.panic ch) a w)
    (h : (Code.region id ops b).wp P (PanicTo ds p2 p3 F ch) a w) : (Code.region id ops b).wp P Q a w := by
  refine Code.wp_mono (fun e a w hh => ?_) h
  cases e with
  | panic c => obtain ⟨rfl, h1, h2, h3, h4⟩ := hh; exact hQ a w h1 h2 h3 h4
  | _ => exact (hh : False).elim
theorem panics_ {P : Program} {ops : Array Oper} {Q : Exit → Act → World → Prop} {oi : Oper} {N : Option Tmp} {a : Act} {w : World} {K : Act → World → Prop} {f : FuncId} {fn : Func} {as_ : Array Operand} {ts : Array TypeId} (hf : P.funcs[f]? = some fn) (hname : (fn.name == "runtime.NumGoroutine") = false) (hb : fn.body.isSome = true) (args : Array Value)
    (hw : Region.wanted oi (yielded ops a.tmps) = true) (hN : oi.dst = N) (hop : oi.op = .call { callee := .value (.func f), args := as_, argTypes := ts }) (hargs : as_.map a.eval = args)
    (h : Calls P f args w fun e w' => ∃ c, e = .panicked c ∧ Q (.panic c) a w') : if Region.wanted oi (yielded ops a.tmps) = true then Oper.wp P oi a w K Q else K (a.put N undef) w := by
  have he := enters_ hf hname hb args w
  have hrun : (execOp a.eval oi).run P w = .ok (.enter f args) w := by
    unfold execOp
    simp [hop, resolve, Deferred.ofValue, invoke, Act.eval, hargs, he]
  rw [if_pos hw]
  unfold Oper.wp
  rw [hrun, Oper.upon_enter]
  refine h.mono fun e w'' hh => ?_
  obtain ⟨c, rfl, hk⟩ := hh
  exact hk
def St4 (w W : World) (s : ByteArray) (a k t : Int) (v : Value) : Prop :=
  Below w.heap.size w W ∧ W.heap[w.heap.size]? = some (.cells #[.int .i64 k, .int .i64 t, v] 35 (0, 0)) ∧ W.heap[w.heap.size + 1]? = some (.cells #[.int .i64 0] 39 (0, 0)) ∧ W.heap[w.heap.size + 1 + 1]? = some (.cells #[.string s, .int .i64 a] 120 (0, 0))
theorem St4.ev2 {w W : World} {s : ByteArray} {a k t : Int} {v v' : Value} {l' : List Int} (h : St4 w W s a k t v) (hr : Kd.R (Kd.int .i64) 2 W w.heap.size (fun _ => True) v' l') : St w (W.setCell ⟨w.heap.size, 2, none⟩ v') s a k t v' l' := by
  obtain ⟨h1, h2, h3, h4⟩ := h
  exact ⟨below_set h1 (Nat.le_refl w.heap.size), blk_put h2 2 _ rfl, blk_far h3 (show w.heap.size + 1 ≠ w.heap.size by omega) _, blk_far h4 (show w.heap.size + 1 + 1 ≠ w.heap.size by omega) _, Kd.R_mono (Kd.R_far (Kd.R_types hr h2 (by decide)) (fun _ hk => hk.2) _) (fun _ _ => trivial)⟩
section
variable {ops : Array Oper} {o : Oper} {a : Act} {Q : Exit → Act → World → Prop} {Kc : Act → World → Prop}
theorem appSt {w W : World} {s : ByteArray} {b k t : Int} {v : Value} {l : List Int} (HS : St w W s b k t v l) (hl : l.length ≤ 1000) (hw : Region.wanted o (yielded ops a.tmps) = true) (y x : Operand)
    (ho : o.op = .call { callee := .builtin .append, args := #[y, x], argTypes := #[33, 33] }) (p : Int) (hs : a.eval y = v) (hx : a.eval x = .slice (some ⟨W.heap.size, 0, none⟩) 1 1)
    (h : ∀ v1 w1, St4 w w1 s b k t v → Kd.R (Kd.int .i64) 2 w1 w.heap.size (fun _ => True) v1 (l ++ [p]) → Kc (a.put o.dst v1) w1) :
    if Region.wanted o (yielded ops a.tmps) = true then Oper.wp Try.prog o a (W.alloc (.cells [Value.int .i64 p].toArray 2)) Kc Q else Kc (a.put o.dst undef) (W.alloc (.cells [Value.int .i64 p].toArray 2)) := by
  obtain ⟨h1, h2, h3, h4, h5⟩ := HS
  refine Kd.R_append_step (Kd.int .i64) (w0 := w) w.heap.size hw y x 33 2 (.int .i64 0) 8 ho Try.underlying33 info2 rfl (by decide) (by omega) v l p [.int .i64 p] (fun _ => True) (fun _ => False) hs hx rfl (fun _ hk => hk.elim) (fun _ _ => trivial) h5 h1 h1.size (by omega) ?_
  intro v1 w1 r1 b1 g1 _
  exact h v1 w1 ⟨b1, blk_grown h2 g1 (Kd.R_ne h5 h2 (by decide)), blk_grown h3 g1 (Kd.R_ne h5 h3 (by decide)), blk_grown h4 g1 (Kd.R_ne h5 h4 (by decide))⟩ r1
end
set_option maxHeartbeats 1000000 in
set_option maxRecDepth 100000 in
theorem get_f5 (s : ByteArray) (m q : Nat) (w : World) (hs : s.size ≤ 1000000000000000) (h : 10 ≤ s.size) (hm : Aside0 (bt s 1 = (m : Int))) (hm8 : m ≤ 8) (hq : q ≤ m) (hq1 : 10 + 8 * q ≤ s.size) (hq2 : q < m → s.size < 18 + 8 * q) (hx : q < m) :
    Calls Try.prog 40 #[.string s] w fun e w' => e = .returned (.tuple #[.agg #[.int .i64 0, .int .i64 0, .slice none 0 0], .int .i64 7]) ∧ Below w.heap.size w w' := by
  have e0 := Aside0.mk (getV1 s 0 (by omega) (by omega))
  have e1 : Aside0 (getV s 1 1 = ((m : Int), true)) := ⟨by rw [getV1 s 1 (by omega) (by omega), hm.out]⟩
  have e2 := Aside0.mk (gintV_yes s 2 (by omega) (by omega))
  have hmi : (m : Int) ≤ 8 := by omega
  have hmf : ∀ (fn : Fn) (first cap : Array Value) (w : World), (Instr.makeFunc fn first cap).run Try.prog w = .ok (.func fn first cap) w := fun _ _ _ _ => rfl
  have HS := Aside0.mk (St.new w s)
  have zc0 : True := trivial
  have zc1 : True := trivial
  have zc2 : True := trivial
  have zf0 : True := trivial
  have zf1 : True := trivial
  have zf2 : True := trivial
  have ze0 : True := trivial
  have zef : True := trivial
  have zr0 : True := trivial
  have zr1 : True := trivial
  have zrf : True := trivial
  have zlt : True := trivial
  go_enter_defers Try.func40, Try.ntmps40
  go_wp2_with (first | (go_at_call 57; (with_reducible refine (rbyte_yes _ s 0 (bt s 0) _ hs HS.out.rd e0 (bt_range s _).1 (bt_range s _).2 (by decide) (by decide)).mono ?_); rintro y w9 ⟨rfl, hT⟩; clear zc0 zc1 zc2 zf0 zf1 zf2 ze0 zef zr0 zr1 zrf zlt; have n0_ := Aside0.mk (HS.out.turn hT); clear HS; have HS := n0_; clear n0_; clear hT; have zc0 := blk_cell HS.out.2.1 0; have zc1 := blk_cell HS.out.2.1 1; have zc2 := blk_cell HS.out.2.1 2; have zf0 := blk_frozen HS.out.2.1 0; have zf1 := blk_frozen HS.out.2.1 1; have zf2 := blk_frozen HS.out.2.1 2; have ze0 := blk_cell HS.out.2.2.1 0; have zef := blk_frozen HS.out.2.2.1 0; have zr0 := blk_cell HS.out.2.2.2.1 0; have zr1 := blk_cell HS.out.2.2.2.1 1; have zrf := blk_frozen HS.out.2.2.2.1 1; have zlt := HS.out.lt0; simp only [List.getElem?_toArray, List.getElem?_cons_zero, List.getElem?_cons_succ] at zc0 zc1 zc2 ze0 zr0 zr1) | (go_at_call 57; (have n1_ := Aside0.mk (HS.out.ev0 (bt s 0)); clear HS; have HS := n1_; clear n1_); (with_reducible refine (rbyte_yes _ s 1 (m : Int) _ hs HS.out.rd e1 (by omega) (by omega) (by decide) (by decide)).mono ?_); rintro y w9 ⟨rfl, hT⟩; clear zc0 zc1 zc2 zf0 zf1 zf2 ze0 zef zr0 zr1 zrf zlt; have n0_ := Aside0.mk (HS.out.turn hT); clear HS; have HS := n0_; clear n0_; clear hT; have zc0 := blk_cell HS.out.2.1 0; have zc1 := blk_cell HS.out.2.1 1; have zc2 := blk_cell HS.out.2.1 2; have zf0 := blk_frozen HS.out.2.1 0; have zf1 := blk_frozen HS.out.2.1 1; have zf2 := blk_frozen HS.out.2.1 2; have ze0 := blk_cell HS.out.2.2.1 0; have zef := blk_frozen HS.out.2.2.1 0; have zr0 := blk_cell HS.out.2.2.2.1 0; have zr1 := blk_cell HS.out.2.2.2.1 1; have zrf := blk_frozen HS.out.2.2.2.1 1; have zlt := HS.out.lt0; simp only [List.getElem?_toArray, List.getElem?_cons_zero, List.getElem?_cons_succ] at zc0 zc1 zc2 ze0 zr0 zr1) | (go_at_call 58; refine (must_yes _).mono ?_; rintro y w8 ⟨rfl, rfl⟩) | (go_at_call 59; (with_reducible refine (rint_yes _ s 2 (giV s 2) _ hs HS.out.rd e2 (by decide) (by decide)).mono ?_); rintro y w9 ⟨rfl, hT⟩; clear zc0 zc1 zc2 zf0 zf1 zf2 ze0 zef zr0 zr1 zrf zlt; have n0_ := Aside0.mk (HS.out.turn hT); clear HS; have HS := n0_; clear n0_; clear hT; have zc0 := blk_cell HS.out.2.1 0; have zc1 := blk_cell HS.out.2.1 1; have zc2 := blk_cell HS.out.2.1 2; have zf0 := blk_frozen HS.out.2.1 0; have zf1 := blk_frozen HS.out.2.1 1; have zf2 := blk_frozen HS.out.2.1 2; have ze0 := blk_cell HS.out.2.2.1 0; have zef := blk_frozen HS.out.2.2.1 0; have zr0 := blk_cell HS.out.2.2.2.1 0; have zr1 := blk_cell HS.out.2.2.2.1 1; have zrf := blk_frozen HS.out.2.2.2.1 1; have zlt := HS.out.lt0; simp only [List.getElem?_toArray, List.getElem?_cons_zero, List.getElem?_cons_succ] at zc0 zc1 zc2 ze0 zr0 zr1))
  go_loopw [22] (fun v22 wr => ∃ (i : Nat) (v : Value), i ≤ q ∧ v22 = .int .i64 i ∧ Aside0 (St w wr s (10 + 8 * (i : Int)) (bt s 0) (giV s 2) v (evN s i))) (fun v _ => q + 1 - (intOf v).toNat)
  case atStart => exact ⟨0, _, by omega, rfl, ⟨HS.out.ev1 (giV s 2)⟩⟩
  case round =>
    obtain ⟨i, v, hi, rfl, HS'⟩ := hrel
    clear HS
    have HS := HS'
    clear HS'
    obtain ⟨Av, cv, ev⟩ := Kd.R_slice HS.out.2.2.2.2
    subst ev
    clear zc0 zc1 zc2 zf0 zf1 zf2 ze0 zef zr0 zr1 zrf zlt
    have zc0 := blk_cell HS.out.2.1 0
    have zc1 := blk_cell HS.out.2.1 1
    have zc2 := blk_cell HS.out.2.1 2
    have zf0 := blk_frozen HS.out.2.1 0
    have zf1 := blk_frozen HS.out.2.1 1
    have zf2 := blk_frozen HS.out.2.1 2
    have ze0 := blk_cell HS.out.2.2.1 0
    have zef := blk_frozen HS.out.2.2.1 0
    have zr0 := blk_cell HS.out.2.2.2.1 0
    have zr1 := blk_cell HS.out.2.2.2.1 1
    have zrf := blk_frozen HS.out.2.2.2.1 1
    have zlt := HS.out.lt0
    simp only [List.getElem?_toArray, List.getElem?_cons_zero, List.getElem?_cons_succ] at zc0 zc1 zc2 ze0 zr0 zr1
    by_cases hlt : i < q
    · have him : (i : Int) < (m : Int) := by omega
      have e3 := Aside0.mk (gintV_yes s (10 + 8 * (i : Int)) (by omega) (by omega))
      go_wp2_with fail
      refine wp_region_noPanic ?_
      go_region_law (first | (refine appSt (w := w) HS.out ?_ ?_ (.tmp 25) (.tmp 28) ?_ _ ?_ ?_ ?_; rotate_left 2; rfl; rfl; rfl; rotate_left 1; (rw [evN_len]; omega); rfl; intro v1 w6 hS4 hR; obtain ⟨A1, c1, e1_⟩ := Kd.R_slice hR; subst e1_; have zc2 := blk_cell hS4.2.1 2; have zf2 := blk_frozen hS4.2.1 2; simp only [List.getElem?_toArray, List.getElem?_cons_zero, List.getElem?_cons_succ] at zc2) | (refine goes_ Try.func59 (by kernel_rfl) rfl #[.pointer (some ⟨w.heap.size + 1 + 1, 0, none⟩)] (by rfl) rfl rfl (by simp only [List.map_toArray, List.map_cons, List.map_nil]; rfl) ?_; (with_reducible refine (rint_yes _ s (10 + 8 * (i : Int)) (giV s (10 + 8 * (i : Int))) _ hs HS.out.drew.rd e3 (by omega) (by omega)).mono ?_); rintro y w9 ⟨rfl, hT⟩; refine ⟨_, rfl, ?_⟩; clear zc0 zc1 zc2 zf0 zf1 zf2 ze0 zef zr0 zr1 zrf zlt; have n0_ := Aside0.mk (HS.out.drew.turn hT); clear HS; have HS := n0_; clear n0_; clear hT; have zc0 := blk_cell HS.out.2.1 0; have zc1 := blk_cell HS.out.2.1 1; have zc2 := blk_cell HS.out.2.1 2; have zf0 := blk_frozen HS.out.2.1 0; have zf1 := blk_frozen HS.out.2.1 1; have zf2 := blk_frozen HS.out.2.1 2; have ze0 := blk_cell HS.out.2.2.1 0; have zef := blk_frozen HS.out.2.2.1 0; have zr0 := blk_cell HS.out.2.2.2.1 0; have zr1 := blk_cell HS.out.2.2.2.1 1; have zrf := blk_frozen HS.out.2.2.2.1 1; have zlt := HS.out.lt0; simp only [List.getElem?_toArray, List.getElem?_cons_zero, List.getElem?_cons_succ] at zc0 zc1 zc2 ze0 zr0 zr1))
      all_goals refine NoPanic.normal ?_
      all_goals go_wp2
      all_goals go_roundw
      all_goals first | (simp [intOf]; omega; done) | skip
      all_goals have hfin := hS4.ev2 hR
      all_goals rw [show (evN s i ++ [giV s (10 + 8 * (i : Int))]).length = (evN s i).length + 1 from by simp, ← evN_succ, show (10 + 8 * (i : Int) + 8) = 10 + 8 * ((i + 1 : Nat) : Int) from by omega] at hfin
      all_goals exact ⟨i + 1, _, by omega, by go_num, ⟨hfin⟩⟩
    · obtain rfl : i = q := by omega
      have him : (i : Int) < (m : Int) := by omega
      have e3 := Aside0.mk (gintV_no s (10 + 8 * (i : Int)) (by omega) (by omega))
      go_wp2_with fail
      refine wp_region_panicTo [{ target := .fn (.func 56) #[.pointer (some ⟨w.heap.size, 0, none⟩), .pointer (some ⟨w.heap.size + 1, 0, none⟩)], args := #[] }] (.pointer (some ⟨w.heap.size, 0, none⟩)) (.pointer (some ⟨w.heap.size + 1, 0, none⟩)) (fun W => St w W s (10 + 8 * (i : Int)) (bt s 0) (giV s 2) (.slice Av (evN s i).length cv) (evN s i)) bad ?_ ?_
      · intro a' W' hd hp2 hp3 hF
        simp only [Exit.inBlock, Exit.then]
        go_wp2
        obtain ⟨tm_, df_⟩ := a'
        simp only at hd hp2 hp3
        subst hd
        clear HS
        have HS := Aside0.mk hF
        refine leaves_cons (f := 56) (args := #[.pointer (some ⟨w.heap.size, 0, none⟩), .pointer (some ⟨w.heap.size + 1, 0, none⟩)]) (by simp) (by simp [go_sem]) ?_
        refine (catch_bad w.heap.size (w.heap.size + 1) (by omega) _ _ _ _ _ (blk_cell HS.out.2.1 0) (blk_cell HS.out.2.1 1) (blk_cell HS.out.2.1 2) (blk_cell HS.out.2.2.1 0) (blk_frozen HS.out.2.1 0) (blk_frozen HS.out.2.1 1) (blk_frozen HS.out.2.1 2) (blk_frozen HS.out.2.2.1 0)).mono ?_
        rintro e u' w'' ⟨rfl, rfl, z0, z1, z2, z3, hB⟩
        have hBB : Below w.heap.size w w'' := HS.out.1.trans (hB w.heap.size (Nat.le_refl _) (by omega))
        simp [Leaves, settle, results, Try.results40, go_sem, bad1, z0, z1, z2, z3, hp2, hp3]
        exact hBB
      refine wp_region_any (by kernel_rfl) ?_
      try (change wpAny _ _ _ _ _ _ _ (World.drew _))
      refine wpAny_take (i := 0) (v := .pointer (some ⟨w.heap.size, 2, none⟩)) rfl (by kernel_rfl) (by kernel_rfl) (by kernel_rfl) (fun _ _ _ h => panicTo_put (by decide) (by decide) h) (Or.inl ⟨by rfl, by intro w; go_simp⟩) ?_
      refine wpAny_take (i := 2) (v := .pointer (some ⟨w.heap.size + 1 + 1, 0, none⟩)) rfl (by kernel_rfl) (by kernel_rfl) (by kernel_rfl) (fun _ _ _ h => panicTo_put (by decide) (by decide) h) (Or.inl ⟨by rfl, by intro w; go_simp⟩) ?_
      refine wpAny_ready (rs := [1, 3]) (by kernel_rfl) (by simp) ?_
      refine AllReady.cons rfl (fun K hK => ?_) (AllReady.cons rfl (fun K hK => ?_) AllReady.nil)
      · go_simp
        refine hK _ _ ?_
        clear hK K
        refine wpAny_ready (rs := [3]) (by kernel_rfl) (by simp) ?_
        refine AllReady.cons rfl (fun K hK => ?_) AllReady.nil
        refine panics_ Try.func59 (by kernel_rfl) rfl #[.pointer (some ⟨w.heap.size + 1 + 1, 0, none⟩)] (by rfl) rfl rfl (by simp only [List.map_toArray, List.map_cons, List.map_nil]; rfl) ?_; refine (rint_no _ s (10 + 8 * (i : Int)) 0 _ hs HS.out.drew.rd e3).mono ?_; rintro y w9 ⟨rfl, hb⟩; exact ⟨_, rfl, rfl, rfl, rfl, rfl, HS.out.drew.below hb⟩
      · refine panics_ Try.func59 (by kernel_rfl) rfl #[.pointer (some ⟨w.heap.size + 1 + 1, 0, none⟩)] (by rfl) rfl rfl (by simp only [List.map_toArray, List.map_cons, List.map_nil]; rfl) ?_; refine (rint_no _ s (10 + 8 * (i : Int)) 0 _ hs HS.out.drew.rd e3).mono ?_; rintro y w9 ⟨rfl, hb⟩; exact ⟨_, rfl, rfl, rfl, rfl, rfl, HS.out.drew.below hb⟩
set_option maxHeartbeats 1000000 in
set_option maxRecDepth 100000 in
theorem get_f6 (s : ByteArray) (m q : Nat) (w : World) (hs : s.size ≤ 1000000000000000) (h : 10 ≤ s.size) (hm : Aside0 (bt s 1 = (m : Int))) (hm8 : m ≤ 8) (hq : q ≤ m) (hq1 : 10 + 8 * q ≤ s.size) (hq2 : q < m → s.size < 18 + 8 * q) (hx : q = m) (hy : s.size ≠ 10 + 8 * m) :
    Calls Try.prog 40 #[.string s] w fun e w' => e = .returned (.tuple #[.agg #[.int .i64 0, .int .i64 0, .slice none 0 0], .int .i64 7]) ∧ Below w.heap.size w w' := by
  subst hx
  have e0 := Aside0.mk (getV1 s 0 (by omega) (by omega))
  have e1 : Aside0 (getV s 1 1 = ((q : Int), true)) := ⟨by rw [getV1 s 1 (by omega) (by omega), hm.out]⟩
  have e2 := Aside0.mk (gintV_yes s 2 (by omega) (by omega))
  have hmi : (q : Int) ≤ 8 := by omega
  have hmf : ∀ (fn : Fn) (first cap : Array Value) (w : World), (Instr.makeFunc fn first cap).run Try.prog w = .ok (.func fn first cap) w := fun _ _ _ _ => rfl
  have HS := Aside0.mk (St.new w s)
  have zc0 : True := trivial
  have zc1 : True := trivial
  have zc2 : True := trivial
  have zf0 : True := trivial
  have zf1 : True := trivial
  have zf2 : True := trivial
  have ze0 : True := trivial
  have zef : True := trivial
  have zr0 : True := trivial
  have zr1 : True := trivial
  have zrf : True := trivial
  have zlt : True := trivial
  go_enter_defers Try.func40, Try.ntmps40
  go_wp2_with (first | (go_at_call 57; (with_reducible refine (rbyte_yes _ s 0 (bt s 0) _ hs HS.out.rd e0 (bt_range s _).1 (bt_range s _).2 (by decide) (by decide)).mono ?_); rintro y w9 ⟨rfl, hT⟩; clear zc0 zc1 zc2 zf0 zf1 zf2 ze0 zef zr0 zr1 zrf zlt; have n0_ := Aside0.mk (HS.out.turn hT); clear HS; have HS := n0_; clear n0_; clear hT; have zc0 := blk_cell HS.out.2.1 0; have zc1 := blk_cell HS.out.2.1 1; have zc2 := blk_cell HS.out.2.1 2; have zf0 := blk_frozen HS.out.2.1 0; have zf1 := blk_frozen HS.out.2.1 1; have zf2 := blk_frozen HS.out.2.1 2; have ze0 := blk_cell HS.out.2.2.1 0; have zef := blk_frozen HS.out.2.2.1 0; have zr0 := blk_cell HS.out.2.2.2.1 0; have zr1 := blk_cell HS.out.2.2.2.1 1; have zrf := blk_frozen HS.out.2.2.2.1 1; have zlt := HS.out.lt0; simp only [List.getElem?_toArray, List.getElem?_cons_zero, List.getElem?_cons_succ] at zc0 zc1 zc2 ze0 zr0 zr1) | (go_at_call 57; (have n1_ := Aside0.mk (HS.out.ev0 (bt s 0)); clear HS; have HS := n1_; clear n1_); (with_reducible refine (rbyte_yes _ s 1 (q : Int) _ hs HS.out.rd e1 (by omega) (by omega) (by decide) (by decide)).mono ?_); rintro y w9 ⟨rfl, hT⟩; clear zc0 zc1 zc2 zf0 zf1 zf2 ze0 zef zr0 zr1 zrf zlt; have n0_ := Aside0.mk (HS.out.turn hT); clear HS; have HS := n0_; clear n0_; clear hT; have zc0 := blk_cell HS.out.2.1 0; have zc1 := blk_cell HS.out.2.1 1; have zc2 := blk_cell HS.out.2.1 2; have zf0 := blk_frozen HS.out.2.1 0; have zf1 := blk_frozen HS.out.2.1 1; have zf2 := blk_frozen HS.out.2.1 2; have ze0 := blk_cell HS.out.2.2.1 0; have zef := blk_frozen HS.out.2.2.1 0; have zr0 := blk_cell HS.out.2.2.2.1 0; have zr1 := blk_cell HS.out.2.2.2.1 1; have zrf := blk_frozen HS.out.2.2.2.1 1; have zlt := HS.out.lt0; simp only [List.getElem?_toArray, List.getElem?_cons_zero, List.getElem?_cons_succ] at zc0 zc1 zc2 ze0 zr0 zr1) | (go_at_call 58; refine (must_yes _).mono ?_; rintro y w8 ⟨rfl, rfl⟩) | (go_at_call 59; (with_reducible refine (rint_yes _ s 2 (giV s 2) _ hs HS.out.rd e2 (by decide) (by decide)).mono ?_); rintro y w9 ⟨rfl, hT⟩; clear zc0 zc1 zc2 zf0 zf1 zf2 ze0 zef zr0 zr1 zrf zlt; have n0_ := Aside0.mk (HS.out.turn hT); clear HS; have HS := n0_; clear n0_; clear hT; have zc0 := blk_cell HS.out.2.1 0; have zc1 := blk_cell HS.out.2.1 1; have zc2 := blk_cell HS.out.2.1 2; have zf0 := blk_frozen HS.out.2.1 0; have zf1 := blk_frozen HS.out.2.1 1; have zf2 := blk_frozen HS.out.2.1 2; have ze0 := blk_cell HS.out.2.2.1 0; have zef := blk_frozen HS.out.2.2.1 0; have zr0 := blk_cell HS.out.2.2.2.1 0; have zr1 := blk_cell HS.out.2.2.2.1 1; have zrf := blk_frozen HS.out.2.2.2.1 1; have zlt := HS.out.lt0; simp only [List.getElem?_toArray, List.getElem?_cons_zero, List.getElem?_cons_succ] at zc0 zc1 zc2 ze0 zr0 zr1))
  go_loopw [22] (fun v22 wr => ∃ (i : Nat) (v : Value), i ≤ q ∧ v22 = .int .i64 i ∧ Aside0 (St w wr s (10 + 8 * (i : Int)) (bt s 0) (giV s 2) v (evN s i))) (fun v _ => q + 1 - (intOf v).toNat)
  case atStart => exact ⟨0, _, by omega, rfl, ⟨HS.out.ev1 (giV s 2)⟩⟩
  case round =>
    obtain ⟨i, v, hi, rfl, HS'⟩ := hrel
    clear HS
    have HS := HS'
    clear HS'
    obtain ⟨Av, cv, ev⟩ := Kd.R_slice HS.out.2.2.2.2
    subst ev
    clear zc0 zc1 zc2 zf0 zf1 zf2 ze0 zef zr0 zr1 zrf zlt
    have zc0 := blk_cell HS.out.2.1 0
    have zc1 := blk_cell HS.out.2.1 1
    have zc2 := blk_cell HS.out.2.1 2
    have zf0 := blk_frozen HS.out.2.1 0
    have zf1 := blk_frozen HS.out.2.1 1
    have zf2 := blk_frozen HS.out.2.1 2
    have ze0 := blk_cell HS.out.2.2.1 0
    have zef := blk_frozen HS.out.2.2.1 0
    have zr0 := blk_cell HS.out.2.2.2.1 0
    have zr1 := blk_cell HS.out.2.2.2.1 1
    have zrf := blk_frozen HS.out.2.2.2.1 1
    have zlt := HS.out.lt0
    simp only [List.getElem?_toArray, List.getElem?_cons_zero, List.getElem?_cons_succ] at zc0 zc1 zc2 ze0 zr0 zr1
    by_cases hlt : i < q
    · have him : (i : Int) < (q : Int) := by omega
      have e3 := Aside0.mk (gintV_yes s (10 + 8 * (i : Int)) (by omega) (by omega))
      go_wp2_with fail
      refine wp_region_noPanic ?_
      go_region_law (first | (refine appSt (w := w) HS.out ?_ ?_ (.tmp 25) (.tmp 28) ?_ _ ?_ ?_ ?_; rotate_left 2; rfl; rfl; rfl; rotate_left 1; (rw [evN_len]; omega); rfl; intro v1 w6 hS4 hR; obtain ⟨A1, c1, e1_⟩ := Kd.R_slice hR; subst e1_; have zc2 := blk_cell hS4.2.1 2; have zf2 := blk_frozen hS4.2.1 2; simp only [List.getElem?_toArray, List.getElem?_cons_zero, List.getElem?_cons_succ] at zc2) | (refine goes_ Try.func59 (by kernel_rfl) rfl #[.pointer (some ⟨w.heap.size + 1 + 1, 0, none⟩)] (by rfl) rfl rfl (by simp only [List.map_toArray, List.map_cons, List.map_nil]; rfl) ?_; (with_reducible refine (rint_yes _ s (10 + 8 * (i : Int)) (giV s (10 + 8 * (i : Int))) _ hs HS.out.drew.rd e3 (by omega) (by omega)).mono ?_); rintro y w9 ⟨rfl, hT⟩; refine ⟨_, rfl, ?_⟩; clear zc0 zc1 zc2 zf0 zf1 zf2 ze0 zef zr0 zr1 zrf zlt; have n0_ := Aside0.mk (HS.out.drew.turn hT); clear HS; have HS := n0_; clear n0_; clear hT; have zc0 := blk_cell HS.out.2.1 0; have zc1 := blk_cell HS.out.2.1 1; have zc2 := blk_cell HS.out.2.1 2; have zf0 := blk_frozen HS.out.2.1 0; have zf1 := blk_frozen HS.out.2.1 1; have zf2 := blk_frozen HS.out.2.1 2; have ze0 := blk_cell HS.out.2.2.1 0; have zef := blk_frozen HS.out.2.2.1 0; have zr0 := blk_cell HS.out.2.2.2.1 0; have zr1 := blk_cell HS.out.2.2.2.1 1; have zrf := blk_frozen HS.out.2.2.2.1 1; have zlt := HS.out.lt0; simp only [List.getElem?_toArray, List.getElem?_cons_zero, List.getElem?_cons_succ] at zc0 zc1 zc2 ze0 zr0 zr1))
      all_goals refine NoPanic.normal ?_
      all_goals go_wp2
      all_goals go_roundw
      all_goals first | (simp [intOf]; omega; done) | skip
      all_goals have hfin := hS4.ev2 hR
      all_goals rw [show (evN s i ++ [giV s (10 + 8 * (i : Int))]).length = (evN s i).length + 1 from by simp, ← evN_succ, show (10 + 8 * (i : Int) + 8) = 10 + 8 * ((i + 1 : Nat) : Int) from by omega] at hfin
      all_goals exact ⟨i + 1, _, by omega, by go_num, ⟨hfin⟩⟩
    · obtain rfl : i = q := by omega
      have him : ¬ (i : Int) < (i : Int) := by omega
      have hne : ¬ (10 + 8 * (i : Int)) = (s.size : Int) := by omega
      have hnd : ((10 + 8 * (i : Int)) == (s.size : Int)) = false := by simpa using hne
      clear hne hy hq hq1 hq2
      go_wp2_with (go_at_call 58; refine (must_no _).mono ?_; rintro y w8 ⟨rfl, rfl⟩; skip)
      refine leaves_cons (f := 56) (args := #[.pointer (some ⟨w.heap.size, 0, none⟩), .pointer (some ⟨w.heap.size + 1, 0, none⟩)]) (by simp) (by simp [go_sem]) ?_
      refine (catch_bad w.heap.size (w.heap.size + 1) (by omega) _ _ _ _ _ (blk_cell HS.out.2.1 0) (blk_cell HS.out.2.1 1) (blk_cell HS.out.2.1 2) (blk_cell HS.out.2.2.1 0) (blk_frozen HS.out.2.1 0) (blk_frozen HS.out.2.1 1) (blk_frozen HS.out.2.1 2) (blk_frozen HS.out.2.2.1 0)).mono ?_
      rintro e u' w'' ⟨rfl, rfl, z0, z1, z2, z3, hB⟩
      have hBB : Below w.heap.size w w'' := HS.out.1.trans (hB w.heap.size (Nat.le_refl _) (by omega))
      simp [Leaves, settle, results, Try.results40, go_sem, bad1, z0, z1, z2, z3]
      exact hBB
set_option maxHeartbeats 1000000 in
set_option maxRecDepth 100000 in
theorem wget_yes (s : ByteArray) (m q : Nat) (w : World) (hs : s.size ≤ 1000000000000000) (h : 10 ≤ s.size) (hm : Aside0 (bt s 1 = (m : Int))) (hm8 : m ≤ 8) (hq : q ≤ m) (hq1 : 10 + 8 * q ≤ s.size) (hq2 : q < m → s.size < 18 + 8 * q) (hx : q = m) (hy : s.size = 10 + 8 * m) :
    Calls Try.prog 40 #[.string s] w fun e w' => ∃ v : Value, e = .returned (.tuple #[.agg #[.int .i64 (bt s 0), .int .i64 (giV s 2), v], .int .i64 0]) ∧ Kd.R (Kd.int .i64) 2 w' w.heap.size (fun _ => True) v (evN s m) ∧ Below w.heap.size w w' := by
  subst hx
  have e0 := Aside0.mk (getV1 s 0 (by omega) (by omega))
  have e1 : Aside0 (getV s 1 1 = ((q : Int), true)) := ⟨by rw [getV1 s 1 (by omega) (by omega), hm.out]⟩
  have e2 := Aside0.mk (gintV_yes s 2 (by omega) (by omega))
  have hmi : (q : Int) ≤ 8 := by omega
  have hmf : ∀ (fn : Fn) (first cap : Array Value) (w : World), (Instr.makeFunc fn first cap).run Try.prog w = .ok (.func fn first cap) w := fun _ _ _ _ => rfl
  have HS := Aside0.mk (St.new w s)
  have zc0 : True := trivial
  have zc1 : True := trivial
  have zc2 : True := trivial
  have zf0 : True := trivial
  have zf1 : True := trivial
  have zf2 : True := trivial
  have ze0 : True := trivial
  have zef : True := trivial
  have zr0 : True := trivial
  have zr1 : True := trivial
  have zrf : True := trivial
  have zlt : True := trivial
  go_enter_defers Try.func40, Try.ntmps40
  go_wp2_with (first | (go_at_call 57; (with_reducible refine (rbyte_yes _ s 0 (bt s 0) _ hs HS.out.rd e0 (bt_range s _).1 (bt_range s _).2 (by decide) (by decide)).mono ?_); rintro y w9 ⟨rfl, hT⟩; clear zc0 zc1 zc2 zf0 zf1 zf2 ze0 zef zr0 zr1 zrf zlt; have n0_ := Aside0.mk (HS.out.turn hT); clear HS; have HS := n0_; clear n0_; clear hT; have zc0 := blk_cell HS.out.2.1 0; have zc1 := blk_cell HS.out.2.1 1; have zc2 := blk_cell HS.out.2.1 2; have zf0 := blk_frozen HS.out.2.1 0; have zf1 := blk_frozen HS.out.2.1 1; have zf2 := blk_frozen HS.out.2.1 2; have ze0 := blk_cell HS.out.2.2.1 0; have zef := blk_frozen HS.out.2.2.1 0; have zr0 := blk_cell HS.out.2.2.2.1 0; have zr1 := blk_cell HS.out.2.2.2.1 1; have zrf := blk_frozen HS.out.2.2.2.1 1; have zlt := HS.out.lt0; simp only [List.getElem?_toArray, List.getElem?_cons_zero, List.getElem?_cons_succ] at zc0 zc1 zc2 ze0 zr0 zr1) | (go_at_call 57; (have n1_ := Aside0.mk (HS.out.ev0 (bt s 0)); clear HS; have HS := n1_; clear n1_); (with_reducible refine (rbyte_yes _ s 1 (q : Int) _ hs HS.out.rd e1 (by omega) (by omega) (by decide) (by decide)).mono ?_); rintro y w9 ⟨rfl, hT⟩; clear zc0 zc1 zc2 zf0 zf1 zf2 ze0 zef zr0 zr1 zrf zlt; have n0_ := Aside0.mk (HS.out.turn hT); clear HS; have HS := n0_; clear n0_; clear hT; have zc0 := blk_cell HS.out.2.1 0; have zc1 := blk_cell HS.out.2.1 1; have zc2 := blk_cell HS.out.2.1 2; have zf0 := blk_frozen HS.out.2.1 0; have zf1 := blk_frozen HS.out.2.1 1; have zf2 := blk_frozen HS.out.2.1 2; have ze0 := blk_cell HS.out.2.2.1 0; have zef := blk_frozen HS.out.2.2.1 0; have zr0 := blk_cell HS.out.2.2.2.1 0; have zr1 := blk_cell HS.out.2.2.2.1 1; have zrf := blk_frozen HS.out.2.2.2.1 1; have zlt := HS.out.lt0; simp only [List.getElem?_toArray, List.getElem?_cons_zero, List.getElem?_cons_succ] at zc0 zc1 zc2 ze0 zr0 zr1) | (go_at_call 58; refine (must_yes _).mono ?_; rintro y w8 ⟨rfl, rfl⟩) | (go_at_call 59; (with_reducible refine (rint_yes _ s 2 (giV s 2) _ hs HS.out.rd e2 (by decide) (by decide)).mono ?_); rintro y w9 ⟨rfl, hT⟩; clear zc0 zc1 zc2 zf0 zf1 zf2 ze0 zef zr0 zr1 zrf zlt; have n0_ := Aside0.mk (HS.out.turn hT); clear HS; have HS := n0_; clear n0_; clear hT; have zc0 := blk_cell HS.out.2.1 0; have zc1 := blk_cell HS.out.2.1 1; have zc2 := blk_cell HS.out.2.1 2; have zf0 := blk_frozen HS.out.2.1 0; have zf1 := blk_frozen HS.out.2.1 1; have zf2 := blk_frozen HS.out.2.1 2; have ze0 := blk_cell HS.out.2.2.1 0; have zef := blk_frozen HS.out.2.2.1 0; have zr0 := blk_cell HS.out.2.2.2.1 0; have zr1 := blk_cell HS.out.2.2.2.1 1; have zrf := blk_frozen HS.out.2.2.2.1 1; have zlt := HS.out.lt0; simp only [List.getElem?_toArray, List.getElem?_cons_zero, List.getElem?_cons_succ] at zc0 zc1 zc2 ze0 zr0 zr1))
  go_loopw [22] (fun v22 wr => ∃ (i : Nat) (v : Value), i ≤ q ∧ v22 = .int .i64 i ∧ Aside0 (St w wr s (10 + 8 * (i : Int)) (bt s 0) (giV s 2) v (evN s i))) (fun v _ => q + 1 - (intOf v).toNat)
  case atStart => exact ⟨0, _, by omega, rfl, ⟨HS.out.ev1 (giV s 2)⟩⟩
  case round =>
    obtain ⟨i, v, hi, rfl, HS'⟩ := hrel
    clear HS
    have HS := HS'
    clear HS'
    obtain ⟨Av, cv, ev⟩ := Kd.R_slice HS.out.2.2.2.2
    subst ev
    clear zc0 zc1 zc2 zf0 zf1 zf2 ze0 zef zr0 zr1 zrf zlt
    have zc0 := blk_cell HS.out.2.1 0
    have zc1 := blk_cell HS.out.2.1 1
    have zc2 := blk_cell HS.out.2.1 2
    have zf0 := blk_frozen HS.out.2.1 0
    have zf1 := blk_frozen HS.out.2.1 1
    have zf2 := blk_frozen HS.out.2.1 2
    have ze0 := blk_cell HS.out.2.2.1 0
    have zef := blk_frozen HS.out.2.2.1 0
    have zr0 := blk_cell HS.out.2.2.2.1 0
    have zr1 := blk_cell HS.out.2.2.2.1 1
    have zrf := blk_frozen HS.out.2.2.2.1 1
    have zlt := HS.out.lt0
    simp only [List.getElem?_toArray, List.getElem?_cons_zero, List.getElem?_cons_succ] at zc0 zc1 zc2 ze0 zr0 zr1
    by_cases hlt : i < q
    · have him : (i : Int) < (q : Int) := by omega
      have e3 := Aside0.mk (gintV_yes s (10 + 8 * (i : Int)) (by omega) (by omega))
      go_wp2_with fail
      refine wp_region_noPanic ?_
      go_region_law (first | (refine appSt (w := w) HS.out ?_ ?_ (.tmp 25) (.tmp 28) ?_ _ ?_ ?_ ?_; rotate_left 2; rfl; rfl; rfl; rotate_left 1; (rw [evN_len]; omega); rfl; intro v1 w6 hS4 hR; obtain ⟨A1, c1, e1_⟩ := Kd.R_slice hR; subst e1_; have zc2 := blk_cell hS4.2.1 2; have zf2 := blk_frozen hS4.2.1 2; simp only [List.getElem?_toArray, List.getElem?_cons_zero, List.getElem?_cons_succ] at zc2) | (refine goes_ Try.func59 (by kernel_rfl) rfl #[.pointer (some ⟨w.heap.size + 1 + 1, 0, none⟩)] (by rfl) rfl rfl (by simp only [List.map_toArray, List.map_cons, List.map_nil]; rfl) ?_; (with_reducible refine (rint_yes _ s (10 + 8 * (i : Int)) (giV s (10 + 8 * (i : Int))) _ hs HS.out.drew.rd e3 (by omega) (by omega)).mono ?_); rintro y w9 ⟨rfl, hT⟩; refine ⟨_, rfl, ?_⟩; clear zc0 zc1 zc2 zf0 zf1 zf2 ze0 zef zr0 zr1 zrf zlt; have n0_ := Aside0.mk (HS.out.drew.turn hT); clear HS; have HS := n0_; clear n0_; clear hT; have zc0 := blk_cell HS.out.2.1 0; have zc1 := blk_cell HS.out.2.1 1; have zc2 := blk_cell HS.out.2.1 2; have zf0 := blk_frozen HS.out.2.1 0; have zf1 := blk_frozen HS.out.2.1 1; have zf2 := blk_frozen HS.out.2.1 2; have ze0 := blk_cell HS.out.2.2.1 0; have zef := blk_frozen HS.out.2.2.1 0; have zr0 := blk_cell HS.out.2.2.2.1 0; have zr1 := blk_cell HS.out.2.2.2.1 1; have zrf := blk_frozen HS.out.2.2.2.1 1; have zlt := HS.out.lt0; simp only [List.getElem?_toArray, List.getElem?_cons_zero, List.getElem?_cons_succ] at zc0 zc1 zc2 ze0 zr0 zr1))
      all_goals refine NoPanic.normal ?_
      all_goals go_wp2
      all_goals go_roundw
      all_goals first | (simp [intOf]; omega; done) | skip
      all_goals have hfin := hS4.ev2 hR
      all_goals rw [show (evN s i ++ [giV s (10 + 8 * (i : Int))]).length = (evN s i).length + 1 from by simp, ← evN_succ, show (10 + 8 * (i : Int) + 8) = 10 + 8 * ((i + 1 : Nat) : Int) from by omega] at hfin
      all_goals exact ⟨i + 1, _, by omega, by go_num, ⟨hfin⟩⟩
    · obtain rfl : i = q := by omega
      have him : ¬ (i : Int) < (i : Int) := by omega
      have hne : (10 + 8 * (i : Int)) = (s.size : Int) := by omega
      have hnd : ((10 + 8 * (i : Int)) == (s.size : Int)) = true := by simpa using hne
      clear hne hy hq hq1 hq2
      go_wp2_with (go_at_call 58; refine (must_yes _).mono ?_; rintro y w8 ⟨rfl, rfl⟩)
      go_wp2
      have HF := (((HS.out.ev0 (bt s 0)).ev1 (giV s 2)).ev2 ((HS.out.ev0 (bt s 0)).ev1 (giV s 2)).2.2.2.2).er0
      generalize (((wr.setCell ⟨w.heap.size, 0, none⟩ (.int .i64 (bt s 0))).setCell ⟨w.heap.size, 1, none⟩ (.int .i64 (giV s 2))).setCell ⟨w.heap.size, 2, none⟩ (.slice Av (evN s i).length cv)).setCell ⟨w.heap.size + 1, 0, none⟩ (.int .i64 0) = W9 at HF ⊢
      clear HS
      have z0 := blk_cell HF.2.1 0
      have z1 := blk_cell HF.2.1 1
      have z2 := blk_cell HF.2.1 2
      have z3 := blk_cell HF.2.2.1 0
      simp only [List.getElem?_toArray, List.getElem?_cons_zero, List.getElem?_cons_succ] at z0 z1 z2 z3
      refine leaves_cons (f := 56) (args := #[.pointer (some ⟨w.heap.size, 0, none⟩), .pointer (some ⟨w.heap.size + 1, 0, none⟩)]) (by simp) (by simp [go_sem]) ?_
      refine (catch_idle w.heap.size (w.heap.size + 1) _).mono ?_
      rintro e u' w'' ⟨rfl, rfl, rfl⟩
      simp [Leaves, settle, results, Try.results40, go_sem, z0, z1, z2, z3]
      exact ⟨HF.2.2.2.2, HF.1⟩
end Go.Proofs.Ytibcbeibehaeeaa.Hand
