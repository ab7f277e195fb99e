/- Joined out of PValueBadx4, which print.sh wrote: what nothing here names is left out (slim.py, a program of mine). -/
import Derived.Test.YtimmomhgljofnaaDoorGX0
set_option linter.unusedVariables false
set_option linter.unusedSimpArgs false
section
namespace Go.Proofs.YtimmomhgljofnaaDoor.PValueBad
open Go.RowKit Go.Proofs.YtimmomhgljofnaaDoorW.PrintWords Go.Proofs.YtimmomhgljofnaaDoorW.PrintLast Go.Proofs.YtimmomhgljofnaaDoorW.PrintMore
attribute [local go_sem] max2_int min2_int max_two min_two max_three min_three max_four min_four   -- for this text's walks alone
set_option linter.unusedVariables false
set_option linter.unusedSimpArgs false

/-! ### jettisonlaw08_feed_truth: function 11 -/
mutual
def jettisonlaw08_feed_truth.j0 : Nat → ByteArray → ByteArray → Int → Int → Bool → List Int → Int → List ByteArray → List ByteArray → Option (Int × ByteArray × Int × ByteArray × ByteArray × (List (S24)) × Int)
  | 0, _, _, _, _, _, _, _, _, _ => none
  | k + 1, x1, x2, x3, x9, x20, x1000, x1001, x1002, x1003 => if x20 = true then ((jettisonlaw08_feed_truth.f k x1000 x1001 x1002 x1003 x1 x2 (wrap64 (x3 - 1))).bind fun bt244 => (some (2, (⟨#[33]⟩ : ByteArray), 0, (⟨#[]⟩ : ByteArray), (⟨#[]⟩ : ByteArray), (([(⟨bt244.1, bt244.2.1, bt244.2.2.1, bt244.2.2.2.1, bt244.2.2.2.2.1, bt244.2.2.2.2.2.1⟩ : S24)] : List (S24))), bt244.2.2.2.2.2.2))) else (if x3 > 0 then (jettisonlaw08_feed_truth.j1 k x1 x2 x3 x9 (decide ((Int.tmod x9 8) < 3)) x1000 x1001 x1002 x1003) else (jettisonlaw08_feed_truth.j1 k x1 x2 x3 x9 false x1000 x1001 x1002 x1003))
def jettisonlaw08_feed_truth.j1 : Nat → ByteArray → ByteArray → Int → Int → Bool → List Int → Int → List ByteArray → List ByteArray → Option (Int × ByteArray × Int × ByteArray × ByteArray × (List (S24)) × Int)
  | 0, _, _, _, _, _, _, _, _, _ => none
  | k + 1, x1, x2, x3, x9, x35, x1000, x1001, x1002, x1003 => if x35 = true then ((jettisonlaw08_feed_truth.f k x1000 x1001 x1002 x1003 x1 x2 (wrap64 (x3 - 1))).bind fun bt256 => ((some (([(⟨#[38, 38]⟩ : ByteArray), (⟨#[124, 124]⟩ : ByteArray)] : List ByteArray) : List ByteArray)).bind fun y266 => (if 0 ≤ (Int.tmod (wrap64 (Int.tdiv x9 8)) 2) then (if (Int.tmod (wrap64 (Int.tdiv x9 8)) 2) < (y266.length : Int) then ((jettisonlaw08_feed_truth.f k x1000 bt256.2.2.2.2.2.2 x1002 x1003 x1 x2 (wrap64 (x3 - 1))).bind fun bt270 => (some (3, rdOf ByteArray.empty y266 (Int.tmod (wrap64 (Int.tdiv x9 8)) 2), 0, (⟨#[]⟩ : ByteArray), (⟨#[]⟩ : ByteArray), (([(⟨bt256.1, bt256.2.1, bt256.2.2.1, bt256.2.2.2.1, bt256.2.2.2.2.1, bt256.2.2.2.2.2.1⟩ : S24), (⟨bt270.1, bt270.2.1, bt270.2.2.1, bt270.2.2.2.1, bt270.2.2.2.2.1, bt270.2.2.2.2.2.1⟩ : S24)] : List (S24))), bt270.2.2.2.2.2.2))) else (none)) else (none)))) else ((jettisonlaw08_feed_number.f k x1000 x1001 x1002 x1003 x1 x2 1).bind fun bt282 => ((some (([(⟨#[61, 61]⟩ : ByteArray), (⟨#[33, 61]⟩ : ByteArray), (⟨#[60]⟩ : ByteArray), (⟨#[60, 61]⟩ : ByteArray), (⟨#[62]⟩ : ByteArray), (⟨#[62, 61]⟩ : ByteArray), (⟨#[60, 61]⟩ : ByteArray), (⟨#[62, 61]⟩ : ByteArray)] : List ByteArray) : List ByteArray)).bind fun y292 => (if 0 ≤ (Int.tmod (wrap64 (Int.tdiv x9 8)) 8) then (if (Int.tmod (wrap64 (Int.tdiv x9 8)) 8) < (y292.length : Int) then ((jettisonlaw08_feed_number.f k x1000 bt282.2.2.2.2.2.2 x1002 x1003 x1 x2 1).bind fun bt296 => (some (3, rdOf ByteArray.empty y292 (Int.tmod (wrap64 (Int.tdiv x9 8)) 8), 0, (⟨#[]⟩ : ByteArray), (⟨#[]⟩ : ByteArray), (([(⟨bt282.1, bt282.2.1, bt282.2.2.1, bt282.2.2.2.1, bt282.2.2.2.2.1, bt282.2.2.2.2.2.1⟩ : S24), (⟨bt296.1, bt296.2.1, bt296.2.2.1, bt296.2.2.2.1, bt296.2.2.2.2.1, bt296.2.2.2.2.2.1⟩ : S24)] : List (S24))), bt296.2.2.2.2.2.2))) else (none)) else (none))))
def jettisonlaw08_feed_truth.f : Nat → List Int → Int → List ByteArray → List ByteArray → ByteArray → ByteArray → Int → Option (Int × ByteArray × Int × ByteArray × ByteArray × (List (S24)) × Int)
  | 0, _, _, _, _, _, _, _ => none
  | k + 1, s0_0, s0_1, s0_2, s0_3, a1, a2, a3 => (jettisonlaw08_feed_next.f s0_0 s0_1 s0_2 s0_3).bind fun bt242 => (if a3 > 0 then (jettisonlaw08_feed_truth.j0 k a1 a2 a3 bt242.1 ((Int.tmod bt242.1 8) == 0) s0_0 bt242.2 s0_2 s0_3) else (jettisonlaw08_feed_truth.j0 k a1 a2 a3 bt242.1 false s0_0 bt242.2 s0_2 s0_3))
end
def jettisonlaw08_feed_truth.T6 : Bool × List (List Nat × List Nat) := (true, [([], []), ([], []), ([1], [1]), ([2], [2]), ([0, 3], [0, 3]), ([4], [4]), ([], []), ([], []), ([], []), ([], []), ([], []), ([10], [10]), ([7, 8, 9, 11], [7, 8, 9, 11]), ([6, 12], [6, 12]), ([5, 13], [5, 13]), ([14, 12, 0, 1, 2, 3, 4, 5, 6, 7, 8, 9, 10, 11, 12, 13, 14], [14])])
def jettisonlaw08_feed_truth.B6 : List Nat := [0, 0, 2, 6, 15, 31, 0, 0, 0, 0, 0, 1024, 3968, 8128, 16383, 32767]
theorem jettisonlaw08_feed_truth.tab6 : rtab .any (opsOf Tryd.f11 6) = jettisonlaw08_feed_truth.T6 := by kernel_rfl
theorem jettisonlaw08_feed_truth.bits6 : waitsOk jettisonlaw08_feed_truth.T6.2 jettisonlaw08_feed_truth.B6 = true := by kernel_rfl
def jettisonlaw08_feed_truth.T8 : Bool × List (List Nat × List Nat) := (true, [([], []), ([], []), ([1], [1]), ([2], [2]), ([0, 3], [0, 3]), ([4], [4]), ([], []), ([], []), ([], []), ([], []), ([7, 8, 9], [7, 8, 9]), ([6, 10], [6, 10]), ([5, 11], [5, 11]), ([12, 10, 0, 1, 2, 3, 4, 5, 6, 7, 8, 9, 10, 11, 12], [12])])
def jettisonlaw08_feed_truth.B8 : List Nat := [0, 0, 2, 6, 15, 31, 0, 0, 0, 0, 896, 1984, 4095, 8191]
theorem jettisonlaw08_feed_truth.tab8 : rtab .any (opsOf Tryd.f11 8) = jettisonlaw08_feed_truth.T8 := by kernel_rfl
theorem jettisonlaw08_feed_truth.bits8 : waitsOk jettisonlaw08_feed_truth.T8.2 jettisonlaw08_feed_truth.B8 = true := by kernel_rfl
set_option maxHeartbeats 8000000 in
set_option maxRecDepth 100000 in
theorem jettisonlaw08_feed_truth.calls (k : Nat) : ∀ (g : Nat) (s0_0 : List Int) (s0_1 : Int) (s0_2 : List ByteArray) (s0_3 : List ByteArray) (a1 : ByteArray) (a2 : ByteArray) (a3 : Int) (r1 : Int) (r2 : ByteArray) (r3 : Int) (r4 : ByteArray) (r5 : ByteArray) (r6 : List (S24)) (r7 : Int) (w0 w : World) (hI : IsS32 w0 w g s0_0 s0_1 s0_2 s0_3) (hB : Below w0.heap.size w0 w) (h : jettisonlaw08_feed_truth.f k s0_0 s0_1 s0_2 s0_3 a1 a2 a3 = some (r1, r2, r3, r4, r5, r6, r7)),
    Calls Tryd.prog 11 #[.pointer (some ⟨g, 0, none⟩), .string a1, .string a2, .int .i64 a3] w fun e w' => ∃ v5_ : Value, e = .returned (.agg #[.int .i64 r1, .string r2, .int .i64 r3, .string r4, .string r5, v5_]) ∧ Kd.N k24 24 w' w.heap.size (fun k_ => (w.heap.size ≤ k_)) v5_ r6 ∧ IsS32 w0 w' g s0_0 r7 s0_2 s0_3 ∧ Below w0.heap.size w0 w' ∧ KeepBut w w' g none := by
  induction k using Nat.strongRecOn with
  | _ k ih =>
  intro g s0_0 s0_1 s0_2 s0_3 a1 a2 a3 r1 r2 r3 r4 r5 r6 r7 w0 w hI hB h
  cases k with
  | zero => exact absurd h (by simp [jettisonlaw08_feed_truth.f])
  | succ k =>
  simp only [jettisonlaw08_feed_truth.f] at h
  have hu24 := Tryd.underlying24
  have HI0 := Aside0.mk hI
  have HK := Aside0.mk (KeepBut.refl w g none)
  have HL := Aside0.mk hB.size
  clear hI
  have HW0 := Aside0.mk hB.size
  have HB := Aside0.mk hB
  clear hB
  have H : ((jettisonlaw08_feed_next.f s0_0 s0_1 s0_2 s0_3).bind fun bt242 => (if a3 > 0 then (jettisonlaw08_feed_truth.j0 k a1 a2 a3 bt242.1 ((Int.tmod bt242.1 8) == 0) s0_0 bt242.2 s0_2 s0_3) else (jettisonlaw08_feed_truth.j0 k a1 a2 a3 bt242.1 false s0_0 bt242.2 s0_2 s0_3))) = some (r1, r2, r3, r4, r5, r6, r7) := h
  clear h
  replace H := Option.bind_eq_some_iff.mp H
  obtain ⟨⟨t242, t243⟩, A50, H⟩ := H
  replace H : (if a3 > 0 then (jettisonlaw08_feed_truth.j0 k a1 a2 a3 t242 ((Int.tmod t242 8) == 0) s0_0 t243 s0_2 s0_3) else (jettisonlaw08_feed_truth.j0 k a1 a2 a3 t242 false s0_0 t243 s0_2 s0_3)) = some (r1, r2, r3, r4, r5, r6, r7) := H
  have A5 := Aside0.mk A50
  clear A50
  have HC6 := Aside0.mk H
  clear H
  go_enter Tryd.func11, Tryd.ntmps11
  go_upto_region 2 with (first | ((with_reducible refine gate_dst (N := 8) rfl ?_); refine box_event ?hg (N := 8) ?hd (cs := #[.int .i64 0, .string (⟨#[]⟩ : ByteArray), .int .i64 0, .string (⟨#[]⟩ : ByteArray), .string (⟨#[]⟩ : ByteArray), .slice none 0 0]) (t := 24) ?hr ?_; (case hd => rfl); (case hg => rfl); (case hr => first | (go_simp; done) | (go_simp; rfl)); intro gb241 hg w7 hbox hb; have n0_ := Aside0.mk (IsS32.below (by repeat (first | (with_reducible first | exact HI0.out | apply IsS32.alloc | apply IsS32.drewN | apply IsS32.drew | apply IsS32.set_1) | exact HI0.out)) hb); have n1_ := Aside0.mk (KeepBut.trans (by repeat (first | (with_reducible first | exact HK.out | apply KeepBut.set_ | apply keep_drewN | apply keep_drew | apply keep_alloc) | exact HK.out)) (KeepBut.of_below hb g none) (.inl rfl)); have n2_ := Aside0.mk (below_step (by repeat (first | (with_reducible first | exact HB.out | apply below_alloc | apply pw_below_drewN | apply below_drew1 | refine below_set ?_ (IsS32.ge HI0.out)) | exact HB.out)) hb); have n3_ := Aside0.mk (hbox); have n4_ := Aside0.mk ((by rw [hg]; exact (keep_size (w := w) (g := g) (row := none) (by repeat (first | (with_reducible first | exact HK.out | apply KeepBut.set_ | apply keep_drewN | apply keep_drew | apply keep_alloc) | exact HK.out))) : w.heap.size ≤ gb241)); have n5_ := Aside0.mk ((Nat.le_trans HW0.out (by rw [hg]; exact (keep_size (w := w) (g := g) (row := none) (by repeat (first | (with_reducible first | exact HK.out | apply KeepBut.set_ | apply keep_drewN | apply keep_drew | apply keep_alloc) | exact HK.out))) : w.heap.size ≤ gb241) : w0.heap.size ≤ gb241)); have n6_ := Aside0.mk ((by rw [hg]; exact Nat.ne_of_lt (IsS32.lt (show IsS32 w0 _ g s0_0 s0_1 s0_2 s0_3 from by repeat (first | (with_reducible first | exact HI0.out | apply IsS32.alloc | apply IsS32.drewN | apply IsS32.drew | apply IsS32.set_1) | exact HI0.out))) : g ≠ gb241)); have n7_ := Aside0.mk ((by rw [hg]; exact Nat.ne_of_gt (IsS32.lt (show IsS32 w0 _ g s0_0 s0_1 s0_2 s0_3 from by repeat (first | (with_reducible first | exact HI0.out | apply IsS32.alloc | apply IsS32.drewN | apply IsS32.drew | apply IsS32.set_1) | exact HI0.out))) : gb241 ≠ g)); clear HI0; clear HK; clear HB; have HI0 := n0_; have HK := n1_; have HB := n2_; have BK241 := n3_; have GW241 := n4_; have GE241 := n5_; have NB0_241 := n6_; have NB241_0 := n7_; clear n0_ n1_ n2_ n3_ n4_ n5_ n6_ n7_; clear hb hbox hg) | ((with_reducible refine gate_callee (f := 32) rfl ?_); refine goesL_ (some 13) rfl rfl Tryd.func32 (by kernel_rfl) rfl #[.pointer (some ⟨g, 0, none⟩)] rfl (by (try simp only [List.map_toArray, List.map_cons, List.map_nil]); first | done | rfl | (simp only [List.length_drop, List.length_take]; rfl)) ?_; (with_reducible refine (jettisonlaw08_feed_next.calls g s0_0 s0_1 s0_2 s0_3 t242 t243 w0 _ ?side1 ?side2 A5.out).mono ?_); (case side1 => repeat (first | (with_reducible first | exact HI0.out | apply IsS32.alloc | apply IsS32.drewN | apply IsS32.drew | apply IsS32.set_1 | refine IsS32.far ?_ NB0_241.out _) | exact HI0.out)); (case side2 => repeat (first | (with_reducible first | exact HB.out | apply below_alloc | apply pw_below_drewN | apply below_drew1 | refine below_set ?_ (IsS32.ge HI0.out) | refine below_set ?_ GE241.out) | exact HB.out)); rintro e w8 ⟨rfl, hi, hb, hk⟩; refine ⟨_, rfl, ?_⟩; have n0_ := Aside0.mk (KeepBut.blk hk (g' := gb241) (o := .cells #[.int .i64 0, .string (⟨#[]⟩ : ByteArray), .int .i64 0, .string (⟨#[]⟩ : ByteArray), .string (⟨#[]⟩ : ByteArray), .slice none 0 0] 24 (0, 0)) (by (with_reducible repeat (first | refine blk_drewN ?_ _ | refine blk_drew ?_ | refine blk_alloc ?_ _)); exact BK241.out) NB241_0.out (by simp)); have n1_ := Aside0.mk (KeepBut.trans (by repeat (first | (with_reducible first | exact HK.out | apply KeepBut.set_ | apply keep_drewN | apply keep_drew | apply keep_alloc | refine keep_far ?_ GW241.out _) | exact HK.out)) hk (.inl rfl)); have n2_ := Aside0.mk (hb); have n3_ := Aside0.mk (hi); clear BK241; clear HK; clear HB; clear HI0; have BK241 := n0_; have HK := n1_; have HB := n2_; have HI0 := n3_; clear n0_ n1_ n2_ n3_; (try clear hb); (try clear hb2); (try clear hk); (try clear hi)))
  (try simp only [Act.put, List.setIfInBounds_toArray, List.set_cons_zero, List.set_cons_succ])
  go_cut [20] (fun v20 wc => ∃ (kq : Nat) (x20_5 : Bool), v20 = .bool x20_5 ∧ Aside0 (jettisonlaw08_feed_truth.j0 kq a1 a2 a3 t242 x20_5 s0_0 t243 s0_2 s0_3 = some (r1, r2, r3, r4, r5, r6, r7)) ∧ Aside0 (kq ≤ k) ∧ Aside0 (wc.heap[gb241]? = some (.cells #[.int .i64 0, .string (⟨#[]⟩ : ByteArray), .int .i64 0, .string (⟨#[]⟩ : ByteArray), .string (⟨#[]⟩ : ByteArray), (.slice none 0 0)] 24 (0, 0))) ∧ Aside0 (IsS32 w0 wc g s0_0 t243 s0_2 s0_3) ∧ Aside0 (KeepBut w wc g none) ∧ Aside0 (Below w0.heap.size w0 wc))
  case first =>
    have H := HC6.out
    clear HC6
    by_cases c9 : a3 > 0
    · rw [if_pos c9] at H
      have c9b0 : decide (0 < a3) = true := decide_eq_true c9
      clear c9
      (first | rw [c9b0] | (simp only [i64_w, i32_w]; rw [c9b0]) | skip)
      have H' := Aside0.mk H
      clear H
      go_wp2
      go_meet
      case rel => exact ⟨_, (((Int.tmod t242 8) == 0)), (by first | rfl | (simp; done) | (simp [*]; done)), H', ⟨by first | omega | exact Nat.le_refl _⟩, ⟨by (with_reducible repeat (first | refine blk_drewN ?_ _ | refine blk_drew ?_ | refine blk_alloc ?_ _)); exact BK241.out⟩, ⟨by repeat (first | (with_reducible first | exact HI0.out | apply IsS32.alloc | apply IsS32.drewN | apply IsS32.drew | apply IsS32.set_1 | refine IsS32.far ?_ NB0_241.out _) | exact HI0.out)⟩, ⟨by repeat (first | (with_reducible first | exact HK.out | apply KeepBut.set_ | apply keep_drewN | apply keep_drew | apply keep_alloc | refine keep_far ?_ GW241.out _) | exact HK.out)⟩, ⟨by repeat (first | (with_reducible first | exact HB.out | apply below_alloc | apply pw_below_drewN | apply below_drew1 | refine below_set ?_ (IsS32.ge HI0.out) | refine below_set ?_ GE241.out) | exact HB.out)⟩⟩
    · rw [if_neg c9] at H
      have c9b0 : decide (0 < a3) = false := decide_eq_false c9
      clear c9
      (first | rw [c9b0] | (simp only [i64_w, i32_w]; rw [c9b0]) | skip)
      have H' := Aside0.mk H
      clear H
      go_wp2
      go_meet
      case rel => exact ⟨_, (false), (by first | rfl | (simp; done) | (simp [*]; done)), H', ⟨by first | omega | exact Nat.le_refl _⟩, ⟨by (with_reducible repeat (first | refine blk_drewN ?_ _ | refine blk_drew ?_ | refine blk_alloc ?_ _)); exact BK241.out⟩, ⟨by repeat (first | (with_reducible first | exact HI0.out | apply IsS32.alloc | apply IsS32.drewN | apply IsS32.drew | apply IsS32.set_1 | refine IsS32.far ?_ NB0_241.out _) | exact HI0.out)⟩, ⟨by repeat (first | (with_reducible first | exact HK.out | apply KeepBut.set_ | apply keep_drewN | apply keep_drew | apply keep_alloc | refine keep_far ?_ GW241.out _) | exact HK.out)⟩, ⟨by repeat (first | (with_reducible first | exact HB.out | apply below_alloc | apply pw_below_drewN | apply below_drew1 | refine below_set ?_ (IsS32.ge HI0.out) | refine below_set ?_ GE241.out) | exact HB.out)⟩⟩
  case rest =>
    clear HC6
    try clear c1
    try clear p2
    try clear c3
    try clear c9
    try clear c9b0
    obtain ⟨kq, x20_5, rfl, HA, HJ5, BK241, HI0, HK, HB⟩ := hcut
    cases kq with
    | zero => exact absurd HA.out (by simp [jettisonlaw08_feed_truth.j0])
    | succ kj5 =>
      have H := HA.out
      clear HA
      simp only [jettisonlaw08_feed_truth.j0] at H
      by_cases c10 : x20_5 = true
      · subst c10
        have H1 : ((jettisonlaw08_feed_truth.f kj5 s0_0 t243 s0_2 s0_3 a1 a2 (wrap64 (a3 - 1))).bind fun bt244 => (some (2, (⟨#[33]⟩ : ByteArray), 0, (⟨#[]⟩ : ByteArray), (⟨#[]⟩ : ByteArray), (([(⟨bt244.1, bt244.2.1, bt244.2.2.1, bt244.2.2.2.1, bt244.2.2.2.2.1, bt244.2.2.2.2.2.1⟩ : S24)] : List (S24))), bt244.2.2.2.2.2.2))) = some (r1, r2, r3, r4, r5, r6, r7) := by rw [if_pos rfl] at H; exact H
        clear H
        have H := H1
        clear H1
        replace H := Option.bind_eq_some_iff.mp H
        obtain ⟨⟨t244, t245, t246, t247, t248, t249, t252⟩, A110, H⟩ := H
        replace H : (some (2, (⟨#[33]⟩ : ByteArray), 0, (⟨#[]⟩ : ByteArray), (⟨#[]⟩ : ByteArray), (([(⟨t244, t245, t246, t247, t248, t249⟩ : S24)] : List (S24))), t252)) = some (r1, r2, r3, r4, r5, r6, r7) := H
        have A11 := Aside0.mk A110
        clear A110
        obtain ⟨y253, hy253⟩ : ∃ y_ : List (S24), y_ = (([(⟨t244, t245, t246, t247, t248, t249⟩ : S24)] : List (S24))) := ⟨_, rfl⟩
        replace H : (some (2, (⟨#[33]⟩ : ByteArray), 0, (⟨#[]⟩ : ByteArray), (⟨#[]⟩ : ByteArray), y253, t252)) = some (r1, r2, r3, r4, r5, r6, r7) := by first | (rw [hy253]; with_reducible exact H) | (have H2_ := (Option.bind_some _ _).symm.trans H; rw [hy253]; with_reducible exact H2_) | (have H2_ := (Option.bind_some _ _).symm.trans H; with_reducible exact H2_) | with_reducible exact H | (rw [hy253]; exact H) | exact H
        have Ny253 := Aside0.mk hy253
        clear hy253
        simp only [Option.some.injEq, Prod.mk.injEq] at H
        obtain ⟨rfl, rfl, rfl, rfl, rfl, rfl, rfl⟩ := H
        go_wp2_with (first | ((with_reducible refine gate_callee (f := 11) rfl ?_); refine goesL_ (some 26) rfl rfl Tryd.func11 (by kernel_rfl) rfl #[.pointer (some ⟨g, 0, none⟩), .string a1, .string a2, .int .i64 (wrap64 (a3 - 1))] rfl (by (try simp only [List.map_toArray, List.map_cons, List.map_nil]); first | done | rfl | (simp only [List.length_drop, List.length_take]; rfl)) ?_; (with_reducible refine (ih kj5 (by have := HJ5.out; omega) g s0_0 t243 s0_2 s0_3 a1 a2 (wrap64 (a3 - 1)) t244 t245 t246 t247 t248 t249 t252 w0 _ ?side1 ?side2 A11.out).mono ?_); (case side1 => repeat (first | (with_reducible first | exact HI0.out | apply IsS32.alloc | apply IsS32.drewN | apply IsS32.drew | apply IsS32.set_1 | refine IsS32.far ?_ NB0_241.out _) | exact HI0.out)); (case side2 => repeat (first | (with_reducible first | exact HB.out | apply below_alloc | apply pw_below_drewN | apply below_drew1 | refine below_set ?_ (IsS32.ge HI0.out) | refine below_set ?_ GE241.out) | exact HB.out)); rintro e w12 ⟨v250, rfl, ho0, hi, hb, hk⟩; refine ⟨_, rfl, ?_⟩; have n0_ := Aside0.mk (KeepBut.blk hk (g' := gb241) (o := .cells #[.int .i64 0, .string (⟨#[]⟩ : ByteArray), .int .i64 0, .string (⟨#[]⟩ : ByteArray), .string (⟨#[]⟩ : ByteArray), .slice none 0 0] 24 (0, 0)) (by (with_reducible repeat (first | refine blk_drewN ?_ _ | refine blk_drew ?_ | refine blk_alloc ?_ _)); exact BK241.out) NB241_0.out (by simp)); have n1_ := Aside0.mk (Kd.N_lower (Kd.N_mono (ok' := fun k_ => (w.heap.size ≤ k_) ∧ k_ ≠ gb241 ∧ k_ ≠ g) ho0 (fun k_ hk_ => ⟨(Nat.le_trans (keep_size (w := w) (g := g) (row := none) (by repeat (first | (with_reducible first | exact HK.out | apply KeepBut.set_ | apply keep_drewN | apply keep_drew | apply keep_alloc | refine keep_far ?_ GW241.out _) | exact HK.out))) hk_), (Kd.freshB (g := gb241) (o := .cells #[.int .i64 0, .string (⟨#[]⟩ : ByteArray), .int .i64 0, .string (⟨#[]⟩ : ByteArray), .string (⟨#[]⟩ : ByteArray), .slice none 0 0] 24 (0, 0)) (by (with_reducible repeat (first | refine blk_drewN ?_ _ | refine blk_drew ?_ | refine blk_alloc ?_ _)); exact BK241.out) k_ hk_), (IsS32.fresh (by repeat (first | (with_reducible first | exact HI0.out | apply IsS32.alloc | apply IsS32.drewN | apply IsS32.drew | apply IsS32.set_1 | refine IsS32.far ?_ NB0_241.out _) | exact HI0.out)) k_ hk_)⟩)) (keep_size (w := w) (g := g) (row := none) (by repeat (first | (with_reducible first | exact HK.out | apply KeepBut.set_ | apply keep_drewN | apply keep_drew | apply keep_alloc | refine keep_far ?_ GW241.out _) | exact HK.out)))); have n2_ := Aside0.mk (KeepBut.trans (by repeat (first | (with_reducible first | exact HK.out | apply KeepBut.set_ | apply keep_drewN | apply keep_drew | apply keep_alloc | refine keep_far ?_ GW241.out _) | exact HK.out)) hk (.inl rfl)); have n3_ := Aside0.mk (hb); have n4_ := Aside0.mk (hi); clear BK241; clear HK; clear HB; clear HI0; have BK241 := n0_; have HO251 := n1_; have HK := n2_; have HB := n3_; have HI0 := n4_; clear n0_ n1_ n2_ n3_ n4_; (try clear hb); (try clear hb2); (try clear hk); (try clear hi); (try clear ho0); obtain ⟨Ao13, co13, eo13⟩ := Kd.N_slice HO251.out; subst eo13) | ((with_reducible refine gate_dst (N := 27) rfl ?_); refine Kd.N_lit k24 _ 24 ?hg (N' := 27) ?hd (xs := ([(⟨t244, t245, t246, t247, t248, t249⟩ : S24)] : List (S24))) (inner := [.int .i64 t244, .string t245, .int .i64 t246, .string t247, .string t248, .slice Ao13 t249.length co13]) (ok := (fun k_ => (w.heap.size ≤ k_) ∧ k_ ≠ gb241 ∧ k_ ≠ g)) (okp := (fun k_ => (w.heap.size ≤ k_) ∧ k_ ≠ gb241 ∧ k_ ≠ g)) ?hr ?hp (fun _ hk => hk) ((show ∀ k_, w12.heap.size ≤ k_ → (fun k_ => (w.heap.size ≤ k_) ∧ k_ ≠ gb241 ∧ k_ ≠ g) k_ from fun k_ hk => ⟨(Nat.le_trans (keep_size (w := w) (g := g) (row := none) (by repeat (first | (with_reducible first | exact HK.out | apply KeepBut.set_ | apply keep_drewN | apply keep_drew | apply keep_alloc | refine keep_far ?_ GW241.out _) | exact HK.out))) hk), Kd.freshB (g := gb241) (o := .cells #[.int .i64 0, .string (⟨#[]⟩ : ByteArray), .int .i64 0, .string (⟨#[]⟩ : ByteArray), .string (⟨#[]⟩ : ByteArray), .slice none 0 0] 24 (0, 0)) (by (with_reducible repeat (first | refine blk_drewN ?_ _ | refine blk_drew ?_ | refine blk_alloc ?_ _)); exact BK241.out) k_ hk, IsS32.fresh (by repeat (first | (with_reducible first | exact HI0.out | apply IsS32.alloc | apply IsS32.drewN | apply IsS32.drew | apply IsS32.set_1 | refine IsS32.far ?_ NB0_241.out _) | exact HI0.out)) k_ hk⟩) _ (Nat.le_refl _)) (Below.refl _ _) (Nat.le_refl _) (by simp) ?_; (case hd => rfl); (case hg => rfl); (case hr => first | (go_simp; done) | (go_simp; rfl)); (case hp => exact (Reps.c6 (show Kd.FK k24 _ _ (⟨t244, t245, t246, t247, t248, t249⟩ : S24) [.int .i64 t244, .string t245, .int .i64 t246, .string t247, .string t248, .slice Ao13 t249.length co13] from (k24_mkF _ _ (⟨t244, t245, t246, t247, t248, t249⟩ : S24) (Kd.N_reads' (Kd.N_mono (ok' := (fun k_ => (w.heap.size ≤ k_) ∧ k_ ≠ gb241 ∧ k_ ≠ g)) (HO251.out) (fun k_ hk => ⟨hk.1, ⟨hk.2.1, hk.2.2⟩⟩))).2.1 (Kd.N_F (Kd.N_mono (ok' := (fun k_ => (w.heap.size ≤ k_) ∧ k_ ≠ gb241 ∧ k_ ≠ g)) (HO251.out) (fun k_ hk => ⟨hk.1, ⟨hk.2.1, hk.2.2⟩⟩))))) (Reps.none _ _))); intro v254 w14 ho15 hb hg_ hnew_; clear hg_ hnew_; (first | rw [← Ny253.out] at ho15 | (simp only [Int.reduceToNat] at ho15; rw [← Ny253.out] at ho15)); have n0_ := Aside0.mk (Kd.N_lower ho15 (keep_size (w := w) (g := g) (row := none) (by repeat (first | (with_reducible first | exact HK.out | apply KeepBut.set_ | apply keep_drewN | apply keep_drew | apply keep_alloc | refine keep_far ?_ GW241.out _) | exact HK.out)))); have n1_ := Aside0.mk (blk_below (g := gb241) (o := .cells #[.int .i64 0, .string (⟨#[]⟩ : ByteArray), .int .i64 0, .string (⟨#[]⟩ : ByteArray), .string (⟨#[]⟩ : ByteArray), .slice none 0 0] 24 (0, 0)) (by (with_reducible repeat (first | refine blk_drewN ?_ _ | refine blk_drew ?_ | refine blk_alloc ?_ _)); exact BK241.out) hb); have n2_ := Aside0.mk (IsS32.below (by repeat (first | (with_reducible first | exact HI0.out | apply IsS32.alloc | apply IsS32.drewN | apply IsS32.drew | apply IsS32.set_1 | refine IsS32.far ?_ NB0_241.out _) | exact HI0.out)) hb); have n3_ := Aside0.mk (KeepBut.trans (by repeat (first | (with_reducible first | exact HK.out | apply KeepBut.set_ | apply keep_drewN | apply keep_drew | apply keep_alloc | refine keep_far ?_ GW241.out _) | exact HK.out)) (KeepBut.of_below hb g none) (.inl rfl)); have n4_ := Aside0.mk (below_step (by repeat (first | (with_reducible first | exact HB.out | apply below_alloc | apply pw_below_drewN | apply below_drew1 | refine below_set ?_ (IsS32.ge HI0.out) | refine below_set ?_ GE241.out) | exact HB.out)) hb); clear BK241; clear HI0; clear HK; clear HB; clear HO251; have HO255 := n0_; have BK241 := n1_; have HI0 := n2_; have HK := n3_; have HB := n4_; clear n0_ n1_ n2_ n3_ n4_; clear hb ho15; obtain ⟨Ao16, co16, eo16⟩ := Kd.N_slice HO255.out; subst eo16; have hnb17 := NB241_0.out; have hnc17 := NB0_241.out; have hcz18_0 : w14.cell? ⟨gb241, 0, none⟩ = some (.int .i64 0) := (blk_cell BK241.out 0).trans rfl; have hcz18_1 : w14.cell? ⟨gb241, 1, none⟩ = some (.string (⟨#[]⟩ : ByteArray)) := (blk_cell BK241.out 1).trans rfl; have hcz18_2 : w14.cell? ⟨gb241, 2, none⟩ = some (.int .i64 0) := (blk_cell BK241.out 2).trans rfl; have hcz18_3 : w14.cell? ⟨gb241, 3, none⟩ = some (.string (⟨#[]⟩ : ByteArray)) := (blk_cell BK241.out 3).trans rfl; have hcz18_4 : w14.cell? ⟨gb241, 4, none⟩ = some (.string (⟨#[]⟩ : ByteArray)) := (blk_cell BK241.out 4).trans rfl; have hcz18_5 : w14.cell? ⟨gb241, 5, none⟩ = some (.slice none 0 0) := (blk_cell BK241.out 5).trans rfl; have hfz18_0 := blk_frozen BK241.out 0; have hfz18_1 := blk_frozen BK241.out 1; have hfz18_2 := blk_frozen BK241.out 2; have hfz18_3 := blk_frozen BK241.out 3; have hfz18_4 := blk_frozen BK241.out 4; have hfz18_5 := blk_frozen BK241.out 5))
        refine bodyPost_ret (results_cell_row rfl _ _ gb241 24 #[.int .i64 2, .string (⟨#[33]⟩ : ByteArray), .int .i64 0, .string (⟨#[]⟩ : ByteArray), .string (⟨#[]⟩ : ByteArray), .slice Ao16 y253.length co16] (0, 0) _ rfl (by (with_reducible repeat (first | refine blk_drewN ?_ _ | refine blk_drew ?_ | refine blk_alloc ?_ _)); refine blk_put (cs := #[.int .i64 2, .string (⟨#[33]⟩ : ByteArray), .int .i64 0, .string (⟨#[]⟩ : ByteArray), .string (⟨#[]⟩ : ByteArray), .slice none 0 0]) ?_ 5 _ rfl; (with_reducible repeat (first | refine blk_drewN ?_ _ | refine blk_drew ?_ | refine blk_alloc ?_ _)); refine blk_put (cs := #[.int .i64 2, .string (⟨#[33]⟩ : ByteArray), .int .i64 0, .string (⟨#[]⟩ : ByteArray), .string (⟨#[]⟩ : ByteArray), .slice none 0 0]) ?_ 4 _ rfl; (with_reducible repeat (first | refine blk_drewN ?_ _ | refine blk_drew ?_ | refine blk_alloc ?_ _)); refine blk_put (cs := #[.int .i64 2, .string (⟨#[33]⟩ : ByteArray), .int .i64 0, .string (⟨#[]⟩ : ByteArray), .string (⟨#[]⟩ : ByteArray), .slice none 0 0]) ?_ 3 _ rfl; (with_reducible repeat (first | refine blk_drewN ?_ _ | refine blk_drew ?_ | refine blk_alloc ?_ _)); refine blk_put (cs := #[.int .i64 2, .string (⟨#[33]⟩ : ByteArray), .int .i64 0, .string (⟨#[]⟩ : ByteArray), .string (⟨#[]⟩ : ByteArray), .slice none 0 0]) ?_ 2 _ rfl; (with_reducible repeat (first | refine blk_drewN ?_ _ | refine blk_drew ?_ | refine blk_alloc ?_ _)); refine blk_put (cs := #[.int .i64 2, .string (⟨#[]⟩ : ByteArray), .int .i64 0, .string (⟨#[]⟩ : ByteArray), .string (⟨#[]⟩ : ByteArray), .slice none 0 0]) ?_ 1 _ rfl; (with_reducible repeat (first | refine blk_drewN ?_ _ | refine blk_drew ?_ | refine blk_alloc ?_ _)); refine blk_put (cs := #[.int .i64 0, .string (⟨#[]⟩ : ByteArray), .int .i64 0, .string (⟨#[]⟩ : ByteArray), .string (⟨#[]⟩ : ByteArray), .slice none 0 0]) ?_ 0 _ rfl; (with_reducible repeat (first | refine blk_drewN ?_ _ | refine blk_drew ?_ | refine blk_alloc ?_ _)); exact BK241.out) Tryd.underlying24 rfl (by kernel_rfl)) rfl ?_
        exact ⟨_, by first | rfl | (simp [errW_none, errW_some] <;> rfl) | (simp [*, errW_none, errW_some] <;> rfl), by (with_reducible repeat (first | apply Kd.N_alloc | apply Kd.N_drewN | apply Kd.N_drew)); exact Kd.N_mono (Kd.N_far (p := ⟨gb241, 5, none⟩) (Kd.N_far (p := ⟨gb241, 4, none⟩) (Kd.N_far (p := ⟨gb241, 3, none⟩) (Kd.N_far (p := ⟨gb241, 2, none⟩) (Kd.N_far (p := ⟨gb241, 1, none⟩) (Kd.N_far (p := ⟨gb241, 0, none⟩) (Kd.N_mono HO255.out (fun k_ hk => (⟨hk, hk.2.1⟩ : _ ∧ k_ ≠ gb241))) (fun _ hk => hk.2) (.int .i64 2)) (fun _ hk => hk.2) (.string (⟨#[33]⟩ : ByteArray))) (fun _ hk => hk.2) (.int .i64 0)) (fun _ hk => hk.2) (.string (⟨#[]⟩ : ByteArray))) (fun _ hk => hk.2) (.string (⟨#[]⟩ : ByteArray))) (fun _ hk => hk.2) (.slice Ao16 y253.length co16)) (fun _ hk => hk.1.1), by repeat (first | (with_reducible first | exact HI0.out | apply IsS32.alloc | apply IsS32.drewN | apply IsS32.drew | apply IsS32.set_1 | refine IsS32.far ?_ NB0_241.out _) | exact HI0.out), by repeat (first | (with_reducible first | exact HB.out | apply below_alloc | apply pw_below_drewN | apply below_drew1 | refine below_set ?_ (IsS32.ge HI0.out) | refine below_set ?_ GE241.out) | exact HB.out), by repeat (first | (with_reducible first | exact HK.out | apply KeepBut.set_ | apply keep_drewN | apply keep_drew | apply keep_alloc | refine keep_far ?_ GW241.out _) | exact HK.out)⟩
      · replace c10 := Bool.eq_false_iff.mpr c10
        subst c10
        have H1 : (if a3 > 0 then (jettisonlaw08_feed_truth.j1 kj5 a1 a2 a3 t242 (decide ((Int.tmod t242 8) < 3)) s0_0 t243 s0_2 s0_3) else (jettisonlaw08_feed_truth.j1 kj5 a1 a2 a3 t242 false s0_0 t243 s0_2 s0_3)) = some (r1, r2, r3, r4, r5, r6, r7) := by rw [if_neg (show ¬ (false = true) by decide)] at H; exact H
        clear H
        have H := H1
        clear H1
        have HC19 := Aside0.mk H
        clear H
        go_upto_region 4 with (fail)
        go_cut [35] (fun v35 wc => ∃ (kq : Nat) (x35_18 : Bool), v35 = .bool x35_18 ∧ Aside0 (jettisonlaw08_feed_truth.j1 kq a1 a2 a3 t242 x35_18 s0_0 t243 s0_2 s0_3 = some (r1, r2, r3, r4, r5, r6, r7)) ∧ Aside0 (kq ≤ kj5) ∧ Aside0 (wc.heap[gb241]? = some (.cells #[.int .i64 0, .string (⟨#[]⟩ : ByteArray), .int .i64 0, .string (⟨#[]⟩ : ByteArray), .string (⟨#[]⟩ : ByteArray), (.slice none 0 0)] 24 (0, 0))) ∧ Aside0 (IsS32 w0 wc g s0_0 t243 s0_2 s0_3) ∧ Aside0 (KeepBut w wc g none) ∧ Aside0 (Below w0.heap.size w0 wc))
        case first =>
          have H := HC19.out
          clear HC19
          by_cases c20 : a3 > 0
          · rw [if_pos c20] at H
            have c20b0 : decide (0 < a3) = true := decide_eq_true c20
            clear c20
            (first | rw [c20b0] | (simp only [i64_w, i32_w]; rw [c20b0]) | skip)
            have H' := Aside0.mk H
            clear H
            go_wp2
            go_meet
            case rel => exact ⟨_, (decide ((Int.tmod t242 8) < 3)), (by first | rfl | (simp; done) | (simp [*]; done)), H', ⟨by have := HJ5.out; first | omega | exact Nat.le_refl _⟩, ⟨by (with_reducible repeat (first | refine blk_drewN ?_ _ | refine blk_drew ?_ | refine blk_alloc ?_ _)); exact BK241.out⟩, ⟨by repeat (first | (with_reducible first | exact HI0.out | apply IsS32.alloc | apply IsS32.drewN | apply IsS32.drew | apply IsS32.set_1 | refine IsS32.far ?_ NB0_241.out _) | exact HI0.out)⟩, ⟨by repeat (first | (with_reducible first | exact HK.out | apply KeepBut.set_ | apply keep_drewN | apply keep_drew | apply keep_alloc | refine keep_far ?_ GW241.out _) | exact HK.out)⟩, ⟨by repeat (first | (with_reducible first | exact HB.out | apply below_alloc | apply pw_below_drewN | apply below_drew1 | refine below_set ?_ (IsS32.ge HI0.out) | refine below_set ?_ GE241.out) | exact HB.out)⟩⟩
          · rw [if_neg c20] at H
            have c20b0 : decide (0 < a3) = false := decide_eq_false c20
            clear c20
            (first | rw [c20b0] | (simp only [i64_w, i32_w]; rw [c20b0]) | skip)
            have H' := Aside0.mk H
            clear H
            go_wp2
            go_meet
            case rel => exact ⟨_, (false), (by first | rfl | (simp; done) | (simp [*]; done)), H', ⟨by have := HJ5.out; first | omega | exact Nat.le_refl _⟩, ⟨by (with_reducible repeat (first | refine blk_drewN ?_ _ | refine blk_drew ?_ | refine blk_alloc ?_ _)); exact BK241.out⟩, ⟨by repeat (first | (with_reducible first | exact HI0.out | apply IsS32.alloc | apply IsS32.drewN | apply IsS32.drew | apply IsS32.set_1 | refine IsS32.far ?_ NB0_241.out _) | exact HI0.out)⟩, ⟨by repeat (first | (with_reducible first | exact HK.out | apply KeepBut.set_ | apply keep_drewN | apply keep_drew | apply keep_alloc | refine keep_far ?_ GW241.out _) | exact HK.out)⟩, ⟨by repeat (first | (with_reducible first | exact HB.out | apply below_alloc | apply pw_below_drewN | apply below_drew1 | refine below_set ?_ (IsS32.ge HI0.out) | refine below_set ?_ GE241.out) | exact HB.out)⟩⟩
        case rest =>
          clear HC19
          try clear c1
          try clear c2
          try clear p2
          try clear c3
          try clear c6
          try clear p6
          try clear c9
          try clear c9b0
          try clear c10
          try clear c11
          try clear c17
          try clear c20
          try clear c20b0
          try clear hcz18_0
          try clear hcz18_1
          try clear hcz18_2
          try clear hcz18_3
          try clear hcz18_4
          try clear hcz18_5
          try clear hfz18_0
          try clear hfz18_1
          try clear hfz18_2
          try clear hfz18_3
          try clear hfz18_4
          try clear hfz18_5
          try clear p2
          obtain ⟨kq, x35_18, rfl, HA, HJ18, BK241, HI0, HK, HB⟩ := hcut
          cases kq with
          | zero => exact absurd HA.out (by simp [jettisonlaw08_feed_truth.j1])
          | succ kj18 =>
            have H := HA.out
            clear HA
            simp only [jettisonlaw08_feed_truth.j1] at H
            by_cases c21 : x35_18 = true
            · subst c21
              have H1 : ((jettisonlaw08_feed_truth.f kj18 s0_0 t243 s0_2 s0_3 a1 a2 (wrap64 (a3 - 1))).bind fun bt256 => ((some (([(⟨#[38, 38]⟩ : ByteArray), (⟨#[124, 124]⟩ : ByteArray)] : List ByteArray) : List ByteArray)).bind fun y266 => (if 0 ≤ (Int.tmod (wrap64 (Int.tdiv t242 8)) 2) then (if (Int.tmod (wrap64 (Int.tdiv t242 8)) 2) < (y266.length : Int) then ((jettisonlaw08_feed_truth.f kj18 s0_0 bt256.2.2.2.2.2.2 s0_2 s0_3 a1 a2 (wrap64 (a3 - 1))).bind fun bt270 => (some (3, rdOf ByteArray.empty y266 (Int.tmod (wrap64 (Int.tdiv t242 8)) 2), 0, (⟨#[]⟩ : ByteArray), (⟨#[]⟩ : ByteArray), (([(⟨bt256.1, bt256.2.1, bt256.2.2.1, bt256.2.2.2.1, bt256.2.2.2.2.1, bt256.2.2.2.2.2.1⟩ : S24), (⟨bt270.1, bt270.2.1, bt270.2.2.1, bt270.2.2.2.1, bt270.2.2.2.2.1, bt270.2.2.2.2.2.1⟩ : S24)] : List (S24))), bt270.2.2.2.2.2.2))) else (none)) else (none)))) = some (r1, r2, r3, r4, r5, r6, r7) := by rw [if_pos rfl] at H; exact H
              clear H
              have H := H1
              clear H1
              replace H := Option.bind_eq_some_iff.mp H
              obtain ⟨⟨t256, t257, t258, t259, t260, t261, t264⟩, A220, H⟩ := H
              replace H : ((some (([(⟨#[38, 38]⟩ : ByteArray), (⟨#[124, 124]⟩ : ByteArray)] : List ByteArray) : List ByteArray)).bind fun y266 => (if 0 ≤ (Int.tmod (wrap64 (Int.tdiv t242 8)) 2) then (if (Int.tmod (wrap64 (Int.tdiv t242 8)) 2) < (y266.length : Int) then ((jettisonlaw08_feed_truth.f kj18 s0_0 t264 s0_2 s0_3 a1 a2 (wrap64 (a3 - 1))).bind fun bt270 => (some (3, rdOf ByteArray.empty y266 (Int.tmod (wrap64 (Int.tdiv t242 8)) 2), 0, (⟨#[]⟩ : ByteArray), (⟨#[]⟩ : ByteArray), (([(⟨t256, t257, t258, t259, t260, t261⟩ : S24), (⟨bt270.1, bt270.2.1, bt270.2.2.1, bt270.2.2.2.1, bt270.2.2.2.2.1, bt270.2.2.2.2.2.1⟩ : S24)] : List (S24))), bt270.2.2.2.2.2.2))) else (none)) else (none))) = some (r1, r2, r3, r4, r5, r6, r7) := H
              have A22 := Aside0.mk A220
              clear A220
              obtain ⟨y266, hy266⟩ : ∃ y_ : List ByteArray, y_ = (([(⟨#[38, 38]⟩ : ByteArray), (⟨#[124, 124]⟩ : ByteArray)] : List ByteArray)) := ⟨_, rfl⟩
              replace H : (if 0 ≤ (Int.tmod (wrap64 (Int.tdiv t242 8)) 2) then (if (Int.tmod (wrap64 (Int.tdiv t242 8)) 2) < (y266.length : Int) then ((jettisonlaw08_feed_truth.f kj18 s0_0 t264 s0_2 s0_3 a1 a2 (wrap64 (a3 - 1))).bind fun bt270 => (some (3, rdOf ByteArray.empty y266 (Int.tmod (wrap64 (Int.tdiv t242 8)) 2), 0, (⟨#[]⟩ : ByteArray), (⟨#[]⟩ : ByteArray), (([(⟨t256, t257, t258, t259, t260, t261⟩ : S24), (⟨bt270.1, bt270.2.1, bt270.2.2.1, bt270.2.2.2.1, bt270.2.2.2.2.1, bt270.2.2.2.2.2.1⟩ : S24)] : List (S24))), bt270.2.2.2.2.2.2))) else (none)) else (none)) = some (r1, r2, r3, r4, r5, r6, r7) := by first | (rw [hy266]; with_reducible exact H) | (have H2_ := (Option.bind_some _ _).symm.trans H; rw [hy266]; with_reducible exact H2_) | (have H2_ := (Option.bind_some _ _).symm.trans H; with_reducible exact H2_) | with_reducible exact H | (rw [hy266]; exact H) | exact H
              have Ny266 := Aside0.mk hy266
              clear hy266
              obtain ⟨ji23, hji23⟩ : ∃ j_ : Int, (Int.tmod (wrap64 (Int.tdiv t242 8)) 2) = j_ := ⟨_, rfl⟩
              replace H : (if 0 ≤ (ji23) then (if (ji23) < (y266.length : Int) then ((jettisonlaw08_feed_truth.f kj18 s0_0 t264 s0_2 s0_3 a1 a2 (wrap64 (a3 - 1))).bind fun bt270 => (some (3, rdOf ByteArray.empty y266 (ji23), 0, (⟨#[]⟩ : ByteArray), (⟨#[]⟩ : ByteArray), (([(⟨t256, t257, t258, t259, t260, t261⟩ : S24), (⟨bt270.1, bt270.2.1, bt270.2.2.1, bt270.2.2.2.1, bt270.2.2.2.2.1, bt270.2.2.2.2.2.1⟩ : S24)] : List (S24))), bt270.2.2.2.2.2.2))) else (none)) else (none)) = some (r1, r2, r3, r4, r5, r6, r7) := by first | (rw [hji23] at H; exact H) | (simp only [hji23] at H ⊢; exact H)
              (try rw [hji23] at A22)
              by_cases c24 : 0 ≤ (ji23)
              · rw [if_pos c24] at H
                have c24b0 : decide (0 ≤ (ji23)) = true := decide_eq_true c24
                clear c24
                by_cases c25 : (ji23) < (y266.length : Int)
                · rw [if_pos c25] at H
                  have c25b0 : decide ((ji23) < (y266.length : Int)) = true := decide_eq_true c25
                  clear c25
                  replace H := Option.bind_eq_some_iff.mp H
                  obtain ⟨⟨t270, t271, t272, t273, t274, t275, t278⟩, A260, H⟩ := H
                  replace H : (some (3, rdOf ByteArray.empty y266 (ji23), 0, (⟨#[]⟩ : ByteArray), (⟨#[]⟩ : ByteArray), (([(⟨t256, t257, t258, t259, t260, t261⟩ : S24), (⟨t270, t271, t272, t273, t274, t275⟩ : S24)] : List (S24))), t278)) = some (r1, r2, r3, r4, r5, r6, r7) := H
                  have A26 := Aside0.mk A260
                  clear A260
                  obtain ⟨y279, hy279⟩ : ∃ y_ : List (S24), y_ = (([(⟨t256, t257, t258, t259, t260, t261⟩ : S24), (⟨t270, t271, t272, t273, t274, t275⟩ : S24)] : List (S24))) := ⟨_, rfl⟩
                  replace H : (some (3, rdOf ByteArray.empty y266 (ji23), 0, (⟨#[]⟩ : ByteArray), (⟨#[]⟩ : ByteArray), y279, t278)) = some (r1, r2, r3, r4, r5, r6, r7) := by first | (rw [hy279]; with_reducible exact H) | (have H2_ := (Option.bind_some _ _).symm.trans H; rw [hy279]; with_reducible exact H2_) | (have H2_ := (Option.bind_some _ _).symm.trans H; with_reducible exact H2_) | with_reducible exact H | (rw [hy279]; exact H) | exact H
                  have Ny279 := Aside0.mk hy279
                  clear hy279
                  simp only [Option.some.injEq, Prod.mk.injEq] at H
                  obtain ⟨rfl, rfl, rfl, rfl, rfl, rfl, rfl⟩ := H
                  try go_wp2_with (first | ((with_reducible refine gate_callee (f := 11) rfl ?_); refine goesL_ (some 41) rfl rfl Tryd.func11 (by kernel_rfl) rfl #[.pointer (some ⟨g, 0, none⟩), .string a1, .string a2, .int .i64 (wrap64 (a3 - 1))] rfl (by (try simp only [List.map_toArray, List.map_cons, List.map_nil]); first | done | rfl | (simp only [List.length_drop, List.length_take]; rfl)) ?_; (with_reducible refine (ih kj18 (by have := HJ5.out; have := HJ18.out; omega) g s0_0 t243 s0_2 s0_3 a1 a2 (wrap64 (a3 - 1)) t256 t257 t258 t259 t260 t261 t264 w0 _ ?side1 ?side2 A22.out).mono ?_); (case side1 => repeat (first | (with_reducible first | exact HI0.out | apply IsS32.alloc | apply IsS32.drewN | apply IsS32.drew | apply IsS32.set_1 | refine IsS32.far ?_ NB0_241.out _) | exact HI0.out)); (case side2 => repeat (first | (with_reducible first | exact HB.out | apply below_alloc | apply pw_below_drewN | apply below_drew1 | refine below_set ?_ (IsS32.ge HI0.out) | refine below_set ?_ GE241.out) | exact HB.out)); rintro e w27 ⟨v262, rfl, ho0, hi, hb, hk⟩; refine ⟨_, rfl, ?_⟩; have n0_ := Aside0.mk (KeepBut.blk hk (g' := gb241) (o := .cells #[.int .i64 0, .string (⟨#[]⟩ : ByteArray), .int .i64 0, .string (⟨#[]⟩ : ByteArray), .string (⟨#[]⟩ : ByteArray), .slice none 0 0] 24 (0, 0)) (by (with_reducible repeat (first | refine blk_drewN ?_ _ | refine blk_drew ?_ | refine blk_alloc ?_ _)); exact BK241.out) NB241_0.out (by simp)); have n1_ := Aside0.mk (Kd.N_lower (Kd.N_mono (ok' := fun k_ => (w.heap.size ≤ k_) ∧ k_ ≠ gb241 ∧ k_ ≠ g) ho0 (fun k_ hk_ => ⟨(Nat.le_trans (keep_size (w := w) (g := g) (row := none) (by repeat (first | (with_reducible first | exact HK.out | apply KeepBut.set_ | apply keep_drewN | apply keep_drew | apply keep_alloc | refine keep_far ?_ GW241.out _) | exact HK.out))) hk_), (Kd.freshB (g := gb241) (o := .cells #[.int .i64 0, .string (⟨#[]⟩ : ByteArray), .int .i64 0, .string (⟨#[]⟩ : ByteArray), .string (⟨#[]⟩ : ByteArray), .slice none 0 0] 24 (0, 0)) (by (with_reducible repeat (first | refine blk_drewN ?_ _ | refine blk_drew ?_ | refine blk_alloc ?_ _)); exact BK241.out) k_ hk_), (IsS32.fresh (by repeat (first | (with_reducible first | exact HI0.out | apply IsS32.alloc | apply IsS32.drewN | apply IsS32.drew | apply IsS32.set_1 | refine IsS32.far ?_ NB0_241.out _) | exact HI0.out)) k_ hk_)⟩)) (keep_size (w := w) (g := g) (row := none) (by repeat (first | (with_reducible first | exact HK.out | apply KeepBut.set_ | apply keep_drewN | apply keep_drew | apply keep_alloc | refine keep_far ?_ GW241.out _) | exact HK.out)))); have n2_ := Aside0.mk (KeepBut.trans (by repeat (first | (with_reducible first | exact HK.out | apply KeepBut.set_ | apply keep_drewN | apply keep_drew | apply keep_alloc | refine keep_far ?_ GW241.out _) | exact HK.out)) hk (.inl rfl)); have n3_ := Aside0.mk (hb); have n4_ := Aside0.mk (hi); clear BK241; clear HK; clear HB; clear HI0; have BK241 := n0_; have HO263 := n1_; have HK := n2_; have HB := n3_; have HI0 := n4_; clear n0_ n1_ n2_ n3_ n4_; (try clear hb); (try clear hb2); (try clear hk); (try clear hi); (try clear ho0)) | ((with_reducible refine gate_dst (N := 10) rfl ?_); refine box_event ?hg (N := 10) ?hd (cs := #[.int .i64 0, .string (⟨#[]⟩ : ByteArray), .int .i64 0, .string (⟨#[]⟩ : ByteArray), .string (⟨#[]⟩ : ByteArray), .slice none 0 0]) (t := 24) ?hr ?_; (case hd => rfl); (case hg => rfl); (case hr => first | (go_simp; done) | (go_simp; rfl)); intro gb265 hg w28 hbox hb; have n0_ := Aside0.mk (Kd.N_below (Kd.N_elderB (by (with_reducible repeat (first | apply Kd.N_alloc | apply Kd.N_drewN | apply Kd.N_drew)); exact HO263.out) gb265 (Nat.le_of_eq hg.symm)) hb); have n1_ := Aside0.mk (blk_below (g := gb241) (o := .cells #[.int .i64 0, .string (⟨#[]⟩ : ByteArray), .int .i64 0, .string (⟨#[]⟩ : ByteArray), .string (⟨#[]⟩ : ByteArray), .slice none 0 0] 24 (0, 0)) (by (with_reducible repeat (first | refine blk_drewN ?_ _ | refine blk_drew ?_ | refine blk_alloc ?_ _)); exact BK241.out) hb); have n2_ := Aside0.mk (IsS32.below (by repeat (first | (with_reducible first | exact HI0.out | apply IsS32.alloc | apply IsS32.drewN | apply IsS32.drew | apply IsS32.set_1 | refine IsS32.far ?_ NB0_241.out _) | exact HI0.out)) hb); have n3_ := Aside0.mk (KeepBut.trans (by repeat (first | (with_reducible first | exact HK.out | apply KeepBut.set_ | apply keep_drewN | apply keep_drew | apply keep_alloc | refine keep_far ?_ GW241.out _) | exact HK.out)) (KeepBut.of_below hb g none) (.inl rfl)); have n4_ := Aside0.mk (below_step (by repeat (first | (with_reducible first | exact HB.out | apply below_alloc | apply pw_below_drewN | apply below_drew1 | refine below_set ?_ (IsS32.ge HI0.out) | refine below_set ?_ GE241.out) | exact HB.out)) hb); have n5_ := Aside0.mk (hbox); have n6_ := Aside0.mk ((by rw [hg]; exact (keep_size (w := w) (g := g) (row := none) (by repeat (first | (with_reducible first | exact HK.out | apply KeepBut.set_ | apply keep_drewN | apply keep_drew | apply keep_alloc | refine keep_far ?_ GW241.out _) | exact HK.out))) : w.heap.size ≤ gb265)); have n7_ := Aside0.mk ((Nat.le_trans HW0.out (by rw [hg]; exact (keep_size (w := w) (g := g) (row := none) (by repeat (first | (with_reducible first | exact HK.out | apply KeepBut.set_ | apply keep_drewN | apply keep_drew | apply keep_alloc | refine keep_far ?_ GW241.out _) | exact HK.out))) : w.heap.size ≤ gb265) : w0.heap.size ≤ gb265)); have n8_ := Aside0.mk ((by rw [hg]; exact Nat.ne_of_lt (blk_lt (g := gb241) (o := .cells #[.int .i64 0, .string (⟨#[]⟩ : ByteArray), .int .i64 0, .string (⟨#[]⟩ : ByteArray), .string (⟨#[]⟩ : ByteArray), .slice none 0 0] 24 (0, 0)) (by (with_reducible repeat (first | refine blk_drewN ?_ _ | refine blk_drew ?_ | refine blk_alloc ?_ _)); exact BK241.out)) : gb241 ≠ gb265)); have n9_ := Aside0.mk ((by rw [hg]; exact Nat.ne_of_gt (blk_lt (g := gb241) (o := .cells #[.int .i64 0, .string (⟨#[]⟩ : ByteArray), .int .i64 0, .string (⟨#[]⟩ : ByteArray), .string (⟨#[]⟩ : ByteArray), .slice none 0 0] 24 (0, 0)) (by (with_reducible repeat (first | refine blk_drewN ?_ _ | refine blk_drew ?_ | refine blk_alloc ?_ _)); exact BK241.out)) : gb265 ≠ gb241)); have n10_ := Aside0.mk ((by rw [hg]; exact Nat.ne_of_lt (IsS32.lt (show IsS32 w0 _ g s0_0 t264 s0_2 s0_3 from by repeat (first | (with_reducible first | exact HI0.out | apply IsS32.alloc | apply IsS32.drewN | apply IsS32.drew | apply IsS32.set_1 | refine IsS32.far ?_ NB0_241.out _) | exact HI0.out))) : g ≠ gb265)); have n11_ := Aside0.mk ((by rw [hg]; exact Nat.ne_of_gt (IsS32.lt (show IsS32 w0 _ g s0_0 t264 s0_2 s0_3 from by repeat (first | (with_reducible first | exact HI0.out | apply IsS32.alloc | apply IsS32.drewN | apply IsS32.drew | apply IsS32.set_1 | refine IsS32.far ?_ NB0_241.out _) | exact HI0.out))) : gb265 ≠ g)); clear HO263; clear BK241; clear HI0; clear HK; clear HB; have HO263 := n0_; have BK241 := n1_; have HI0 := n2_; have HK := n3_; have HB := n4_; have BK265 := n5_; have GW265 := n6_; have GE265 := n7_; have NB241_265 := n8_; have NB265_241 := n9_; have NB0_265 := n10_; have NB265_0 := n11_; clear n0_ n1_ n2_ n3_ n4_ n5_ n6_ n7_ n8_ n9_ n10_ n11_; clear hb hbox hg; have hnb29 := NB265_241.out; have hnc29 := NB241_265.out; have hnb30 := NB265_0.out; have hnc30 := NB0_265.out; have hcz31_0 : w28.cell? ⟨gb265, 0, none⟩ = some (.int .i64 0) := (blk_cell BK265.out 0).trans rfl; have hcz31_1 : w28.cell? ⟨gb265, 1, none⟩ = some (.string (⟨#[]⟩ : ByteArray)) := (blk_cell BK265.out 1).trans rfl; have hcz31_2 : w28.cell? ⟨gb265, 2, none⟩ = some (.int .i64 0) := (blk_cell BK265.out 2).trans rfl; have hcz31_3 : w28.cell? ⟨gb265, 3, none⟩ = some (.string (⟨#[]⟩ : ByteArray)) := (blk_cell BK265.out 3).trans rfl; have hcz31_4 : w28.cell? ⟨gb265, 4, none⟩ = some (.string (⟨#[]⟩ : ByteArray)) := (blk_cell BK265.out 4).trans rfl; have hcz31_5 : w28.cell? ⟨gb265, 5, none⟩ = some (.slice none 0 0) := (blk_cell BK265.out 5).trans rfl; have hfz31_0 := blk_frozen BK265.out 0; have hfz31_1 := blk_frozen BK265.out 1; have hfz31_2 := blk_frozen BK265.out 2; have hfz31_3 := blk_frozen BK265.out 3; have hfz31_4 := blk_frozen BK265.out 4; have hfz31_5 := blk_frozen BK265.out 5; obtain ⟨Ao32, co32, eo32⟩ := Kd.N_slice HO263.out; subst eo32))
                  have pi269 : (0 ≤ ((ji23) : Int)) = True := eq_true (of_decide_eq_true (by first | (with_reducible assumption) | assumption))
                  have qi269 : ((ji23) < (y266.length : Int)) = True := eq_true (of_decide_eq_true (by first | (with_reducible assumption) | assumption))
                  have n0_ : Aside0 (Kd.N k24 24 ((((((w28.setCell ⟨gb265, 0, none⟩ (.int .i64 t256)).setCell ⟨gb265, 1, none⟩ (.string t257)).setCell ⟨gb265, 2, none⟩ (.int .i64 t258)).setCell ⟨gb265, 3, none⟩ (.string t259)).setCell ⟨gb265, 4, none⟩ (.string t260)).setCell ⟨gb265, 5, none⟩ (.slice Ao32 t261.length co32)) w.heap.size (fun k_ => (w.heap.size ≤ k_) ∧ k_ ≠ gb241 ∧ k_ ≠ g ∧ k_ ≠ gb265) (.slice Ao32 t261.length co32) t261) := ⟨by (with_reducible repeat (first | apply Kd.N_alloc | apply Kd.N_drewN | apply Kd.N_drew)); exact Kd.N_mono (Kd.N_far (p := ⟨gb265, 5, none⟩) (Kd.N_far (p := ⟨gb265, 4, none⟩) (Kd.N_far (p := ⟨gb265, 3, none⟩) (Kd.N_far (p := ⟨gb265, 2, none⟩) (Kd.N_far (p := ⟨gb265, 1, none⟩) (Kd.N_far (p := ⟨gb265, 0, none⟩) (Kd.N_mono HO263.out (fun k_ hk => (⟨hk, hk.2⟩ : _ ∧ k_ ≠ gb265))) (fun _ hk => hk.2) (.int .i64 t256)) (fun _ hk => hk.2) (.string t257)) (fun _ hk => hk.2) (.int .i64 t258)) (fun _ hk => hk.2) (.string t259)) (fun _ hk => hk.2) (.string t260)) (fun _ hk => hk.2) (.slice Ao32 t261.length co32)) (fun _ hk => ⟨hk.1.1.1, ⟨hk.1.1.2.1, ⟨hk.1.1.2.2, hk.1.2⟩⟩⟩)⟩
                  have n1_ : Aside0 (((((((w28.setCell ⟨gb265, 0, none⟩ (.int .i64 t256)).setCell ⟨gb265, 1, none⟩ (.string t257)).setCell ⟨gb265, 2, none⟩ (.int .i64 t258)).setCell ⟨gb265, 3, none⟩ (.string t259)).setCell ⟨gb265, 4, none⟩ (.string t260)).setCell ⟨gb265, 5, none⟩ (.slice Ao32 t261.length co32)).heap[gb241]? = some (.cells #[.int .i64 0, .string (⟨#[]⟩ : ByteArray), .int .i64 0, .string (⟨#[]⟩ : ByteArray), .string (⟨#[]⟩ : ByteArray), .slice none 0 0] 24 (0, 0))) := ⟨by (with_reducible repeat (first | refine blk_drewN ?_ _ | refine blk_drew ?_ | refine blk_alloc ?_ _)); refine blk_far ?_ NB241_265.out _; (with_reducible repeat (first | refine blk_drewN ?_ _ | refine blk_drew ?_ | refine blk_alloc ?_ _)); refine blk_far ?_ NB241_265.out _; (with_reducible repeat (first | refine blk_drewN ?_ _ | refine blk_drew ?_ | refine blk_alloc ?_ _)); refine blk_far ?_ NB241_265.out _; (with_reducible repeat (first | refine blk_drewN ?_ _ | refine blk_drew ?_ | refine blk_alloc ?_ _)); refine blk_far ?_ NB241_265.out _; (with_reducible repeat (first | refine blk_drewN ?_ _ | refine blk_drew ?_ | refine blk_alloc ?_ _)); refine blk_far ?_ NB241_265.out _; (with_reducible repeat (first | refine blk_drewN ?_ _ | refine blk_drew ?_ | refine blk_alloc ?_ _)); refine blk_far ?_ NB241_265.out _; (with_reducible repeat (first | refine blk_drewN ?_ _ | refine blk_drew ?_ | refine blk_alloc ?_ _)); exact BK241.out⟩
                  have n2_ : Aside0 (((((((w28.setCell ⟨gb265, 0, none⟩ (.int .i64 t256)).setCell ⟨gb265, 1, none⟩ (.string t257)).setCell ⟨gb265, 2, none⟩ (.int .i64 t258)).setCell ⟨gb265, 3, none⟩ (.string t259)).setCell ⟨gb265, 4, none⟩ (.string t260)).setCell ⟨gb265, 5, none⟩ (.slice Ao32 t261.length co32)).heap[gb265]? = some (.cells #[.int .i64 t256, .string t257, .int .i64 t258, .string t259, .string t260, .slice Ao32 t261.length co32] 24 (0, 0))) := ⟨by (with_reducible repeat (first | refine blk_drewN ?_ _ | refine blk_drew ?_ | refine blk_alloc ?_ _)); refine blk_put (cs := #[.int .i64 t256, .string t257, .int .i64 t258, .string t259, .string t260, .slice none 0 0]) ?_ 5 _ rfl; (with_reducible repeat (first | refine blk_drewN ?_ _ | refine blk_drew ?_ | refine blk_alloc ?_ _)); refine blk_put (cs := #[.int .i64 t256, .string t257, .int .i64 t258, .string t259, .string (⟨#[]⟩ : ByteArray), .slice none 0 0]) ?_ 4 _ rfl; (with_reducible repeat (first | refine blk_drewN ?_ _ | refine blk_drew ?_ | refine blk_alloc ?_ _)); refine blk_put (cs := #[.int .i64 t256, .string t257, .int .i64 t258, .string (⟨#[]⟩ : ByteArray), .string (⟨#[]⟩ : ByteArray), .slice none 0 0]) ?_ 3 _ rfl; (with_reducible repeat (first | refine blk_drewN ?_ _ | refine blk_drew ?_ | refine blk_alloc ?_ _)); refine blk_put (cs := #[.int .i64 t256, .string t257, .int .i64 0, .string (⟨#[]⟩ : ByteArray), .string (⟨#[]⟩ : ByteArray), .slice none 0 0]) ?_ 2 _ rfl; (with_reducible repeat (first | refine blk_drewN ?_ _ | refine blk_drew ?_ | refine blk_alloc ?_ _)); refine blk_put (cs := #[.int .i64 t256, .string (⟨#[]⟩ : ByteArray), .int .i64 0, .string (⟨#[]⟩ : ByteArray), .string (⟨#[]⟩ : ByteArray), .slice none 0 0]) ?_ 1 _ rfl; (with_reducible repeat (first | refine blk_drewN ?_ _ | refine blk_drew ?_ | refine blk_alloc ?_ _)); refine blk_put (cs := #[.int .i64 0, .string (⟨#[]⟩ : ByteArray), .int .i64 0, .string (⟨#[]⟩ : ByteArray), .string (⟨#[]⟩ : ByteArray), .slice none 0 0]) ?_ 0 _ rfl; (with_reducible repeat (first | refine blk_drewN ?_ _ | refine blk_drew ?_ | refine blk_alloc ?_ _)); exact BK265.out⟩
                  have n3_ : Aside0 (IsS32 w0 ((((((w28.setCell ⟨gb265, 0, none⟩ (.int .i64 t256)).setCell ⟨gb265, 1, none⟩ (.string t257)).setCell ⟨gb265, 2, none⟩ (.int .i64 t258)).setCell ⟨gb265, 3, none⟩ (.string t259)).setCell ⟨gb265, 4, none⟩ (.string t260)).setCell ⟨gb265, 5, none⟩ (.slice Ao32 t261.length co32)) g s0_0 t264 s0_2 s0_3) := ⟨by repeat (first | (with_reducible first | exact HI0.out | apply IsS32.alloc | apply IsS32.drewN | apply IsS32.drew | apply IsS32.set_1 | refine IsS32.far ?_ NB0_241.out _ | refine IsS32.far ?_ NB0_265.out _) | exact HI0.out)⟩
                  have n4_ : Aside0 (KeepBut w ((((((w28.setCell ⟨gb265, 0, none⟩ (.int .i64 t256)).setCell ⟨gb265, 1, none⟩ (.string t257)).setCell ⟨gb265, 2, none⟩ (.int .i64 t258)).setCell ⟨gb265, 3, none⟩ (.string t259)).setCell ⟨gb265, 4, none⟩ (.string t260)).setCell ⟨gb265, 5, none⟩ (.slice Ao32 t261.length co32)) g none) := ⟨by repeat (first | (with_reducible first | exact HK.out | apply KeepBut.set_ | apply keep_drewN | apply keep_drew | apply keep_alloc | refine keep_far ?_ GW241.out _ | refine keep_far ?_ GW265.out _) | exact HK.out)⟩
                  have n5_ : Aside0 (Below w0.heap.size w0 ((((((w28.setCell ⟨gb265, 0, none⟩ (.int .i64 t256)).setCell ⟨gb265, 1, none⟩ (.string t257)).setCell ⟨gb265, 2, none⟩ (.int .i64 t258)).setCell ⟨gb265, 3, none⟩ (.string t259)).setCell ⟨gb265, 4, none⟩ (.string t260)).setCell ⟨gb265, 5, none⟩ (.slice Ao32 t261.length co32))) := ⟨by repeat (first | (with_reducible first | exact HB.out | apply below_alloc | apply pw_below_drewN | apply below_drew1 | refine below_set ?_ (IsS32.ge HI0.out) | refine below_set ?_ GE241.out | refine below_set ?_ GE265.out) | exact HB.out)⟩
                  (try clear HO263)
                  (try clear BK241)
                  (try clear BK265)
                  (try clear HI0)
                  (try clear HK)
                  (try clear HB)
                  generalize ((((((w28.setCell ⟨gb265, 0, none⟩ (.int .i64 t256)).setCell ⟨gb265, 1, none⟩ (.string t257)).setCell ⟨gb265, 2, none⟩ (.int .i64 t258)).setCell ⟨gb265, 3, none⟩ (.string t259)).setCell ⟨gb265, 4, none⟩ (.string t260)).setCell ⟨gb265, 5, none⟩ (.slice Ao32 t261.length co32)) = w33 at n0_ n1_ n2_ n3_ n4_ n5_ ⊢
                  have HO263 := n0_
                  have BK241 := n1_
                  have BK265 := n2_
                  have HI0 := n3_
                  have HK := n4_
                  have HB := n5_
                  clear n0_ n1_ n2_ n3_ n4_ n5_
                  have n0_ := Aside0.mk (Kd.N_drew HO263.out)
                  have n1_ := Aside0.mk (blk_drew BK241.out)
                  have n2_ := Aside0.mk (blk_drew BK265.out)
                  have n3_ := Aside0.mk (IsS32.drew HI0.out)
                  have n4_ := Aside0.mk (keep_drew HK.out)
                  have n5_ := Aside0.mk (below_drew1 HB.out)
                  clear HO263
                  clear BK241
                  clear BK265
                  clear HI0
                  clear HK
                  clear HB
                  have HO263 := n0_
                  have BK241 := n1_
                  have BK265 := n2_
                  have HI0 := n3_
                  have HK := n4_
                  have HB := n5_
                  clear n0_ n1_ n2_ n3_ n4_ n5_
                  refine start_ (n := 16) (S := fun w' => True) (ds := []) #[false, false, false, false, false, false, false, false, false, false, false, false, false, false, false, false] (by kernel_rfl) rfl rfl trivial (fun hHeld => ?_); refine with_tabW jettisonlaw08_feed_truth.tab6 jettisonlaw08_feed_truth.bits6 (fun HT_ HW_ => ?_)
                  generalize w33.drew = w34 at HO263 BK241 BK265 HI0 HK HB hHeld ⊢
                  refine pure_ (i := 1) (N := some 43) (v := ?_) (a' := ?_) #[false, true, false, false, false, false, false, false, false, false, false, false, false, false, false, false] rfl rfl (any_of HT_.out (by kernel_rfl)) (fun _ _ _ h => h) (Or.inl ⟨by rfl, ?_⟩) ?_ ?_
                  rotate_left
                  · intro w'
                    go_simp
                    with_reducible rfl
                  rotate_left
                  · simp only [Act.put, List.setIfInBounds_toArray, List.set_cons_zero, List.set_cons_succ, i64_w, i32_w]
                    rfl
                  refine pure_ (i := 7) (N := some 49) (v := ?_) (a' := ?_) #[false, true, false, false, false, false, false, true, false, false, false, false, false, false, false, false] rfl rfl (any_of HT_.out (by kernel_rfl)) (fun _ _ _ h => h) (Or.inl ⟨by rfl, ?_⟩) ?_ ?_
                  rotate_left
                  · intro w'
                    go_simp
                    with_reducible rfl
                  rotate_left
                  · simp only [Act.put, List.setIfInBounds_toArray, List.set_cons_zero, List.set_cons_succ, i64_w, i32_w]
                    rfl
                  refine pure_ (i := 8) (N := some 50) (v := ?_) (a' := ?_) #[false, true, false, false, false, false, false, true, true, false, false, false, false, false, false, false] rfl rfl (any_of HT_.out (by kernel_rfl)) (fun _ _ _ h => h) (Or.inl ⟨by rfl, ?_⟩) ?_ ?_
                  rotate_left
                  · intro w'
                    go_simp
                    with_reducible rfl
                  rotate_left
                  · simp only [Act.put, List.setIfInBounds_toArray, List.set_cons_zero, List.set_cons_succ, i64_w, i32_w]
                    rfl
                  refine pure_ (i := 9) (N := some 51) (v := ?_) (a' := ?_) #[false, true, false, false, false, false, false, true, true, true, false, false, false, false, false, false] rfl rfl (any_of HT_.out (by kernel_rfl)) (fun _ _ _ h => h) (Or.inl ⟨by rfl, ?_⟩) ?_ ?_
                  rotate_left
                  · intro w'
                    go_simp
                    with_reducible rfl
                  rotate_left
                  · simp only [Act.put, List.setIfInBounds_toArray, List.set_cons_zero, List.set_cons_succ, i64_w, i32_w]
                    rfl
                  refine pure_ (i := 10) (N := some 52) (v := ?_) (a' := ?_) #[false, true, false, false, false, false, false, true, true, true, true, false, false, false, false, false] rfl rfl (any_of HT_.out (by kernel_rfl)) (fun _ _ _ h => h) (Or.inl ⟨by rfl, ?_⟩) ?_ ?_
                  rotate_left
                  · intro w'
                    go_simp
                    with_reducible rfl
                  rotate_left
                  · simp only [Act.put, List.setIfInBounds_toArray, List.set_cons_zero, List.set_cons_succ, i64_w, i32_w]
                    rfl
                  refine inv_at [0, 2, 3, 4, 5, 6, 11, 12, 13, 14, 15] (fun a0_ b a w' => ∃ (v267 : Value) (adz_v267 : Addr) (v276 : Value) (v280 : Value) (m4_ : Value) (m12_ : Value) (m14_ : Value), a = putSel a0_ b [(0, 42, v267), (2, 44, .int .i64 (wrap64 (Int.tdiv t242 8))), (3, 45, .int .i64 ji23), (4, 46, m4_), (5, 47, .string (rdOf ByteArray.empty y266 (ji23))), (6, 48, .agg #[.int .i64 t256, .string t257, .int .i64 t258, .string t259, .string t260, .slice Ao32 t261.length co32]), (11, 53, .int .i64 (wrap64 (a3 - 1))), (12, 54, m12_), (13, 55, v280), (14, 56, m14_)] ∧ (b 13 = false → Kd.N k24 24 w' w.heap.size (fun k_ => (w.heap.size ≤ k_) ∧ k_ ≠ g ∧ k_ ≠ gb241 ∧ k_ ≠ gb265) (.slice Ao32 t261.length co32) t261) ∧ (b 15 = false → w'.heap[gb241]? = some (.cells #[.int .i64 0, .string (⟨#[]⟩ : ByteArray), .int .i64 0, .string (⟨#[]⟩ : ByteArray), .string (⟨#[]⟩ : ByteArray), .slice none 0 0] 24 (0, 0))) ∧ (w'.heap[gb265]? = some (.cells #[.int .i64 t256, .string t257, .int .i64 t258, .string t259, .string t260, .slice Ao32 t261.length co32] 24 (0, 0))) ∧ (b 12 = false → IsS32 w0 w' g s0_0 t264 s0_2 s0_3) ∧ (KeepBut w w' g none) ∧ (Below w0.heap.size w0 w') ∧ (b 0 = true → Kd.R Kd.string 9 w' w.heap.size (fun k_ => (w.heap.size ≤ k_)) v267 y266) ∧ (b 0 = true → ∃ c_, (v267 : Value) = .slice (some adz_v267) y266.length c_) ∧ (b 12 = true → b 13 = false → Kd.N k24 24 w' w.heap.size (fun k_ => (w.heap.size ≤ k_) ∧ some k_ ≠ (.slice Ao32 t261.length co32 : Value).ownBlock ∧ k_ ≠ g ∧ k_ ≠ gb241 ∧ k_ ≠ gb265) v276 t275) ∧ (b 12 = true → IsS32 w0 w' g s0_0 t278 s0_2 s0_3) ∧ (b 13 = true → Kd.N k24 24 w' w.heap.size (fun k_ => (w.heap.size ≤ k_) ∧ k_ ≠ g ∧ k_ ≠ gb241 ∧ k_ ≠ gb265) v280 y279) ∧ (b 15 = true → w'.heap[gb241]? = some (.cells #[.int .i64 3, .string (rdOf ByteArray.empty y266 (ji23)), .int .i64 0, .string (⟨#[]⟩ : ByteArray), .string (⟨#[]⟩ : ByteArray), v280] 24 (0, 0))) ∧ (b 4 = true → (m4_ : Value) = .pointer (some (adz_v267.add ((ji23)).toNat))) ∧ (b 12 = true → (m12_ : Value) = .agg #[.int .i64 t270, .string t271, .int .i64 t272, .string t273, .string t274, v276]) ∧ (b 14 = true → (m14_ : Value) = .agg #[.int .i64 3, .string (rdOf ByteArray.empty y266 (ji23)), .int .i64 0, .string (⟨#[]⟩ : ByteArray), .string (⟨#[]⟩ : ByteArray), v280])) HT_.out HW_.out (by kernel_rfl) (by kernel_rfl) ?_ ?_ ?_
                  · exact ⟨.bool false, ⟨0, 0, none⟩, .bool false, .bool false, .bool false, .bool false, .bool false, by simp only [putSel, Bool.false_eq_true, if_false], fun _ => Kd.N_mono HO263.out (fun _ hk_ => (by first | omega | (dsimp only at *; omega) | (simp_all; done))), fun _ => BK241.out, BK265.out, fun _ => HI0.out, HK.out, HB.out, fun h_ => absurd h_ (by decide), fun h_ => absurd h_ (by decide), fun h_ => absurd h_ (by decide), fun h_ => absurd h_ (by decide), fun h_ => absurd h_ (by decide), fun h_ => absurd h_ (by decide), fun h_ => absurd h_ (by decide), fun h_ => absurd h_ (by decide), fun h_ => absurd h_ (by decide)⟩
                  · skip
                    clear BK241 BK265 HB HI0 HK HO263
                    refine steps_cons ?_ ?_
                    · rintro b a w' ⟨v267, adz_v267, v276, v280, m4_, m12_, m14_, ha, Q_HO263, Q_BK241, Q_BK265, Q_HI0, Q_HK, Q_HB, Q_HO268, Q_HA_HO268, Q_HO277, Q_HI0_e12, Q_HO281, Q_BK241_e15, Q_X4_, Q_X12_, Q_X14_⟩ hb_ hon hoff
                      refine ⟨_, rfl, fun K hK => ?_⟩
                      replace ha := Aside0.mk ha
                      have BK241 := Aside0.mk (Q_BK241 (hoff 15 (by kernel_rfl)))
                      have BK265 := Aside0.mk Q_BK265
                      have HK := Aside0.mk Q_HK
                      have HB := Aside0.mk Q_HB
                      refine Kd.R_lit_step Kd.string _ 9 ?hg (N := 42) ?hd (xs := ([(⟨#[38, 38]⟩ : ByteArray), (⟨#[124, 124]⟩ : ByteArray)] : List ByteArray)) (inner := [.string (⟨#[38, 38]⟩ : ByteArray), .string (⟨#[124, 124]⟩ : ByteArray)]) (ok := fun _ => True) (okp := fun _ => True) ?hr ?hp (fun _ hk => hk) trivial (Below.refl _ _) (Nat.le_refl _) (by simp) ?_; (case hd => rfl); (case hg => rfl); (case hr => first | (go_simp; done) | (go_simp; rfl)); (case hp => exact (Reps.one (show Kd.M Kd.string _ _ _ (⟨#[38, 38]⟩ : ByteArray) [.string (⟨#[38, 38]⟩ : ByteArray)] from rfl) (Reps.one (show Kd.M Kd.string _ _ _ (⟨#[124, 124]⟩ : ByteArray) [.string (⟨#[124, 124]⟩ : ByteArray)] from rfl) (Reps.none _ _))))
                      intro v267 w35 ho36 hb hg_ hnew_
                      clear hg_ hnew_
                      (first | rw [← Ny266.out] at ho36 | (simp only [Int.reduceToNat] at ho36; rw [← Ny266.out] at ho36))
                      have n1_ := Aside0.mk (Kd.R_lower (Kd.R_newM (M := fun k_ => (w.heap.size ≤ k_)) ho36 (keep_size (w := w) (g := g) (row := none) (by repeat (first | (with_reducible first | exact HK.out | apply KeepBut.set_ | apply keep_drewN | apply keep_drew | apply keep_alloc | refine keep_far ?_ GW241.out _ | refine keep_far ?_ GW265.out _) | exact HK.out))) (fun k_ h_ => h_)) (keep_size (w := w) (g := g) (row := none) (by repeat (first | (with_reducible first | exact HK.out | apply KeepBut.set_ | apply keep_drewN | apply keep_drew | apply keep_alloc | refine keep_far ?_ GW241.out _ | refine keep_far ?_ GW265.out _) | exact HK.out))))
                      have n2_ := Aside0.mk (blk_below (g := gb241) (o := .cells #[.int .i64 0, .string (⟨#[]⟩ : ByteArray), .int .i64 0, .string (⟨#[]⟩ : ByteArray), .string (⟨#[]⟩ : ByteArray), .slice none 0 0] 24 (0, 0)) (by (with_reducible repeat (first | refine blk_drewN ?_ _ | refine blk_drew ?_ | refine blk_alloc ?_ _)); exact BK241.out) hb)
                      have n4_ := Aside0.mk (blk_below (g := gb265) (o := .cells #[.int .i64 t256, .string t257, .int .i64 t258, .string t259, .string t260, .slice Ao32 t261.length co32] 24 (0, 0)) (by (with_reducible repeat (first | refine blk_drewN ?_ _ | refine blk_drew ?_ | refine blk_alloc ?_ _)); exact BK265.out) hb)
                      have n5_ := Aside0.mk (KeepBut.trans (by repeat (first | (with_reducible first | exact HK.out | apply KeepBut.set_ | apply keep_drewN | apply keep_drew | apply keep_alloc | refine keep_far ?_ GW241.out _ | refine keep_far ?_ GW265.out _) | exact HK.out)) (KeepBut.of_below hb g none) (.inl rfl))
                      have n6_ := Aside0.mk (below_step (by repeat (first | (with_reducible first | exact HB.out | apply below_alloc | apply pw_below_drewN | apply below_drew1 | refine below_set ?_ GE241.out | refine below_set ?_ GE265.out) | exact HB.out)) hb)
                      have z_HO263 := fun (h0_ : b 13 = false) => (show Kd.N k24 24 w35 w.heap.size (fun k_ => (w.heap.size ≤ k_) ∧ k_ ≠ g ∧ k_ ≠ gb241 ∧ k_ ≠ gb265) (.slice Ao32 t261.length co32) t261 from by first | exact (Kd.N_elder' (by (with_reducible repeat (first | apply Kd.N_alloc | apply Kd.N_drewN | apply Kd.N_drew)); exact (Q_HO263 h0_)) (Kd.R_base ho36) hb) | exact Kd.N_mono (Kd.N_elder' (by (with_reducible repeat (first | apply Kd.N_alloc | apply Kd.N_drewN | apply Kd.N_drew)); exact (Q_HO263 h0_)) (Kd.R_base ho36) hb) (fun _ h_ => by first | trivial | exact h_ | exact h_.1))
                      have z_HI0 := fun (h0_ : b 12 = false) => (show IsS32 w0 w35 g s0_0 t264 s0_2 s0_3 from by first | exact (IsS32.below (by repeat (first | (with_reducible first | exact (Q_HI0 h0_) | apply IsS32.alloc | apply IsS32.drewN | apply IsS32.drew | apply IsS32.set_1 | refine IsS32.far ?_ NB0_241.out _ | refine IsS32.far ?_ NB0_265.out _) | exact (Q_HI0 h0_))) hb))
                      have z_HO277 := fun (h0_ : b 12 = true) (h1_ : b 13 = false) => (show Kd.N k24 24 w35 w.heap.size (fun k_ => (w.heap.size ≤ k_) ∧ some k_ ≠ (.slice Ao32 t261.length co32 : Value).ownBlock ∧ k_ ≠ g ∧ k_ ≠ gb241 ∧ k_ ≠ gb265) v276 t275 from by first | exact (Kd.N_elder' (by (with_reducible repeat (first | apply Kd.N_alloc | apply Kd.N_drewN | apply Kd.N_drew)); exact (Q_HO277 h0_ h1_)) (Kd.R_base ho36) hb) | exact Kd.N_mono (Kd.N_elder' (by (with_reducible repeat (first | apply Kd.N_alloc | apply Kd.N_drewN | apply Kd.N_drew)); exact (Q_HO277 h0_ h1_)) (Kd.R_base ho36) hb) (fun _ h_ => by first | trivial | exact h_ | exact h_.1))
                      have z_HI0_e12 := fun (h0_ : b 12 = true) => (show IsS32 w0 w35 g s0_0 t278 s0_2 s0_3 from by first | exact (IsS32.below (by repeat (first | (with_reducible first | exact (Q_HI0_e12 h0_) | apply IsS32.alloc | apply IsS32.drewN | apply IsS32.drew | apply IsS32.set_1 | refine IsS32.far ?_ NB0_241.out _ | refine IsS32.far ?_ NB0_265.out _) | exact (Q_HI0_e12 h0_))) hb))
                      have z_HO281 := fun (h0_ : b 13 = true) => (show Kd.N k24 24 w35 w.heap.size (fun k_ => (w.heap.size ≤ k_) ∧ k_ ≠ g ∧ k_ ≠ gb241 ∧ k_ ≠ gb265) v280 y279 from by first | exact (Kd.N_elder' (by (with_reducible repeat (first | apply Kd.N_alloc | apply Kd.N_drewN | apply Kd.N_drew)); exact (Q_HO281 h0_)) (Kd.R_base ho36) hb) | exact Kd.N_mono (Kd.N_elder' (by (with_reducible repeat (first | apply Kd.N_alloc | apply Kd.N_drewN | apply Kd.N_drew)); exact (Q_HO281 h0_)) (Kd.R_base ho36) hb) (fun _ h_ => by first | trivial | exact h_ | exact h_.1))
                      clear BK241
                      clear BK265
                      clear HK
                      clear HB
                      have HO268 := n1_
                      have BK241 := n2_
                      have BK265 := n4_
                      have HK := n5_
                      have HB := n6_
                      clear n1_ n2_ n4_ n5_ n6_
                      clear hb ho36
                      obtain ⟨Ao37, co37, eo37⟩ := Kd.R_slice HO268.out
                      subst eo37
                      obtain ⟨ado37, fo37, _⟩ := Kd.at_string (Kd.R_reads' HO268.out).2.2 0 (by decide) (by rw [Ny266.out]; simp)
                      cases fo37
                      refine hK.out _ _ ⟨.slice (some ado37) y266.length co37, ado37, v276, v280, m4_, m12_, m14_, (by rw [ha.out]; exact putSel_upk 0 hb_ rfl rfl rfl), z_HO263, fun _ => (by (with_reducible repeat (first | refine blk_drewN ?_ _ | refine blk_drew ?_ | refine blk_alloc ?_ _)); exact BK241.out), (by (with_reducible repeat (first | refine blk_drewN ?_ _ | refine blk_drew ?_ | refine blk_alloc ?_ _)); exact BK265.out), z_HI0, (by repeat (first | (with_reducible first | exact HK.out | apply KeepBut.set_ | apply keep_drewN | apply keep_drew | apply keep_alloc | refine keep_far ?_ GW241.out _ | refine keep_far ?_ GW265.out _) | exact HK.out)), (by repeat (first | (with_reducible first | exact HB.out | apply below_alloc | apply pw_below_drewN | apply below_drew1 | refine below_set ?_ GE241.out | refine below_set ?_ GE265.out) | exact HB.out)), fun _ => (by (with_reducible repeat (first | apply Kd.R_alloc | apply Kd.R_drewN | apply Kd.R_drew)); exact Kd.R_mono HO268.out (fun _ hk => hk.1)), fun _ => ⟨_, rfl⟩, z_HO277, z_HI0_e12, z_HO281, fun h0_ => absurd ((hoff 15 (by kernel_rfl)).symm.trans h0_) (by decide), fun h0_ => absurd ((hoff 4 (by kernel_rfl)).symm.trans h0_) (by decide), Q_X12_, fun h0_ => absurd ((hoff 14 (by kernel_rfl)).symm.trans h0_) (by decide)⟩
                    refine steps_cons ?_ ?_
                    · rintro b a w' ⟨v267, adz_v267, v276, v280, m4_, m12_, m14_, ha, Q_HO263, Q_BK241, Q_BK265, Q_HI0, Q_HK, Q_HB, Q_HO268, Q_HA_HO268, Q_HO277, Q_HI0_e12, Q_HO281, Q_BK241_e15, Q_X4_, Q_X12_, Q_X14_⟩ hb_ hon hoff
                      refine ⟨_, rfl, fun K hK => ?_⟩
                      have e43 : a.tmps[43]? = some (.int .i64 t242) := by rw [ha]; exact (putSel_off rfl).trans rfl
                      replace ha := Aside0.mk ha
                      have BK241 := Aside0.mk (Q_BK241 (hoff 15 (by kernel_rfl)))
                      have BK265 := Aside0.mk Q_BK265
                      have HK := Aside0.mk Q_HK
                      have HB := Aside0.mk Q_HB
                      refine value_ (w1 := w') (v := .int .i64 (wrap64 (Int.tdiv t242 8))) (by rfl) rfl ?_ ?_
                      · go_simp
                        (try simp only [i64_w])
                        try rfl
                      refine hK.out _ _ ⟨v267, adz_v267, v276, v280, m4_, m12_, m14_, (by rw [ha.out]; exact putSel_upk 1 hb_ rfl rfl rfl), Q_HO263, Q_BK241, Q_BK265, Q_HI0, Q_HK, Q_HB, Q_HO268, Q_HA_HO268, Q_HO277, Q_HI0_e12, Q_HO281, fun h0_ => absurd ((hoff 15 (by kernel_rfl)).symm.trans h0_) (by decide), fun h0_ => absurd ((hoff 4 (by kernel_rfl)).symm.trans h0_) (by decide), Q_X12_, fun h0_ => absurd ((hoff 14 (by kernel_rfl)).symm.trans h0_) (by decide)⟩
                    refine steps_cons ?_ ?_
                    · rintro b a w' ⟨v267, adz_v267, v276, v280, m4_, m12_, m14_, ha, Q_HO263, Q_BK241, Q_BK265, Q_HI0, Q_HK, Q_HB, Q_HO268, Q_HA_HO268, Q_HO277, Q_HI0_e12, Q_HO281, Q_BK241_e15, Q_X4_, Q_X12_, Q_X14_⟩ hb_ hon hoff
                      refine ⟨_, rfl, fun K hK => ?_⟩
                      have e44 : a.tmps[44]? = some (.int .i64 (wrap64 (Int.tdiv t242 8))) := by rw [ha]; exact putSel_on (e := (2, 44, .int .i64 (wrap64 (Int.tdiv t242 8)))) 1 rfl rfl (hon 2 (by kernel_rfl)) rfl
                      replace ha := Aside0.mk ha
                      have BK241 := Aside0.mk (Q_BK241 (hoff 15 (by kernel_rfl)))
                      have BK265 := Aside0.mk Q_BK265
                      have HK := Aside0.mk Q_HK
                      have HB := Aside0.mk Q_HB
                      refine value_ (w1 := w') (v := .int .i64 ji23) (by rfl) rfl ?_ ?_
                      · go_simp
                        (try simp only [i64_w])
                        try rfl
                      refine hK.out _ _ ⟨v267, adz_v267, v276, v280, m4_, m12_, m14_, (by rw [ha.out]; exact putSel_upk 2 hb_ rfl rfl rfl), Q_HO263, Q_BK241, Q_BK265, Q_HI0, Q_HK, Q_HB, Q_HO268, Q_HA_HO268, Q_HO277, Q_HI0_e12, Q_HO281, fun h0_ => absurd ((hoff 15 (by kernel_rfl)).symm.trans h0_) (by decide), fun h0_ => absurd ((hoff 4 (by kernel_rfl)).symm.trans h0_) (by decide), Q_X12_, fun h0_ => absurd ((hoff 14 (by kernel_rfl)).symm.trans h0_) (by decide)⟩
                    refine steps_cons ?_ ?_
                    · rintro b a w' ⟨v267, adz_v267, v276, v280, m4_, m12_, m14_, ha, Q_HO263, Q_BK241, Q_BK265, Q_HI0, Q_HK, Q_HB, Q_HO268, Q_HA_HO268, Q_HO277, Q_HI0_e12, Q_HO281, Q_BK241_e15, Q_X4_, Q_X12_, Q_X14_⟩ hb_ hon hoff
                      refine ⟨_, rfl, fun K hK => ?_⟩
                      have e42 : a.tmps[42]? = some (v267) := by rw [ha]; exact putSel_on (e := (0, 42, v267)) 0 rfl rfl (hon 0 (by kernel_rfl)) rfl
                      have e45 : a.tmps[45]? = some (.int .i64 ji23) := by rw [ha]; exact putSel_on (e := (3, 45, .int .i64 ji23)) 2 rfl rfl (hon 3 (by kernel_rfl)) rfl
                      replace ha := Aside0.mk ha
                      have BK241 := Aside0.mk (Q_BK241 (hoff 15 (by kernel_rfl)))
                      have BK265 := Aside0.mk Q_BK265
                      have HK := Aside0.mk Q_HK
                      have HB := Aside0.mk Q_HB
                      have HO268 := Aside0.mk (Q_HO268 (hon 0 (by kernel_rfl)))
                      have HA_HO268 := Aside0.mk (Q_HA_HO268 (hon 0 (by kernel_rfl)))
                      obtain ⟨c_, hv_⟩ := HA_HO268.out
                      rw [hv_] at e42
                      refine value_ (w1 := w') (v := .pointer (some (adz_v267.add ((ji23)).toNat))) (by rfl) rfl ?_ ?_
                      · go_simp
                        (try simp only [i64_w])
                        try rfl
                      refine hK.out _ _ ⟨v267, adz_v267, v276, v280, (.pointer (some (adz_v267.add ((ji23)).toNat))), m12_, m14_, (by rw [ha.out]; exact putSel_upk 3 hb_ rfl rfl rfl), Q_HO263, Q_BK241, Q_BK265, Q_HI0, Q_HK, Q_HB, Q_HO268, Q_HA_HO268, Q_HO277, Q_HI0_e12, Q_HO281, fun h0_ => absurd ((hoff 15 (by kernel_rfl)).symm.trans h0_) (by decide), fun _ => rfl, Q_X12_, fun h0_ => absurd ((hoff 14 (by kernel_rfl)).symm.trans h0_) (by decide)⟩
                    refine steps_cons ?_ ?_
                    · rintro b a w' ⟨v267, adz_v267, v276, v280, m4_, m12_, m14_, ha, Q_HO263, Q_BK241, Q_BK265, Q_HI0, Q_HK, Q_HB, Q_HO268, Q_HA_HO268, Q_HO277, Q_HI0_e12, Q_HO281, Q_BK241_e15, Q_X4_, Q_X12_, Q_X14_⟩ hb_ hon hoff
                      refine ⟨_, rfl, fun K hK => ?_⟩
                      have e46 : a.tmps[46]? = some (m4_) := by rw [ha]; exact putSel_on (e := (4, 46, m4_)) 3 rfl rfl (hon 4 (by kernel_rfl)) rfl
                      rw [Q_X4_ (hon 4 (by kernel_rfl))] at e46
                      replace ha := Aside0.mk ha
                      have BK241 := Aside0.mk (Q_BK241 (hoff 15 (by kernel_rfl)))
                      have BK265 := Aside0.mk Q_BK265
                      have HK := Aside0.mk Q_HK
                      have HB := Aside0.mk Q_HB
                      have HO268 := Aside0.mk (Q_HO268 (hon 0 (by kernel_rfl)))
                      have HA_HO268 := Aside0.mk (Q_HA_HO268 (hon 0 (by kernel_rfl)))
                      obtain ⟨c_, hv_⟩ := HA_HO268.out
                      have hF_ := HO268.out
                      rw [hv_] at hF_
                      obtain ⟨ad_, ea_, hx_⟩ := Kd.at_string (Kd.R_reads' hF_).2.2 (ji23) (of_eq_true pi269) (of_eq_true qi269)
                      cases ea_
                      refine value_ (w1 := w') (v := .string (rdOf ByteArray.empty y266 (ji23))) (by rfl) rfl ?_ ?_
                      · go_simp
                        (try simp only [i64_w])
                        try rfl
                      refine hK.out _ _ ⟨v267, adz_v267, v276, v280, m4_, m12_, m14_, (by rw [ha.out]; exact putSel_upk 4 hb_ rfl rfl rfl), Q_HO263, Q_BK241, Q_BK265, Q_HI0, Q_HK, Q_HB, Q_HO268, Q_HA_HO268, Q_HO277, Q_HI0_e12, Q_HO281, fun h0_ => absurd ((hoff 15 (by kernel_rfl)).symm.trans h0_) (by decide), Q_X4_, Q_X12_, fun h0_ => absurd ((hoff 14 (by kernel_rfl)).symm.trans h0_) (by decide)⟩
                    refine steps_cons ?_ ?_
                    · rintro b a w' ⟨v267, adz_v267, v276, v280, m4_, m12_, m14_, ha, Q_HO263, Q_BK241, Q_BK265, Q_HI0, Q_HK, Q_HB, Q_HO268, Q_HA_HO268, Q_HO277, Q_HI0_e12, Q_HO281, Q_BK241_e15, Q_X4_, Q_X12_, Q_X14_⟩ hb_ hon hoff
                      refine ⟨_, rfl, fun K hK => ?_⟩
                      have e10 : a.tmps[10]? = some (.pointer (some ⟨gb265, 0, none⟩)) := by rw [ha]; exact (putSel_off rfl).trans rfl
                      replace ha := Aside0.mk ha
                      have HO263 := Aside0.mk (Q_HO263 (hoff 13 (by kernel_rfl)))
                      have BK241 := Aside0.mk (Q_BK241 (hoff 15 (by kernel_rfl)))
                      have BK265 := Aside0.mk Q_BK265
                      have HK := Aside0.mk Q_HK
                      have HB := Aside0.mk Q_HB
                      have hc0_ : w'.cell? ⟨gb265, 0, none⟩ = some (.int .i64 t256) := (blk_cell BK265.out 0).trans rfl
                      have hc1_ : w'.cell? ⟨gb265, 1, none⟩ = some (.string t257) := (blk_cell BK265.out 1).trans rfl
                      have hc2_ : w'.cell? ⟨gb265, 2, none⟩ = some (.int .i64 t258) := (blk_cell BK265.out 2).trans rfl
                      have hc3_ : w'.cell? ⟨gb265, 3, none⟩ = some (.string t259) := (blk_cell BK265.out 3).trans rfl
                      have hc4_ : w'.cell? ⟨gb265, 4, none⟩ = some (.string t260) := (blk_cell BK265.out 4).trans rfl
                      have hc5_ : w'.cell? ⟨gb265, 5, none⟩ = some (.slice Ao32 t261.length co32) := (blk_cell BK265.out 5).trans rfl
                      refine value_ (w1 := w') (v := .agg #[.int .i64 t256, .string t257, .int .i64 t258, .string t259, .string t260, .slice Ao32 t261.length co32]) (by rfl) rfl ?_ ?_
                      · go_simp
                        (try simp only [i64_w])
                        try rfl
                      refine hK.out _ _ ⟨v267, adz_v267, v276, v280, m4_, m12_, m14_, (by rw [ha.out]; exact putSel_upk 5 hb_ rfl rfl rfl), Q_HO263, Q_BK241, Q_BK265, Q_HI0, Q_HK, Q_HB, Q_HO268, Q_HA_HO268, Q_HO277, Q_HI0_e12, fun h0_ => absurd ((hoff 13 (by kernel_rfl)).symm.trans h0_) (by decide), fun h0_ => absurd ((hoff 15 (by kernel_rfl)).symm.trans h0_) (by decide), Q_X4_, Q_X12_, fun h0_ => absurd ((hoff 14 (by kernel_rfl)).symm.trans h0_) (by decide)⟩
                    refine steps_cons ?_ ?_
                    · rintro b a w' ⟨v267, adz_v267, v276, v280, m4_, m12_, m14_, ha, Q_HO263, Q_BK241, Q_BK265, Q_HI0, Q_HK, Q_HB, Q_HO268, Q_HA_HO268, Q_HO277, Q_HI0_e12, Q_HO281, Q_BK241_e15, Q_X4_, Q_X12_, Q_X14_⟩ hb_ hon hoff
                      refine ⟨_, rfl, fun K hK => ?_⟩
                      have e52 : a.tmps[52]? = some (.int .i64 a3) := by rw [ha]; exact (putSel_off rfl).trans rfl
                      replace ha := Aside0.mk ha
                      have HO263 := Aside0.mk (Q_HO263 (hoff 13 (by kernel_rfl)))
                      have BK241 := Aside0.mk (Q_BK241 (hoff 15 (by kernel_rfl)))
                      have BK265 := Aside0.mk Q_BK265
                      have HI0 := Aside0.mk (Q_HI0 (hoff 12 (by kernel_rfl)))
                      have HK := Aside0.mk Q_HK
                      have HB := Aside0.mk Q_HB
                      refine value_ (w1 := w') (v := .int .i64 (wrap64 (a3 - 1))) (by rfl) rfl ?_ ?_
                      · go_simp
                        (try simp only [i64_w])
                        try rfl
                      refine hK.out _ _ ⟨v267, adz_v267, v276, v280, m4_, m12_, m14_, (by rw [ha.out]; exact putSel_upk 6 hb_ rfl rfl rfl), Q_HO263, Q_BK241, Q_BK265, Q_HI0, Q_HK, Q_HB, Q_HO268, Q_HA_HO268, fun h0_ _ => absurd ((hoff 12 (by kernel_rfl)).symm.trans h0_) (by decide), fun h0_ => absurd ((hoff 12 (by kernel_rfl)).symm.trans h0_) (by decide), fun h0_ => absurd ((hoff 13 (by kernel_rfl)).symm.trans h0_) (by decide), fun h0_ => absurd ((hoff 15 (by kernel_rfl)).symm.trans h0_) (by decide), Q_X4_, fun h0_ => absurd ((hoff 12 (by kernel_rfl)).symm.trans h0_) (by decide), fun h0_ => absurd ((hoff 14 (by kernel_rfl)).symm.trans h0_) (by decide)⟩
                    refine steps_cons ?_ ?_
                    · rintro b a w' ⟨v267, adz_v267, v276, v280, m4_, m12_, m14_, ha, Q_HO263, Q_BK241, Q_BK265, Q_HI0, Q_HK, Q_HB, Q_HO268, Q_HA_HO268, Q_HO277, Q_HI0_e12, Q_HO281, Q_BK241_e15, Q_X4_, Q_X12_, Q_X14_⟩ hb_ hon hoff
                      refine ⟨_, rfl, fun K hK => ?_⟩
                      have e49 : a.tmps[49]? = some (.pointer (some ⟨g, 0, none⟩)) := by rw [ha]; exact (putSel_off rfl).trans rfl
                      have e50 : a.tmps[50]? = some (.string a1) := by rw [ha]; exact (putSel_off rfl).trans rfl
                      have e51 : a.tmps[51]? = some (.string a2) := by rw [ha]; exact (putSel_off rfl).trans rfl
                      have e53 : a.tmps[53]? = some (.int .i64 (wrap64 (a3 - 1))) := by rw [ha]; exact putSel_on (e := (11, 53, .int .i64 (wrap64 (a3 - 1)))) 6 rfl rfl (hon 11 (by kernel_rfl)) rfl
                      replace ha := Aside0.mk ha
                      have HO263 := Aside0.mk (Q_HO263 (hoff 13 (by kernel_rfl)))
                      have BK241 := Aside0.mk (Q_BK241 (hoff 15 (by kernel_rfl)))
                      have BK265 := Aside0.mk Q_BK265
                      have HI0 := Aside0.mk (Q_HI0 hb_)
                      have HK := Aside0.mk Q_HK
                      have HB := Aside0.mk Q_HB
                      refine goes_ Tryd.func11 (by kernel_rfl) rfl #[.pointer (some ⟨g, 0, none⟩), .string a1, .string a2, .int .i64 (wrap64 (a3 - 1))] (by rfl) rfl rfl (by first | (simp only [List.map_toArray, List.map_cons, List.map_nil, Act.eval, Array.getD_eq_getD_getElem?, Option.getD_some, e49, e50, e51, e53]; done) | (simp only [List.map_toArray, List.map_cons, List.map_nil, Act.eval, Array.getD_eq_getD_getElem?, Option.getD_some, e49, e50, e51, e53]; rfl)) ?_
                      with_reducible refine (ih kj18 (by have := HJ5.out; have := HJ18.out; omega) g s0_0 t264 s0_2 s0_3 a1 a2 (wrap64 (a3 - 1)) t270 t271 t272 t273 t274 t275 t278 w0 _ ?side1 ?side2 A26.out).mono ?_
                      (case side1 => repeat (first | (with_reducible first | exact HI0.out | apply IsS32.alloc | apply IsS32.drewN | apply IsS32.drew | apply IsS32.set_1 | refine IsS32.far ?_ NB0_241.out _ | refine IsS32.far ?_ NB0_265.out _) | exact HI0.out))
                      (case side2 => repeat (first | (with_reducible first | exact HB.out | apply below_alloc | apply pw_below_drewN | apply below_drew1 | refine below_set ?_ (IsS32.ge HI0.out) | refine below_set ?_ GE241.out | refine below_set ?_ GE265.out) | exact HB.out))
                      rintro e w35 ⟨v276, rfl, ho0, hi, hb, hk⟩
                      refine ⟨_, rfl, ?_⟩
                      have n0_ := Aside0.mk (KeepBut.blk hk (g' := gb241) (o := .cells #[.int .i64 0, .string (⟨#[]⟩ : ByteArray), .int .i64 0, .string (⟨#[]⟩ : ByteArray), .string (⟨#[]⟩ : ByteArray), .slice none 0 0] 24 (0, 0)) (by (with_reducible repeat (first | refine blk_drewN ?_ _ | refine blk_drew ?_ | refine blk_alloc ?_ _)); exact BK241.out) NB241_0.out (by simp))
                      have n1_ := Aside0.mk (Kd.N_mono (Kd.N_told (Kd.N_oldK (Kd.N_mono (ok := fun k_ => (((w.heap.size ≤ k_)) ∧ (k_ ≠ gb241 ∧ (k_ ≠ g ∧ k_ ≠ gb265)))) (by (with_reducible repeat (first | apply Kd.N_alloc | apply Kd.N_drewN | apply Kd.N_drew)); exact Kd.N_mono HO263.out (fun _ hk_ => (by first | omega | (dsimp only at *; omega) | (simp_all; done)))) (fun k_ hk_ => (⟨hk_, hk_.2.2.1⟩ : _ ∧ k_ ≠ g))) hk) (Kd.N_base ho0)) (fun _ h_ => h_.1))
                      have n2_ := Aside0.mk (KeepBut.blk hk (g' := gb265) (o := .cells #[.int .i64 t256, .string t257, .int .i64 t258, .string t259, .string t260, .slice Ao32 t261.length co32] 24 (0, 0)) (by (with_reducible repeat (first | refine blk_drewN ?_ _ | refine blk_drew ?_ | refine blk_alloc ?_ _)); exact BK265.out) NB265_0.out (by simp))
                      have n3_ := Aside0.mk (Kd.N_lower (Kd.N_mono (ok' := fun k_ => (w.heap.size ≤ k_) ∧ some k_ ≠ (.slice Ao32 t261.length co32 : Value).ownBlock ∧ k_ ≠ gb241 ∧ k_ ≠ gb265 ∧ k_ ≠ g) ho0 (fun k_ hk_ => ⟨(Nat.le_trans (keep_size (w := w) (g := g) (row := none) (by repeat (first | (with_reducible first | exact HK.out | apply KeepBut.set_ | apply keep_drewN | apply keep_drew | apply keep_alloc | refine keep_far ?_ GW241.out _ | refine keep_far ?_ GW265.out _) | exact HK.out))) hk_), (Kd.fresh' (Kd.N_lt (by (with_reducible repeat (first | apply Kd.N_alloc | apply Kd.N_drewN | apply Kd.N_drew)); exact HO263.out)) k_ hk_), (Kd.freshB (g := gb241) (o := .cells #[.int .i64 0, .string (⟨#[]⟩ : ByteArray), .int .i64 0, .string (⟨#[]⟩ : ByteArray), .string (⟨#[]⟩ : ByteArray), .slice none 0 0] 24 (0, 0)) (by (with_reducible repeat (first | refine blk_drewN ?_ _ | refine blk_drew ?_ | refine blk_alloc ?_ _)); exact BK241.out) k_ hk_), (Kd.freshB (g := gb265) (o := .cells #[.int .i64 t256, .string t257, .int .i64 t258, .string t259, .string t260, .slice Ao32 t261.length co32] 24 (0, 0)) (by (with_reducible repeat (first | refine blk_drewN ?_ _ | refine blk_drew ?_ | refine blk_alloc ?_ _)); exact BK265.out) k_ hk_), (IsS32.fresh (by repeat (first | (with_reducible first | exact HI0.out | apply IsS32.alloc | apply IsS32.drewN | apply IsS32.drew | apply IsS32.set_1 | refine IsS32.far ?_ NB0_241.out _ | refine IsS32.far ?_ NB0_265.out _) | exact HI0.out)) k_ hk_)⟩)) (keep_size (w := w) (g := g) (row := none) (by repeat (first | (with_reducible first | exact HK.out | apply KeepBut.set_ | apply keep_drewN | apply keep_drew | apply keep_alloc | refine keep_far ?_ GW241.out _ | refine keep_far ?_ GW265.out _) | exact HK.out))))
                      have n4_ := Aside0.mk (KeepBut.trans (by repeat (first | (with_reducible first | exact HK.out | apply KeepBut.set_ | apply keep_drewN | apply keep_drew | apply keep_alloc | refine keep_far ?_ GW241.out _ | refine keep_far ?_ GW265.out _) | exact HK.out)) hk (.inl rfl))
                      have n5_ := Aside0.mk (hb)
                      have n6_ := Aside0.mk (hi)
                      have z_HO268 := fun (h0_ : b 0 = true) => (show Kd.R Kd.string 9 w35 w.heap.size (fun k_ => (w.heap.size ≤ k_)) v267 y266 from by first | exact (Kd.R_mono (Kd.R_keep (IsS32.apart (show IsS32 w0 _ g s0_0 t264 s0_2 s0_3 from by repeat (first | (with_reducible first | exact HI0.out | apply IsS32.alloc | apply IsS32.drewN | apply IsS32.drew | apply IsS32.set_1 | refine IsS32.far ?_ NB0_241.out _ | refine IsS32.far ?_ NB0_265.out _) | exact HI0.out)) (by (with_reducible repeat (first | apply Kd.R_alloc | apply Kd.R_drewN | apply Kd.R_drew)); exact (Q_HO268 h0_)) (by decide)) hk (fun _ h => h.2)) (fun _ h => h.1)) | exact Kd.R_mono (Kd.R_mono (Kd.R_keep (IsS32.apart (show IsS32 w0 _ g s0_0 t264 s0_2 s0_3 from by repeat (first | (with_reducible first | exact HI0.out | apply IsS32.alloc | apply IsS32.drewN | apply IsS32.drew | apply IsS32.set_1 | refine IsS32.far ?_ NB0_241.out _ | refine IsS32.far ?_ NB0_265.out _) | exact HI0.out)) (by (with_reducible repeat (first | apply Kd.R_alloc | apply Kd.R_drewN | apply Kd.R_drew)); exact (Q_HO268 h0_)) (by decide)) hk (fun _ h => h.2)) (fun _ h => h.1)) (fun _ h_ => by first | trivial | exact h_ | exact h_.1))
                      clear BK241
                      clear HO263
                      clear BK265
                      clear HK
                      clear HB
                      clear HI0
                      have BK241 := n0_
                      have HO263 := n1_
                      have BK265 := n2_
                      have HO277 := n3_
                      have HK := n4_
                      have HB := n5_
                      have HI0 := n6_
                      clear n0_ n1_ n2_ n3_ n4_ n5_ n6_
                      (try clear hb)
                      (try clear hb2)
                      (try clear hk)
                      (try clear hi)
                      (try clear ho0)
                      refine hK.out _ _ ⟨v267, adz_v267, v276, v280, m4_, (.agg #[.int .i64 t270, .string t271, .int .i64 t272, .string t273, .string t274, v276]), m14_, (by rw [ha.out]; exact putSel_upk 7 hb_ rfl rfl rfl), fun _ => (by (with_reducible repeat (first | apply Kd.N_alloc | apply Kd.N_drewN | apply Kd.N_drew)); exact Kd.N_mono HO263.out (fun _ hk => (by first | omega | (dsimp only at *; omega) | (simp_all; done)))), fun _ => (by (with_reducible repeat (first | refine blk_drewN ?_ _ | refine blk_drew ?_ | refine blk_alloc ?_ _)); exact BK241.out), (by (with_reducible repeat (first | refine blk_drewN ?_ _ | refine blk_drew ?_ | refine blk_alloc ?_ _)); exact BK265.out), fun h0_ => absurd ((up_self b 12).symm.trans h0_) (by decide), (by repeat (first | (with_reducible first | exact HK.out | apply KeepBut.set_ | apply keep_drewN | apply keep_drew | apply keep_alloc | refine keep_far ?_ GW241.out _ | refine keep_far ?_ GW265.out _) | exact HK.out)), (by repeat (first | (with_reducible first | exact HB.out | apply below_alloc | apply pw_below_drewN | apply below_drew1 | refine below_set ?_ (IsS32.ge HI0.out) | refine below_set ?_ GE241.out | refine below_set ?_ GE265.out) | exact HB.out)), z_HO268, Q_HA_HO268, fun _ _ => (by (with_reducible repeat (first | apply Kd.N_alloc | apply Kd.N_drewN | apply Kd.N_drew)); exact Kd.N_mono HO277.out (fun _ hk => (by first | omega | (dsimp only at *; omega) | (simp_all; done)))), fun _ => (by repeat (first | (with_reducible first | exact HI0.out | apply IsS32.alloc | apply IsS32.drewN | apply IsS32.drew | apply IsS32.set_1 | refine IsS32.far ?_ NB0_241.out _ | refine IsS32.far ?_ NB0_265.out _) | exact HI0.out)), fun h0_ => absurd ((hoff 13 (by kernel_rfl)).symm.trans h0_) (by decide), fun h0_ => absurd ((hoff 15 (by kernel_rfl)).symm.trans h0_) (by decide), Q_X4_, fun _ => rfl, fun h0_ => absurd ((hoff 14 (by kernel_rfl)).symm.trans h0_) (by decide)⟩
                    refine steps_cons ?_ ?_
                    · rintro b a w' ⟨v267, adz_v267, v276, v280, m4_, m12_, m14_, ha, Q_HO263, Q_BK241, Q_BK265, Q_HI0, Q_HK, Q_HB, Q_HO268, Q_HA_HO268, Q_HO277, Q_HI0_e12, Q_HO281, Q_BK241_e15, Q_X4_, Q_X12_, Q_X14_⟩ hb_ hon hoff
                      refine ⟨_, rfl, fun K hK => ?_⟩
                      have e48 : a.tmps[48]? = some (.agg #[.int .i64 t256, .string t257, .int .i64 t258, .string t259, .string t260, .slice Ao32 t261.length co32]) := by rw [ha]; exact putSel_on (e := (6, 48, .agg #[.int .i64 t256, .string t257, .int .i64 t258, .string t259, .string t260, .slice Ao32 t261.length co32])) 5 rfl rfl (hon 6 (by kernel_rfl)) rfl
                      have e54 : a.tmps[54]? = some (m12_) := by rw [ha]; exact putSel_on (e := (12, 54, m12_)) 7 rfl rfl (hon 12 (by kernel_rfl)) rfl
                      rw [Q_X12_ (hon 12 (by kernel_rfl))] at e54
                      replace ha := Aside0.mk ha
                      have HO263 := Aside0.mk (Q_HO263 hb_)
                      have BK241 := Aside0.mk (Q_BK241 (hoff 15 (by kernel_rfl)))
                      have BK265 := Aside0.mk Q_BK265
                      have HK := Aside0.mk Q_HK
                      have HB := Aside0.mk Q_HB
                      have HO277 := Aside0.mk (Q_HO277 (hon 12 (by kernel_rfl)) hb_)
                      have HI0 := Aside0.mk (Q_HI0_e12 (hon 12 (by kernel_rfl)))
                      obtain ⟨Ao37, co37, eo37⟩ := Kd.N_slice HO277.out
                      (first | subst eo37 | (injection eo37 with f1_ f2_ f3_; have f4_ := f1_.symm; have f5_ := f3_.symm; clear f1_ f2_ f3_; subst f4_; subst f5_))
                      refine Kd.N_lit_step k24 _ 24 ?hg (N' := 55) ?hd (xs := ([(⟨t256, t257, t258, t259, t260, t261⟩ : S24), (⟨t270, t271, t272, t273, t274, t275⟩ : S24)] : List (S24))) (inner := [.int .i64 t256, .string t257, .int .i64 t258, .string t259, .string t260, .slice Ao32 t261.length co32, .int .i64 t270, .string t271, .int .i64 t272, .string t273, .string t274, .slice Ao37 t275.length co37]) (ok := (fun k_ => (w.heap.size ≤ k_) ∧ k_ ≠ gb241 ∧ k_ ≠ gb265 ∧ k_ ≠ g)) (okp := (fun k_ => (w.heap.size ≤ k_) ∧ k_ ≠ gb241 ∧ k_ ≠ gb265 ∧ k_ ≠ g)) ?hr ?hp (fun _ hk => hk) ((show ∀ k_, w'.heap.size ≤ k_ → (fun k_ => (w.heap.size ≤ k_) ∧ k_ ≠ gb241 ∧ k_ ≠ gb265 ∧ k_ ≠ g) k_ from fun k_ hk => ⟨(Nat.le_trans (keep_size (w := w) (g := g) (row := none) (by repeat (first | (with_reducible first | exact HK.out | apply KeepBut.set_ | apply keep_drewN | apply keep_drew | apply keep_alloc | refine keep_far ?_ GW241.out _ | refine keep_far ?_ GW265.out _) | exact HK.out))) hk), Kd.freshB (g := gb241) (o := .cells #[.int .i64 0, .string (⟨#[]⟩ : ByteArray), .int .i64 0, .string (⟨#[]⟩ : ByteArray), .string (⟨#[]⟩ : ByteArray), .slice none 0 0] 24 (0, 0)) (by (with_reducible repeat (first | refine blk_drewN ?_ _ | refine blk_drew ?_ | refine blk_alloc ?_ _)); exact BK241.out) k_ hk, Kd.freshB (g := gb265) (o := .cells #[.int .i64 t256, .string t257, .int .i64 t258, .string t259, .string t260, .slice Ao32 t261.length co32] 24 (0, 0)) (by (with_reducible repeat (first | refine blk_drewN ?_ _ | refine blk_drew ?_ | refine blk_alloc ?_ _)); exact BK265.out) k_ hk, IsS32.fresh (by repeat (first | (with_reducible first | exact HI0.out | apply IsS32.alloc | apply IsS32.drewN | apply IsS32.drew | apply IsS32.set_1 | refine IsS32.far ?_ NB0_241.out _ | refine IsS32.far ?_ NB0_265.out _) | exact HI0.out)) k_ hk⟩) _ (Nat.le_refl _)) (Below.refl _ _) (Nat.le_refl _) (by simp) ?_; (case hd => rfl); (case hg => rfl); (case hr => first | (go_simp; done) | (go_simp; rfl)); (case hp => exact (Reps.c6 (show Kd.FK k24 _ _ (⟨t256, t257, t258, t259, t260, t261⟩ : S24) [.int .i64 t256, .string t257, .int .i64 t258, .string t259, .string t260, .slice Ao32 t261.length co32] from (k24_mkF _ _ (⟨t256, t257, t258, t259, t260, t261⟩ : S24) (Kd.N_reads' (Kd.N_mono (ok' := (fun k_ => (w.heap.size ≤ k_) ∧ k_ ≠ gb241 ∧ k_ ≠ gb265 ∧ k_ ≠ g)) (HO263.out) (fun k_ hk => (by first | omega | (dsimp only at *; omega) | (simp_all; done))))).2.1 (Kd.N_F (Kd.N_mono (ok' := (fun k_ => (w.heap.size ≤ k_) ∧ k_ ≠ gb241 ∧ k_ ≠ gb265 ∧ k_ ≠ g)) (HO263.out) (fun k_ hk => (by first | omega | (dsimp only at *; omega) | (simp_all; done))))))) (Reps.c6 (show Kd.FK k24 _ _ (⟨t270, t271, t272, t273, t274, t275⟩ : S24) [.int .i64 t270, .string t271, .int .i64 t272, .string t273, .string t274, .slice Ao37 t275.length co37] from (k24_mkF _ _ (⟨t270, t271, t272, t273, t274, t275⟩ : S24) (Kd.N_reads' (Kd.N_mono (ok' := (fun k_ => (w.heap.size ≤ k_) ∧ k_ ≠ gb241 ∧ k_ ≠ gb265 ∧ k_ ≠ g)) (HO277.out) (fun k_ hk => (by first | omega | (dsimp only at *; omega) | (simp_all; done))))).2.1 (Kd.N_F (Kd.N_mono (ok' := (fun k_ => (w.heap.size ≤ k_) ∧ k_ ≠ gb241 ∧ k_ ≠ gb265 ∧ k_ ≠ g)) (HO277.out) (fun k_ hk => (by first | omega | (dsimp only at *; omega) | (simp_all; done))))))) (Reps.none _ _))))
                      intro v280 w38 ho39 hb hg_ hnew_
                      clear hg_ hnew_
                      (first | rw [← Ny279.out] at ho39 | (simp only [Int.reduceToNat] at ho39; rw [← Ny279.out] at ho39))
                      have n0_ := Aside0.mk (Kd.N_lower ho39 (keep_size (w := w) (g := g) (row := none) (by repeat (first | (with_reducible first | exact HK.out | apply KeepBut.set_ | apply keep_drewN | apply keep_drew | apply keep_alloc | refine keep_far ?_ GW241.out _ | refine keep_far ?_ GW265.out _) | exact HK.out))))
                      have n1_ := Aside0.mk (blk_below (g := gb241) (o := .cells #[.int .i64 0, .string (⟨#[]⟩ : ByteArray), .int .i64 0, .string (⟨#[]⟩ : ByteArray), .string (⟨#[]⟩ : ByteArray), .slice none 0 0] 24 (0, 0)) (by (with_reducible repeat (first | refine blk_drewN ?_ _ | refine blk_drew ?_ | refine blk_alloc ?_ _)); exact BK241.out) hb)
                      have n2_ := Aside0.mk (IsS32.below (by repeat (first | (with_reducible first | exact HI0.out | apply IsS32.alloc | apply IsS32.drewN | apply IsS32.drew | apply IsS32.set_1 | refine IsS32.far ?_ NB0_241.out _ | refine IsS32.far ?_ NB0_265.out _) | exact HI0.out)) hb)
                      have n3_ := Aside0.mk (blk_below (g := gb265) (o := .cells #[.int .i64 t256, .string t257, .int .i64 t258, .string t259, .string t260, .slice Ao32 t261.length co32] 24 (0, 0)) (by (with_reducible repeat (first | refine blk_drewN ?_ _ | refine blk_drew ?_ | refine blk_alloc ?_ _)); exact BK265.out) hb)
                      have n4_ := Aside0.mk (KeepBut.trans (by repeat (first | (with_reducible first | exact HK.out | apply KeepBut.set_ | apply keep_drewN | apply keep_drew | apply keep_alloc | refine keep_far ?_ GW241.out _ | refine keep_far ?_ GW265.out _) | exact HK.out)) (KeepBut.of_below hb g none) (.inl rfl))
                      have n5_ := Aside0.mk (below_step (by repeat (first | (with_reducible first | exact HB.out | apply below_alloc | apply pw_below_drewN | apply below_drew1 | refine below_set ?_ (IsS32.ge HI0.out) | refine below_set ?_ GE241.out | refine below_set ?_ GE265.out) | exact HB.out)) hb)
                      have z_HO268 := fun (h0_ : b 0 = true) => (show Kd.R Kd.string 9 w38 w.heap.size (fun k_ => (w.heap.size ≤ k_)) v267 y266 from by first | exact (Kd.R_below (by (with_reducible repeat (first | apply Kd.R_alloc | apply Kd.R_drewN | apply Kd.R_drew)); exact (Q_HO268 h0_)) hb) | exact Kd.R_mono (Kd.R_below (by (with_reducible repeat (first | apply Kd.R_alloc | apply Kd.R_drewN | apply Kd.R_drew)); exact (Q_HO268 h0_)) hb) (fun _ h_ => by first | trivial | exact h_ | exact h_.1))
                      clear BK241
                      clear HI0
                      clear BK265
                      clear HK
                      clear HB
                      clear HO263
                      clear HO277
                      have HO281 := n0_
                      have BK241 := n1_
                      have HI0 := n2_
                      have BK265 := n3_
                      have HK := n4_
                      have HB := n5_
                      clear n0_ n1_ n2_ n3_ n4_ n5_
                      clear hb ho39
                      refine hK.out _ _ ⟨v267, adz_v267, .slice Ao37 t275.length co37, v280, m4_, m12_, m14_, (by rw [ha.out]; exact putSel_upk 8 hb_ rfl rfl rfl), fun h0_ => absurd ((up_self b 13).symm.trans h0_) (by decide), fun _ => (by (with_reducible repeat (first | refine blk_drewN ?_ _ | refine blk_drew ?_ | refine blk_alloc ?_ _)); exact BK241.out), (by (with_reducible repeat (first | refine blk_drewN ?_ _ | refine blk_drew ?_ | refine blk_alloc ?_ _)); exact BK265.out), fun h0_ => absurd ((hon 12 (by kernel_rfl)).symm.trans h0_) (by decide), (by repeat (first | (with_reducible first | exact HK.out | apply KeepBut.set_ | apply keep_drewN | apply keep_drew | apply keep_alloc | refine keep_far ?_ GW241.out _ | refine keep_far ?_ GW265.out _) | exact HK.out)), (by repeat (first | (with_reducible first | exact HB.out | apply below_alloc | apply pw_below_drewN | apply below_drew1 | refine below_set ?_ (IsS32.ge HI0.out) | refine below_set ?_ GE241.out | refine below_set ?_ GE265.out) | exact HB.out)), z_HO268, Q_HA_HO268, fun _ h1_ => absurd ((up_self b 13).symm.trans h1_) (by decide), fun _ => (by repeat (first | (with_reducible first | exact HI0.out | apply IsS32.alloc | apply IsS32.drewN | apply IsS32.drew | apply IsS32.set_1 | refine IsS32.far ?_ NB0_241.out _ | refine IsS32.far ?_ NB0_265.out _) | exact HI0.out)), fun _ => (by (with_reducible repeat (first | apply Kd.N_alloc | apply Kd.N_drewN | apply Kd.N_drew)); exact Kd.N_mono HO281.out (fun _ hk => ⟨hk.1, ⟨hk.2.2.2, ⟨hk.2.1, hk.2.2.1⟩⟩⟩)), fun h0_ => absurd ((hoff 15 (by kernel_rfl)).symm.trans h0_) (by decide), Q_X4_, Q_X12_, fun h0_ => absurd ((hoff 14 (by kernel_rfl)).symm.trans h0_) (by decide)⟩
                    refine steps_cons ?_ ?_
                    · rintro b a w' ⟨v267, adz_v267, v276, v280, m4_, m12_, m14_, ha, Q_HO263, Q_BK241, Q_BK265, Q_HI0, Q_HK, Q_HB, Q_HO268, Q_HA_HO268, Q_HO277, Q_HI0_e12, Q_HO281, Q_BK241_e15, Q_X4_, Q_X12_, Q_X14_⟩ hb_ hon hoff
                      refine ⟨_, rfl, fun K hK => ?_⟩
                      have e47 : a.tmps[47]? = some (.string (rdOf ByteArray.empty y266 (ji23))) := by rw [ha]; exact putSel_on (e := (5, 47, .string (rdOf ByteArray.empty y266 (ji23)))) 4 rfl rfl (hon 5 (by kernel_rfl)) rfl
                      have e55 : a.tmps[55]? = some (v280) := by rw [ha]; exact putSel_on (e := (13, 55, v280)) 8 rfl rfl (hon 13 (by kernel_rfl)) rfl
                      replace ha := Aside0.mk ha
                      have BK241 := Aside0.mk (Q_BK241 (hoff 15 (by kernel_rfl)))
                      have BK265 := Aside0.mk Q_BK265
                      have HK := Aside0.mk Q_HK
                      have HB := Aside0.mk Q_HB
                      have HO268 := Aside0.mk (Q_HO268 (hon 0 (by kernel_rfl)))
                      have HA_HO268 := Aside0.mk (Q_HA_HO268 (hon 0 (by kernel_rfl)))
                      have HI0 := Aside0.mk (Q_HI0_e12 (hon 12 (by kernel_rfl)))
                      have HO281 := Aside0.mk (Q_HO281 (hon 13 (by kernel_rfl)))
                      obtain ⟨Ao14_0, co14_0, eo_⟩ := Kd.N_slice HO281.out
                      subst eo_
                      refine value_ (w1 := w') (v := .agg #[.int .i64 3, .string (rdOf ByteArray.empty y266 (ji23)), .int .i64 0, .string (⟨#[]⟩ : ByteArray), .string (⟨#[]⟩ : ByteArray), .slice Ao14_0 y279.length co14_0]) (by rfl) rfl ?_ ?_
                      · go_simp
                        (try simp only [i64_w])
                        try rfl
                      refine hK.out _ _ ⟨v267, adz_v267, v276, .slice Ao14_0 y279.length co14_0, m4_, m12_, (.agg #[.int .i64 3, .string (rdOf ByteArray.empty y266 (ji23)), .int .i64 0, .string (⟨#[]⟩ : ByteArray), .string (⟨#[]⟩ : ByteArray), .slice Ao14_0 y279.length co14_0]), (by rw [ha.out]; exact putSel_upk 9 hb_ rfl rfl rfl), fun h0_ => absurd ((hon 13 (by kernel_rfl)).symm.trans h0_) (by decide), Q_BK241, Q_BK265, fun h0_ => absurd ((hon 12 (by kernel_rfl)).symm.trans h0_) (by decide), Q_HK, Q_HB, Q_HO268, Q_HA_HO268, fun _ h1_ => absurd ((hon 13 (by kernel_rfl)).symm.trans h1_) (by decide), Q_HI0_e12, Q_HO281, fun h0_ => absurd ((hoff 15 (by kernel_rfl)).symm.trans h0_) (by decide), Q_X4_, Q_X12_, fun _ => rfl⟩
                    refine steps_cons ?_ ?_
                    · rintro b a w' ⟨v267, adz_v267, v276, v280, m4_, m12_, m14_, ha, Q_HO263, Q_BK241, Q_BK265, Q_HI0, Q_HK, Q_HB, Q_HO268, Q_HA_HO268, Q_HO277, Q_HI0_e12, Q_HO281, Q_BK241_e15, Q_X4_, Q_X12_, Q_X14_⟩ hb_ hon hoff
                      refine ⟨_, rfl, fun K hK => ?_⟩
                      have e8 : a.tmps[8]? = some (.pointer (some ⟨gb241, 0, none⟩)) := by rw [ha]; exact (putSel_off rfl).trans rfl
                      have e56 : a.tmps[56]? = some (m14_) := by rw [ha]; exact putSel_on (e := (14, 56, m14_)) 9 rfl rfl (hon 14 (by kernel_rfl)) rfl
                      rw [Q_X14_ (hon 14 (by kernel_rfl))] at e56
                      replace ha := Aside0.mk ha
                      have BK241 := Aside0.mk (Q_BK241 hb_)
                      have BK265 := Aside0.mk Q_BK265
                      have HK := Aside0.mk Q_HK
                      have HB := Aside0.mk Q_HB
                      have HO268 := Aside0.mk (Q_HO268 (hon 0 (by kernel_rfl)))
                      have HA_HO268 := Aside0.mk (Q_HA_HO268 (hon 0 (by kernel_rfl)))
                      have HI0 := Aside0.mk (Q_HI0_e12 (hon 12 (by kernel_rfl)))
                      have HO281 := Aside0.mk (Q_HO281 (hon 13 (by kernel_rfl)))
                      obtain ⟨co44, eo44⟩ := HA_HO268.out
                      clear HA_HO268
                      subst eo44
                      obtain ⟨Ao45, co45, eo45⟩ := Kd.N_slice HO281.out
                      (first | subst eo45 | (injection eo45 with f1_ f2_ f3_; have f4_ := f1_.symm; have f5_ := f3_.symm; clear f1_ f2_ f3_; subst f4_; subst f5_))
                      have hs46 : w'.cell? ⟨gb241, 0, none⟩ = some (.int .i64 0) := (blk_cell BK241.out 0).trans rfl
                      have hfs46 := blk_frozen BK241.out 0
                      have hns46_1 := NB265_241.out
                      have hms46_1 := NB241_265.out
                      have hs47 : w'.cell? ⟨gb241, 1, none⟩ = some (.string (⟨#[]⟩ : ByteArray)) := (blk_cell BK241.out 1).trans rfl
                      have hfs47 := blk_frozen BK241.out 1
                      have hns47_1 := NB265_241.out
                      have hms47_1 := NB241_265.out
                      have hs48 : w'.cell? ⟨gb241, 2, none⟩ = some (.int .i64 0) := (blk_cell BK241.out 2).trans rfl
                      have hfs48 := blk_frozen BK241.out 2
                      have hns48_1 := NB265_241.out
                      have hms48_1 := NB241_265.out
                      have hs49 : w'.cell? ⟨gb241, 3, none⟩ = some (.string (⟨#[]⟩ : ByteArray)) := (blk_cell BK241.out 3).trans rfl
                      have hfs49 := blk_frozen BK241.out 3
                      have hns49_1 := NB265_241.out
                      have hms49_1 := NB241_265.out
                      have hs50 : w'.cell? ⟨gb241, 4, none⟩ = some (.string (⟨#[]⟩ : ByteArray)) := (blk_cell BK241.out 4).trans rfl
                      have hfs50 := blk_frozen BK241.out 4
                      have hns50_1 := NB265_241.out
                      have hms50_1 := NB241_265.out
                      have hs51 : w'.cell? ⟨gb241, 5, none⟩ = some (.slice none 0 0) := (blk_cell BK241.out 5).trans rfl
                      have hfs51 := blk_frozen BK241.out 5
                      have hns51_1 := NB265_241.out
                      have hms51_1 := NB241_265.out
                      refine skip_ (w1 := ?_) (by rfl) rfl ?_ ?_
                      rotate_left
                      · go_simp
                        rfl
                      refine hK.out _ _ ⟨.slice (some adz_v267) y266.length co44, adz_v267, v276, .slice Ao45 y279.length co45, m4_, m12_, m14_, (by rw [ha.out]; exact putSel_none (v := undef) rfl), fun h0_ => absurd ((hon 13 (by kernel_rfl)).symm.trans h0_) (by decide), fun h0_ => absurd ((up_self b 15).symm.trans h0_) (by decide), (by (with_reducible repeat (first | refine blk_drewN ?_ _ | refine blk_drew ?_ | refine blk_alloc ?_ _)); refine blk_far ?_ NB265_241.out _; (with_reducible repeat (first | refine blk_drewN ?_ _ | refine blk_drew ?_ | refine blk_alloc ?_ _)); refine blk_far ?_ NB265_241.out _; (with_reducible repeat (first | refine blk_drewN ?_ _ | refine blk_drew ?_ | refine blk_alloc ?_ _)); refine blk_far ?_ NB265_241.out _; (with_reducible repeat (first | refine blk_drewN ?_ _ | refine blk_drew ?_ | refine blk_alloc ?_ _)); refine blk_far ?_ NB265_241.out _; (with_reducible repeat (first | refine blk_drewN ?_ _ | refine blk_drew ?_ | refine blk_alloc ?_ _)); refine blk_far ?_ NB265_241.out _; (with_reducible repeat (first | refine blk_drewN ?_ _ | refine blk_drew ?_ | refine blk_alloc ?_ _)); refine blk_far ?_ NB265_241.out _; (with_reducible repeat (first | refine blk_drewN ?_ _ | refine blk_drew ?_ | refine blk_alloc ?_ _)); exact BK265.out), fun h0_ => absurd ((hon 12 (by kernel_rfl)).symm.trans h0_) (by decide), (by repeat (first | (with_reducible first | exact HK.out | apply KeepBut.set_ | apply keep_drewN | apply keep_drew | apply keep_alloc | refine keep_far ?_ GW241.out _ | refine keep_far ?_ GW265.out _) | exact HK.out)), (by repeat (first | (with_reducible first | exact HB.out | apply below_alloc | apply pw_below_drewN | apply below_drew1 | refine below_set ?_ (IsS32.ge HI0.out) | refine below_set ?_ GE241.out | refine below_set ?_ GE265.out) | exact HB.out)), fun _ => (by (with_reducible repeat (first | apply Kd.R_alloc | apply Kd.R_drewN | apply Kd.R_drew)); exact Kd.R_mono (Kd.R_far (p := ⟨gb241, 5, none⟩) (Kd.R_far (p := ⟨gb241, 4, none⟩) (Kd.R_far (p := ⟨gb241, 3, none⟩) (Kd.R_far (p := ⟨gb241, 2, none⟩) (Kd.R_far (p := ⟨gb241, 1, none⟩) (Kd.R_far (p := ⟨gb241, 0, none⟩) (Kd.R_types HO268.out BK241.out (by decide)) (fun _ hk => hk.2) (.int .i64 3)) (fun _ hk => hk.2) (.string (rdOf ByteArray.empty y266 (ji23)))) (fun _ hk => hk.2) (.int .i64 0)) (fun _ hk => hk.2) (.string (⟨#[]⟩ : ByteArray))) (fun _ hk => hk.2) (.string (⟨#[]⟩ : ByteArray))) (fun _ hk => hk.2) (.slice Ao45 y279.length co45)) (fun _ hk => hk.1)), fun _ => ⟨_, rfl⟩, fun _ h1_ => absurd ((hon 13 (by kernel_rfl)).symm.trans h1_) (by decide), fun _ => (by repeat (first | (with_reducible first | exact HI0.out | apply IsS32.alloc | apply IsS32.drewN | apply IsS32.drew | apply IsS32.set_1 | refine IsS32.far ?_ NB0_241.out _ | refine IsS32.far ?_ NB0_265.out _) | exact HI0.out)), fun _ => (by (with_reducible repeat (first | apply Kd.N_alloc | apply Kd.N_drewN | apply Kd.N_drew)); exact Kd.N_mono (Kd.N_far (p := ⟨gb241, 5, none⟩) (Kd.N_far (p := ⟨gb241, 4, none⟩) (Kd.N_far (p := ⟨gb241, 3, none⟩) (Kd.N_far (p := ⟨gb241, 2, none⟩) (Kd.N_far (p := ⟨gb241, 1, none⟩) (Kd.N_far (p := ⟨gb241, 0, none⟩) (Kd.N_mono HO281.out (fun k_ hk => (⟨hk, (by first | omega | (dsimp only at *; omega) | (simp_all; done))⟩ : _ ∧ k_ ≠ gb241))) (fun _ hk => hk.2) (.int .i64 3)) (fun _ hk => hk.2) (.string (rdOf ByteArray.empty y266 (ji23)))) (fun _ hk => hk.2) (.int .i64 0)) (fun _ hk => hk.2) (.string (⟨#[]⟩ : ByteArray))) (fun _ hk => hk.2) (.string (⟨#[]⟩ : ByteArray))) (fun _ hk => hk.2) (.slice Ao45 y279.length co45)) (fun _ hk => (by first | omega | (dsimp only at *; omega) | (simp_all; done)))), fun _ => (by (with_reducible repeat (first | refine blk_drewN ?_ _ | refine blk_drew ?_ | refine blk_alloc ?_ _)); refine blk_put (cs := #[.int .i64 3, .string (rdOf ByteArray.empty y266 (ji23)), .int .i64 0, .string (⟨#[]⟩ : ByteArray), .string (⟨#[]⟩ : ByteArray), .slice none 0 0]) ?_ 5 _ rfl; (with_reducible repeat (first | refine blk_drewN ?_ _ | refine blk_drew ?_ | refine blk_alloc ?_ _)); refine blk_put (cs := #[.int .i64 3, .string (rdOf ByteArray.empty y266 (ji23)), .int .i64 0, .string (⟨#[]⟩ : ByteArray), .string (⟨#[]⟩ : ByteArray), .slice none 0 0]) ?_ 4 _ rfl; (with_reducible repeat (first | refine blk_drewN ?_ _ | refine blk_drew ?_ | refine blk_alloc ?_ _)); refine blk_put (cs := #[.int .i64 3, .string (rdOf ByteArray.empty y266 (ji23)), .int .i64 0, .string (⟨#[]⟩ : ByteArray), .string (⟨#[]⟩ : ByteArray), .slice none 0 0]) ?_ 3 _ rfl; (with_reducible repeat (first | refine blk_drewN ?_ _ | refine blk_drew ?_ | refine blk_alloc ?_ _)); refine blk_put (cs := #[.int .i64 3, .string (rdOf ByteArray.empty y266 (ji23)), .int .i64 0, .string (⟨#[]⟩ : ByteArray), .string (⟨#[]⟩ : ByteArray), .slice none 0 0]) ?_ 2 _ rfl; (with_reducible repeat (first | refine blk_drewN ?_ _ | refine blk_drew ?_ | refine blk_alloc ?_ _)); refine blk_put (cs := #[.int .i64 3, .string (⟨#[]⟩ : ByteArray), .int .i64 0, .string (⟨#[]⟩ : ByteArray), .string (⟨#[]⟩ : ByteArray), .slice none 0 0]) ?_ 1 _ rfl; (with_reducible repeat (first | refine blk_drewN ?_ _ | refine blk_drew ?_ | refine blk_alloc ?_ _)); refine blk_put (cs := #[.int .i64 0, .string (⟨#[]⟩ : ByteArray), .int .i64 0, .string (⟨#[]⟩ : ByteArray), .string (⟨#[]⟩ : ByteArray), .slice none 0 0]) ?_ 0 _ rfl; (with_reducible repeat (first | refine blk_drewN ?_ _ | refine blk_drew ?_ | refine blk_alloc ?_ _)); exact BK241.out), Q_X4_, Q_X12_, Q_X14_⟩
                    exact steps_nil
                  rintro b a w49 hall ⟨v267, adz_v267, v276, v280, m4_, m12_, m14_, ha, Q_HO263, Q_BK241, Q_BK265, Q_HI0, Q_HK, Q_HB, Q_HO268, Q_HA_HO268, Q_HO277, Q_HI0_e12, Q_HO281, Q_BK241_e15, Q_X4_, Q_X12_, Q_X14_⟩
                  clear BK241 BK265 HB HI0 HK HO263
                  have hb0_ := hall 0 (by kernel_rfl)
                  have hb2_ := hall 2 (by kernel_rfl)
                  have hb3_ := hall 3 (by kernel_rfl)
                  have hb4_ := hall 4 (by kernel_rfl)
                  have hb5_ := hall 5 (by kernel_rfl)
                  have hb6_ := hall 6 (by kernel_rfl)
                  have hb11_ := hall 11 (by kernel_rfl)
                  have hb12_ := hall 12 (by kernel_rfl)
                  have hb13_ := hall 13 (by kernel_rfl)
                  have hb14_ := hall 14 (by kernel_rfl)
                  have hb15_ := hall 15 (by kernel_rfl)
                  subst ha
                  obtain rfl := Q_X4_ hb4_
                  obtain rfl := Q_X12_ hb12_
                  obtain rfl := Q_X14_ hb14_
                  simp only [putSel, hb0_, hb2_, hb3_, hb4_, hb5_, hb6_, hb11_, hb12_, hb13_, hb14_, hb15_, if_true, Act.put, List.setIfInBounds_toArray, List.set_cons_zero, List.set_cons_succ]
                  clear Q_HO263
                  clear Q_BK241
                  have BK265 := Aside0.mk Q_BK265
                  clear Q_BK265
                  clear Q_HI0
                  have HK := Aside0.mk Q_HK
                  clear Q_HK
                  have HB := Aside0.mk Q_HB
                  clear Q_HB
                  have HO268 := Aside0.mk (Q_HO268 hb0_)
                  clear Q_HO268
                  have HA_HO268 := Aside0.mk (Q_HA_HO268 hb0_)
                  clear Q_HA_HO268
                  clear Q_HO277
                  have HI0 := Aside0.mk (Q_HI0_e12 hb12_)
                  clear Q_HI0_e12
                  have HO281 := Aside0.mk (Q_HO281 hb13_)
                  clear Q_HO281
                  have BK241 := Aside0.mk (Q_BK241_e15 hb15_)
                  clear Q_BK241_e15
                  clear hall hb0_ hb2_ hb3_ hb4_ hb5_ hb6_ hb11_ hb12_ hb13_ hb14_ hb15_
                  obtain ⟨co50, eo50⟩ := HA_HO268.out
                  clear HA_HO268
                  subst eo50
                  obtain ⟨Ao51, co51, eo51⟩ := Kd.N_slice HO281.out
                  (first | subst eo51 | (injection eo51 with f1_ f2_ f3_; have f4_ := f1_.symm; have f5_ := f3_.symm; clear f1_ f2_ f3_; subst f4_; subst f5_))
                  try go_wp2
                  refine bodyPost_ret (results_cell_row rfl _ _ gb241 24 #[.int .i64 3, .string (rdOf ByteArray.empty y266 (ji23)), .int .i64 0, .string (⟨#[]⟩ : ByteArray), .string (⟨#[]⟩ : ByteArray), .slice Ao51 y279.length co51] (0, 0) _ rfl (by (with_reducible repeat (first | refine blk_drewN ?_ _ | refine blk_drew ?_ | refine blk_alloc ?_ _)); exact BK241.out) Tryd.underlying24 rfl (by kernel_rfl)) rfl ?_
                  exact ⟨_, by first | rfl | (simp [errW_none, errW_some] <;> rfl) | (simp only [← hji23]; first | rfl | (simp [errW_none, errW_some] <;> rfl)) | (simp [*, errW_none, errW_some] <;> rfl), by (with_reducible repeat (first | apply Kd.N_alloc | apply Kd.N_drewN | apply Kd.N_drew)); exact Kd.N_mono HO281.out (fun _ hk => hk.1), by repeat (first | (with_reducible first | exact HI0.out | apply IsS32.alloc | apply IsS32.drewN | apply IsS32.drew | apply IsS32.set_1 | refine IsS32.far ?_ NB0_241.out _ | refine IsS32.far ?_ NB0_265.out _) | exact HI0.out), by repeat (first | (with_reducible first | exact HB.out | apply below_alloc | apply pw_below_drewN | apply below_drew1 | refine below_set ?_ (IsS32.ge HI0.out) | refine below_set ?_ GE241.out | refine below_set ?_ GE265.out) | exact HB.out), by repeat (first | (with_reducible first | exact HK.out | apply KeepBut.set_ | apply keep_drewN | apply keep_drew | apply keep_alloc | refine keep_far ?_ GW241.out _ | refine keep_far ?_ GW265.out _) | exact HK.out)⟩
                · rw [if_neg c25] at H
                  exact absurd H (by simp)
              · rw [if_neg c24] at H
                exact absurd H (by simp)
            · replace c21 := Bool.eq_false_iff.mpr c21
              subst c21
              have H1 : ((jettisonlaw08_feed_number.f kj18 s0_0 t243 s0_2 s0_3 a1 a2 1).bind fun bt282 => ((some (([(⟨#[61, 61]⟩ : ByteArray), (⟨#[33, 61]⟩ : ByteArray), (⟨#[60]⟩ : ByteArray), (⟨#[60, 61]⟩ : ByteArray), (⟨#[62]⟩ : ByteArray), (⟨#[62, 61]⟩ : ByteArray), (⟨#[60, 61]⟩ : ByteArray), (⟨#[62, 61]⟩ : ByteArray)] : List ByteArray) : List ByteArray)).bind fun y292 => (if 0 ≤ (Int.tmod (wrap64 (Int.tdiv t242 8)) 8) then (if (Int.tmod (wrap64 (Int.tdiv t242 8)) 8) < (y292.length : Int) then ((jettisonlaw08_feed_number.f kj18 s0_0 bt282.2.2.2.2.2.2 s0_2 s0_3 a1 a2 1).bind fun bt296 => (some (3, rdOf ByteArray.empty y292 (Int.tmod (wrap64 (Int.tdiv t242 8)) 8), 0, (⟨#[]⟩ : ByteArray), (⟨#[]⟩ : ByteArray), (([(⟨bt282.1, bt282.2.1, bt282.2.2.1, bt282.2.2.2.1, bt282.2.2.2.2.1, bt282.2.2.2.2.2.1⟩ : S24), (⟨bt296.1, bt296.2.1, bt296.2.2.1, bt296.2.2.2.1, bt296.2.2.2.2.1, bt296.2.2.2.2.2.1⟩ : S24)] : List (S24))), bt296.2.2.2.2.2.2))) else (none)) else (none)))) = some (r1, r2, r3, r4, r5, r6, r7) := by rw [if_neg (show ¬ (false = true) by decide)] at H; exact H
              clear H
              have H := H1
              clear H1
              replace H := Option.bind_eq_some_iff.mp H
              obtain ⟨⟨t282, t283, t284, t285, t286, t287, t290⟩, A520, H⟩ := H
              replace H : ((some (([(⟨#[61, 61]⟩ : ByteArray), (⟨#[33, 61]⟩ : ByteArray), (⟨#[60]⟩ : ByteArray), (⟨#[60, 61]⟩ : ByteArray), (⟨#[62]⟩ : ByteArray), (⟨#[62, 61]⟩ : ByteArray), (⟨#[60, 61]⟩ : ByteArray), (⟨#[62, 61]⟩ : ByteArray)] : List ByteArray) : List ByteArray)).bind fun y292 => (if 0 ≤ (Int.tmod (wrap64 (Int.tdiv t242 8)) 8) then (if (Int.tmod (wrap64 (Int.tdiv t242 8)) 8) < (y292.length : Int) then ((jettisonlaw08_feed_number.f kj18 s0_0 t290 s0_2 s0_3 a1 a2 1).bind fun bt296 => (some (3, rdOf ByteArray.empty y292 (Int.tmod (wrap64 (Int.tdiv t242 8)) 8), 0, (⟨#[]⟩ : ByteArray), (⟨#[]⟩ : ByteArray), (([(⟨t282, t283, t284, t285, t286, t287⟩ : S24), (⟨bt296.1, bt296.2.1, bt296.2.2.1, bt296.2.2.2.1, bt296.2.2.2.2.1, bt296.2.2.2.2.2.1⟩ : S24)] : List (S24))), bt296.2.2.2.2.2.2))) else (none)) else (none))) = some (r1, r2, r3, r4, r5, r6, r7) := H
              have A52 := Aside0.mk A520
              clear A520
              obtain ⟨y292, hy292⟩ : ∃ y_ : List ByteArray, y_ = (([(⟨#[61, 61]⟩ : ByteArray), (⟨#[33, 61]⟩ : ByteArray), (⟨#[60]⟩ : ByteArray), (⟨#[60, 61]⟩ : ByteArray), (⟨#[62]⟩ : ByteArray), (⟨#[62, 61]⟩ : ByteArray), (⟨#[60, 61]⟩ : ByteArray), (⟨#[62, 61]⟩ : ByteArray)] : List ByteArray)) := ⟨_, rfl⟩
              replace H : (if 0 ≤ (Int.tmod (wrap64 (Int.tdiv t242 8)) 8) then (if (Int.tmod (wrap64 (Int.tdiv t242 8)) 8) < (y292.length : Int) then ((jettisonlaw08_feed_number.f kj18 s0_0 t290 s0_2 s0_3 a1 a2 1).bind fun bt296 => (some (3, rdOf ByteArray.empty y292 (Int.tmod (wrap64 (Int.tdiv t242 8)) 8), 0, (⟨#[]⟩ : ByteArray), (⟨#[]⟩ : ByteArray), (([(⟨t282, t283, t284, t285, t286, t287⟩ : S24), (⟨bt296.1, bt296.2.1, bt296.2.2.1, bt296.2.2.2.1, bt296.2.2.2.2.1, bt296.2.2.2.2.2.1⟩ : S24)] : List (S24))), bt296.2.2.2.2.2.2))) else (none)) else (none)) = some (r1, r2, r3, r4, r5, r6, r7) := by first | (rw [hy292]; with_reducible exact H) | (have H2_ := (Option.bind_some _ _).symm.trans H; rw [hy292]; with_reducible exact H2_) | (have H2_ := (Option.bind_some _ _).symm.trans H; with_reducible exact H2_) | with_reducible exact H | (rw [hy292]; exact H) | exact H
              have Ny292 := Aside0.mk hy292
              clear hy292
              obtain ⟨ji53, hji53⟩ : ∃ j_ : Int, (Int.tmod (wrap64 (Int.tdiv t242 8)) 8) = j_ := ⟨_, rfl⟩
              replace H : (if 0 ≤ (ji53) then (if (ji53) < (y292.length : Int) then ((jettisonlaw08_feed_number.f kj18 s0_0 t290 s0_2 s0_3 a1 a2 1).bind fun bt296 => (some (3, rdOf ByteArray.empty y292 (ji53), 0, (⟨#[]⟩ : ByteArray), (⟨#[]⟩ : ByteArray), (([(⟨t282, t283, t284, t285, t286, t287⟩ : S24), (⟨bt296.1, bt296.2.1, bt296.2.2.1, bt296.2.2.2.1, bt296.2.2.2.2.1, bt296.2.2.2.2.2.1⟩ : S24)] : List (S24))), bt296.2.2.2.2.2.2))) else (none)) else (none)) = some (r1, r2, r3, r4, r5, r6, r7) := by first | (rw [hji53] at H; exact H) | (simp only [hji53] at H ⊢; exact H)
              (try rw [hji53] at A52)
              by_cases c54 : 0 ≤ (ji53)
              · rw [if_pos c54] at H
                have c54b0 : decide (0 ≤ (ji53)) = true := decide_eq_true c54
                clear c54
                by_cases c55 : (ji53) < (y292.length : Int)
                · rw [if_pos c55] at H
                  have c55b0 : decide ((ji53) < (y292.length : Int)) = true := decide_eq_true c55
                  clear c55
                  replace H := Option.bind_eq_some_iff.mp H
                  obtain ⟨⟨t296, t297, t298, t299, t300, t301, t304⟩, A560, H⟩ := H
                  replace H : (some (3, rdOf ByteArray.empty y292 (ji53), 0, (⟨#[]⟩ : ByteArray), (⟨#[]⟩ : ByteArray), (([(⟨t282, t283, t284, t285, t286, t287⟩ : S24), (⟨t296, t297, t298, t299, t300, t301⟩ : S24)] : List (S24))), t304)) = some (r1, r2, r3, r4, r5, r6, r7) := H
                  have A56 := Aside0.mk A560
                  clear A560
                  obtain ⟨y305, hy305⟩ : ∃ y_ : List (S24), y_ = (([(⟨t282, t283, t284, t285, t286, t287⟩ : S24), (⟨t296, t297, t298, t299, t300, t301⟩ : S24)] : List (S24))) := ⟨_, rfl⟩
                  replace H : (some (3, rdOf ByteArray.empty y292 (ji53), 0, (⟨#[]⟩ : ByteArray), (⟨#[]⟩ : ByteArray), y305, t304)) = some (r1, r2, r3, r4, r5, r6, r7) := by first | (rw [hy305]; with_reducible exact H) | (have H2_ := (Option.bind_some _ _).symm.trans H; rw [hy305]; with_reducible exact H2_) | (have H2_ := (Option.bind_some _ _).symm.trans H; with_reducible exact H2_) | with_reducible exact H | (rw [hy305]; exact H) | exact H
                  have Ny305 := Aside0.mk hy305
                  clear hy305
                  simp only [Option.some.injEq, Prod.mk.injEq] at H
                  obtain ⟨rfl, rfl, rfl, rfl, rfl, rfl, rfl⟩ := H
                  try go_wp2_with (first | ((with_reducible refine gate_callee (f := 33) rfl ?_); refine goesL_ (some 60) rfl rfl Tryd.func33 (by kernel_rfl) rfl #[.pointer (some ⟨g, 0, none⟩), .string a1, .string a2, .int .i64 1] rfl (by (try simp only [List.map_toArray, List.map_cons, List.map_nil]); first | done | rfl | (simp only [List.length_drop, List.length_take]; rfl)) ?_; (with_reducible refine (jettisonlaw08_feed_number.calls kj18 g s0_0 t243 s0_2 s0_3 a1 a2 1 t282 t283 t284 t285 t286 t287 t290 w0 _ ?side1 ?side2 A52.out).mono ?_); (case side1 => repeat (first | (with_reducible first | exact HI0.out | apply IsS32.alloc | apply IsS32.drewN | apply IsS32.drew | apply IsS32.set_1 | refine IsS32.far ?_ NB0_241.out _) | exact HI0.out)); (case side2 => repeat (first | (with_reducible first | exact HB.out | apply below_alloc | apply pw_below_drewN | apply below_drew1 | refine below_set ?_ (IsS32.ge HI0.out) | refine below_set ?_ GE241.out) | exact HB.out)); rintro e w57 ⟨v288, rfl, ho0, hi, hb, hk⟩; refine ⟨_, rfl, ?_⟩; have n0_ := Aside0.mk (KeepBut.blk hk (g' := gb241) (o := .cells #[.int .i64 0, .string (⟨#[]⟩ : ByteArray), .int .i64 0, .string (⟨#[]⟩ : ByteArray), .string (⟨#[]⟩ : ByteArray), .slice none 0 0] 24 (0, 0)) (by (with_reducible repeat (first | refine blk_drewN ?_ _ | refine blk_drew ?_ | refine blk_alloc ?_ _)); exact BK241.out) NB241_0.out (by simp)); have n1_ := Aside0.mk (Kd.N_lower (Kd.N_mono (ok' := fun k_ => (w.heap.size ≤ k_) ∧ k_ ≠ gb241 ∧ k_ ≠ g) ho0 (fun k_ hk_ => ⟨(Nat.le_trans (keep_size (w := w) (g := g) (row := none) (by repeat (first | (with_reducible first | exact HK.out | apply KeepBut.set_ | apply keep_drewN | apply keep_drew | apply keep_alloc | refine keep_far ?_ GW241.out _) | exact HK.out))) hk_), (Kd.freshB (g := gb241) (o := .cells #[.int .i64 0, .string (⟨#[]⟩ : ByteArray), .int .i64 0, .string (⟨#[]⟩ : ByteArray), .string (⟨#[]⟩ : ByteArray), .slice none 0 0] 24 (0, 0)) (by (with_reducible repeat (first | refine blk_drewN ?_ _ | refine blk_drew ?_ | refine blk_alloc ?_ _)); exact BK241.out) k_ hk_), (IsS32.fresh (by repeat (first | (with_reducible first | exact HI0.out | apply IsS32.alloc | apply IsS32.drewN | apply IsS32.drew | apply IsS32.set_1 | refine IsS32.far ?_ NB0_241.out _) | exact HI0.out)) k_ hk_)⟩)) (keep_size (w := w) (g := g) (row := none) (by repeat (first | (with_reducible first | exact HK.out | apply KeepBut.set_ | apply keep_drewN | apply keep_drew | apply keep_alloc | refine keep_far ?_ GW241.out _) | exact HK.out)))); have n2_ := Aside0.mk (KeepBut.trans (by repeat (first | (with_reducible first | exact HK.out | apply KeepBut.set_ | apply keep_drewN | apply keep_drew | apply keep_alloc | refine keep_far ?_ GW241.out _) | exact HK.out)) hk (.inl rfl)); have n3_ := Aside0.mk (hb); have n4_ := Aside0.mk (hi); clear BK241; clear HK; clear HB; clear HI0; have BK241 := n0_; have HO289 := n1_; have HK := n2_; have HB := n3_; have HI0 := n4_; clear n0_ n1_ n2_ n3_ n4_; (try clear hb); (try clear hb2); (try clear hk); (try clear hi); (try clear ho0)) | ((with_reducible refine gate_dst (N := 11) rfl ?_); refine box_event ?hg (N := 11) ?hd (cs := #[.int .i64 0, .string (⟨#[]⟩ : ByteArray), .int .i64 0, .string (⟨#[]⟩ : ByteArray), .string (⟨#[]⟩ : ByteArray), .slice none 0 0]) (t := 24) ?hr ?_; (case hd => rfl); (case hg => rfl); (case hr => first | (go_simp; done) | (go_simp; rfl)); intro gb291 hg w58 hbox hb; have n0_ := Aside0.mk (Kd.N_below (Kd.N_elderB (by (with_reducible repeat (first | apply Kd.N_alloc | apply Kd.N_drewN | apply Kd.N_drew)); exact HO289.out) gb291 (Nat.le_of_eq hg.symm)) hb); have n1_ := Aside0.mk (blk_below (g := gb241) (o := .cells #[.int .i64 0, .string (⟨#[]⟩ : ByteArray), .int .i64 0, .string (⟨#[]⟩ : ByteArray), .string (⟨#[]⟩ : ByteArray), .slice none 0 0] 24 (0, 0)) (by (with_reducible repeat (first | refine blk_drewN ?_ _ | refine blk_drew ?_ | refine blk_alloc ?_ _)); exact BK241.out) hb); have n2_ := Aside0.mk (IsS32.below (by repeat (first | (with_reducible first | exact HI0.out | apply IsS32.alloc | apply IsS32.drewN | apply IsS32.drew | apply IsS32.set_1 | refine IsS32.far ?_ NB0_241.out _) | exact HI0.out)) hb); have n3_ := Aside0.mk (KeepBut.trans (by repeat (first | (with_reducible first | exact HK.out | apply KeepBut.set_ | apply keep_drewN | apply keep_drew | apply keep_alloc | refine keep_far ?_ GW241.out _) | exact HK.out)) (KeepBut.of_below hb g none) (.inl rfl)); have n4_ := Aside0.mk (below_step (by repeat (first | (with_reducible first | exact HB.out | apply below_alloc | apply pw_below_drewN | apply below_drew1 | refine below_set ?_ (IsS32.ge HI0.out) | refine below_set ?_ GE241.out) | exact HB.out)) hb); have n5_ := Aside0.mk (hbox); have n6_ := Aside0.mk ((by rw [hg]; exact (keep_size (w := w) (g := g) (row := none) (by repeat (first | (with_reducible first | exact HK.out | apply KeepBut.set_ | apply keep_drewN | apply keep_drew | apply keep_alloc | refine keep_far ?_ GW241.out _) | exact HK.out))) : w.heap.size ≤ gb291)); have n7_ := Aside0.mk ((Nat.le_trans HW0.out (by rw [hg]; exact (keep_size (w := w) (g := g) (row := none) (by repeat (first | (with_reducible first | exact HK.out | apply KeepBut.set_ | apply keep_drewN | apply keep_drew | apply keep_alloc | refine keep_far ?_ GW241.out _) | exact HK.out))) : w.heap.size ≤ gb291) : w0.heap.size ≤ gb291)); have n8_ := Aside0.mk ((by rw [hg]; exact Nat.ne_of_lt (blk_lt (g := gb241) (o := .cells #[.int .i64 0, .string (⟨#[]⟩ : ByteArray), .int .i64 0, .string (⟨#[]⟩ : ByteArray), .string (⟨#[]⟩ : ByteArray), .slice none 0 0] 24 (0, 0)) (by (with_reducible repeat (first | refine blk_drewN ?_ _ | refine blk_drew ?_ | refine blk_alloc ?_ _)); exact BK241.out)) : gb241 ≠ gb291)); have n9_ := Aside0.mk ((by rw [hg]; exact Nat.ne_of_gt (blk_lt (g := gb241) (o := .cells #[.int .i64 0, .string (⟨#[]⟩ : ByteArray), .int .i64 0, .string (⟨#[]⟩ : ByteArray), .string (⟨#[]⟩ : ByteArray), .slice none 0 0] 24 (0, 0)) (by (with_reducible repeat (first | refine blk_drewN ?_ _ | refine blk_drew ?_ | refine blk_alloc ?_ _)); exact BK241.out)) : gb291 ≠ gb241)); have n10_ := Aside0.mk ((by rw [hg]; exact Nat.ne_of_lt (IsS32.lt (show IsS32 w0 _ g s0_0 t290 s0_2 s0_3 from by repeat (first | (with_reducible first | exact HI0.out | apply IsS32.alloc | apply IsS32.drewN | apply IsS32.drew | apply IsS32.set_1 | refine IsS32.far ?_ NB0_241.out _) | exact HI0.out))) : g ≠ gb291)); have n11_ := Aside0.mk ((by rw [hg]; exact Nat.ne_of_gt (IsS32.lt (show IsS32 w0 _ g s0_0 t290 s0_2 s0_3 from by repeat (first | (with_reducible first | exact HI0.out | apply IsS32.alloc | apply IsS32.drewN | apply IsS32.drew | apply IsS32.set_1 | refine IsS32.far ?_ NB0_241.out _) | exact HI0.out))) : gb291 ≠ g)); clear HO289; clear BK241; clear HI0; clear HK; clear HB; have HO289 := n0_; have BK241 := n1_; have HI0 := n2_; have HK := n3_; have HB := n4_; have BK291 := n5_; have GW291 := n6_; have GE291 := n7_; have NB241_291 := n8_; have NB291_241 := n9_; have NB0_291 := n10_; have NB291_0 := n11_; clear n0_ n1_ n2_ n3_ n4_ n5_ n6_ n7_ n8_ n9_ n10_ n11_; clear hb hbox hg; have hnb59 := NB291_241.out; have hnc59 := NB241_291.out; have hnb60 := NB291_0.out; have hnc60 := NB0_291.out; have hcz61_0 : w58.cell? ⟨gb291, 0, none⟩ = some (.int .i64 0) := (blk_cell BK291.out 0).trans rfl; have hcz61_1 : w58.cell? ⟨gb291, 1, none⟩ = some (.string (⟨#[]⟩ : ByteArray)) := (blk_cell BK291.out 1).trans rfl; have hcz61_2 : w58.cell? ⟨gb291, 2, none⟩ = some (.int .i64 0) := (blk_cell BK291.out 2).trans rfl; have hcz61_3 : w58.cell? ⟨gb291, 3, none⟩ = some (.string (⟨#[]⟩ : ByteArray)) := (blk_cell BK291.out 3).trans rfl; have hcz61_4 : w58.cell? ⟨gb291, 4, none⟩ = some (.string (⟨#[]⟩ : ByteArray)) := (blk_cell BK291.out 4).trans rfl; have hcz61_5 : w58.cell? ⟨gb291, 5, none⟩ = some (.slice none 0 0) := (blk_cell BK291.out 5).trans rfl; have hfz61_0 := blk_frozen BK291.out 0; have hfz61_1 := blk_frozen BK291.out 1; have hfz61_2 := blk_frozen BK291.out 2; have hfz61_3 := blk_frozen BK291.out 3; have hfz61_4 := blk_frozen BK291.out 4; have hfz61_5 := blk_frozen BK291.out 5; obtain ⟨Ao62, co62, eo62⟩ := Kd.N_slice HO289.out; subst eo62))
                  have pi295 : (0 ≤ ((ji53) : Int)) = True := eq_true (of_decide_eq_true (by first | (with_reducible assumption) | assumption))
                  have qi295 : ((ji53) < (y292.length : Int)) = True := eq_true (of_decide_eq_true (by first | (with_reducible assumption) | assumption))
                  have n0_ : Aside0 (Kd.N k24 24 ((((((w58.setCell ⟨gb291, 0, none⟩ (.int .i64 t282)).setCell ⟨gb291, 1, none⟩ (.string t283)).setCell ⟨gb291, 2, none⟩ (.int .i64 t284)).setCell ⟨gb291, 3, none⟩ (.string t285)).setCell ⟨gb291, 4, none⟩ (.string t286)).setCell ⟨gb291, 5, none⟩ (.slice Ao62 t287.length co62)) w.heap.size (fun k_ => (w.heap.size ≤ k_) ∧ k_ ≠ gb241 ∧ k_ ≠ g ∧ k_ ≠ gb291) (.slice Ao62 t287.length co62) t287) := ⟨by (with_reducible repeat (first | apply Kd.N_alloc | apply Kd.N_drewN | apply Kd.N_drew)); exact Kd.N_mono (Kd.N_far (p := ⟨gb291, 5, none⟩) (Kd.N_far (p := ⟨gb291, 4, none⟩) (Kd.N_far (p := ⟨gb291, 3, none⟩) (Kd.N_far (p := ⟨gb291, 2, none⟩) (Kd.N_far (p := ⟨gb291, 1, none⟩) (Kd.N_far (p := ⟨gb291, 0, none⟩) (Kd.N_mono HO289.out (fun k_ hk => (⟨hk, hk.2⟩ : _ ∧ k_ ≠ gb291))) (fun _ hk => hk.2) (.int .i64 t282)) (fun _ hk => hk.2) (.string t283)) (fun _ hk => hk.2) (.int .i64 t284)) (fun _ hk => hk.2) (.string t285)) (fun _ hk => hk.2) (.string t286)) (fun _ hk => hk.2) (.slice Ao62 t287.length co62)) (fun _ hk => ⟨hk.1.1.1, ⟨hk.1.1.2.1, ⟨hk.1.1.2.2, hk.1.2⟩⟩⟩)⟩
                  have n1_ : Aside0 (((((((w58.setCell ⟨gb291, 0, none⟩ (.int .i64 t282)).setCell ⟨gb291, 1, none⟩ (.string t283)).setCell ⟨gb291, 2, none⟩ (.int .i64 t284)).setCell ⟨gb291, 3, none⟩ (.string t285)).setCell ⟨gb291, 4, none⟩ (.string t286)).setCell ⟨gb291, 5, none⟩ (.slice Ao62 t287.length co62)).heap[gb241]? = some (.cells #[.int .i64 0, .string (⟨#[]⟩ : ByteArray), .int .i64 0, .string (⟨#[]⟩ : ByteArray), .string (⟨#[]⟩ : ByteArray), .slice none 0 0] 24 (0, 0))) := ⟨by (with_reducible repeat (first | refine blk_drewN ?_ _ | refine blk_drew ?_ | refine blk_alloc ?_ _)); refine blk_far ?_ NB241_291.out _; (with_reducible repeat (first | refine blk_drewN ?_ _ | refine blk_drew ?_ | refine blk_alloc ?_ _)); refine blk_far ?_ NB241_291.out _; (with_reducible repeat (first | refine blk_drewN ?_ _ | refine blk_drew ?_ | refine blk_alloc ?_ _)); refine blk_far ?_ NB241_291.out _; (with_reducible repeat (first | refine blk_drewN ?_ _ | refine blk_drew ?_ | refine blk_alloc ?_ _)); refine blk_far ?_ NB241_291.out _; (with_reducible repeat (first | refine blk_drewN ?_ _ | refine blk_drew ?_ | refine blk_alloc ?_ _)); refine blk_far ?_ NB241_291.out _; (with_reducible repeat (first | refine blk_drewN ?_ _ | refine blk_drew ?_ | refine blk_alloc ?_ _)); refine blk_far ?_ NB241_291.out _; (with_reducible repeat (first | refine blk_drewN ?_ _ | refine blk_drew ?_ | refine blk_alloc ?_ _)); exact BK241.out⟩
                  have n2_ : Aside0 (((((((w58.setCell ⟨gb291, 0, none⟩ (.int .i64 t282)).setCell ⟨gb291, 1, none⟩ (.string t283)).setCell ⟨gb291, 2, none⟩ (.int .i64 t284)).setCell ⟨gb291, 3, none⟩ (.string t285)).setCell ⟨gb291, 4, none⟩ (.string t286)).setCell ⟨gb291, 5, none⟩ (.slice Ao62 t287.length co62)).heap[gb291]? = some (.cells #[.int .i64 t282, .string t283, .int .i64 t284, .string t285, .string t286, .slice Ao62 t287.length co62] 24 (0, 0))) := ⟨by (with_reducible repeat (first | refine blk_drewN ?_ _ | refine blk_drew ?_ | refine blk_alloc ?_ _)); refine blk_put (cs := #[.int .i64 t282, .string t283, .int .i64 t284, .string t285, .string t286, .slice none 0 0]) ?_ 5 _ rfl; (with_reducible repeat (first | refine blk_drewN ?_ _ | refine blk_drew ?_ | refine blk_alloc ?_ _)); refine blk_put (cs := #[.int .i64 t282, .string t283, .int .i64 t284, .string t285, .string (⟨#[]⟩ : ByteArray), .slice none 0 0]) ?_ 4 _ rfl; (with_reducible repeat (first | refine blk_drewN ?_ _ | refine blk_drew ?_ | refine blk_alloc ?_ _)); refine blk_put (cs := #[.int .i64 t282, .string t283, .int .i64 t284, .string (⟨#[]⟩ : ByteArray), .string (⟨#[]⟩ : ByteArray), .slice none 0 0]) ?_ 3 _ rfl; (with_reducible repeat (first | refine blk_drewN ?_ _ | refine blk_drew ?_ | refine blk_alloc ?_ _)); refine blk_put (cs := #[.int .i64 t282, .string t283, .int .i64 0, .string (⟨#[]⟩ : ByteArray), .string (⟨#[]⟩ : ByteArray), .slice none 0 0]) ?_ 2 _ rfl; (with_reducible repeat (first | refine blk_drewN ?_ _ | refine blk_drew ?_ | refine blk_alloc ?_ _)); refine blk_put (cs := #[.int .i64 t282, .string (⟨#[]⟩ : ByteArray), .int .i64 0, .string (⟨#[]⟩ : ByteArray), .string (⟨#[]⟩ : ByteArray), .slice none 0 0]) ?_ 1 _ rfl; (with_reducible repeat (first | refine blk_drewN ?_ _ | refine blk_drew ?_ | refine blk_alloc ?_ _)); refine blk_put (cs := #[.int .i64 0, .string (⟨#[]⟩ : ByteArray), .int .i64 0, .string (⟨#[]⟩ : ByteArray), .string (⟨#[]⟩ : ByteArray), .slice none 0 0]) ?_ 0 _ rfl; (with_reducible repeat (first | refine blk_drewN ?_ _ | refine blk_drew ?_ | refine blk_alloc ?_ _)); exact BK291.out⟩
                  have n3_ : Aside0 (IsS32 w0 ((((((w58.setCell ⟨gb291, 0, none⟩ (.int .i64 t282)).setCell ⟨gb291, 1, none⟩ (.string t283)).setCell ⟨gb291, 2, none⟩ (.int .i64 t284)).setCell ⟨gb291, 3, none⟩ (.string t285)).setCell ⟨gb291, 4, none⟩ (.string t286)).setCell ⟨gb291, 5, none⟩ (.slice Ao62 t287.length co62)) g s0_0 t290 s0_2 s0_3) := ⟨by repeat (first | (with_reducible first | exact HI0.out | apply IsS32.alloc | apply IsS32.drewN | apply IsS32.drew | apply IsS32.set_1 | refine IsS32.far ?_ NB0_241.out _ | refine IsS32.far ?_ NB0_291.out _) | exact HI0.out)⟩
                  have n4_ : Aside0 (KeepBut w ((((((w58.setCell ⟨gb291, 0, none⟩ (.int .i64 t282)).setCell ⟨gb291, 1, none⟩ (.string t283)).setCell ⟨gb291, 2, none⟩ (.int .i64 t284)).setCell ⟨gb291, 3, none⟩ (.string t285)).setCell ⟨gb291, 4, none⟩ (.string t286)).setCell ⟨gb291, 5, none⟩ (.slice Ao62 t287.length co62)) g none) := ⟨by repeat (first | (with_reducible first | exact HK.out | apply KeepBut.set_ | apply keep_drewN | apply keep_drew | apply keep_alloc | refine keep_far ?_ GW241.out _ | refine keep_far ?_ GW291.out _) | exact HK.out)⟩
                  have n5_ : Aside0 (Below w0.heap.size w0 ((((((w58.setCell ⟨gb291, 0, none⟩ (.int .i64 t282)).setCell ⟨gb291, 1, none⟩ (.string t283)).setCell ⟨gb291, 2, none⟩ (.int .i64 t284)).setCell ⟨gb291, 3, none⟩ (.string t285)).setCell ⟨gb291, 4, none⟩ (.string t286)).setCell ⟨gb291, 5, none⟩ (.slice Ao62 t287.length co62))) := ⟨by repeat (first | (with_reducible first | exact HB.out | apply below_alloc | apply pw_below_drewN | apply below_drew1 | refine below_set ?_ (IsS32.ge HI0.out) | refine below_set ?_ GE241.out | refine below_set ?_ GE291.out) | exact HB.out)⟩
                  (try clear HO289)
                  (try clear BK241)
                  (try clear BK291)
                  (try clear HI0)
                  (try clear HK)
                  (try clear HB)
                  generalize ((((((w58.setCell ⟨gb291, 0, none⟩ (.int .i64 t282)).setCell ⟨gb291, 1, none⟩ (.string t283)).setCell ⟨gb291, 2, none⟩ (.int .i64 t284)).setCell ⟨gb291, 3, none⟩ (.string t285)).setCell ⟨gb291, 4, none⟩ (.string t286)).setCell ⟨gb291, 5, none⟩ (.slice Ao62 t287.length co62)) = w63 at n0_ n1_ n2_ n3_ n4_ n5_ ⊢
                  have HO289 := n0_
                  have BK241 := n1_
                  have BK291 := n2_
                  have HI0 := n3_
                  have HK := n4_
                  have HB := n5_
                  clear n0_ n1_ n2_ n3_ n4_ n5_
                  have n0_ := Aside0.mk (Kd.N_drew HO289.out)
                  have n1_ := Aside0.mk (blk_drew BK241.out)
                  have n2_ := Aside0.mk (blk_drew BK291.out)
                  have n3_ := Aside0.mk (IsS32.drew HI0.out)
                  have n4_ := Aside0.mk (keep_drew HK.out)
                  have n5_ := Aside0.mk (below_drew1 HB.out)
                  clear HO289
                  clear BK241
                  clear BK291
                  clear HI0
                  clear HK
                  clear HB
                  have HO289 := n0_
                  have BK241 := n1_
                  have BK291 := n2_
                  have HI0 := n3_
                  have HK := n4_
                  have HB := n5_
                  clear n0_ n1_ n2_ n3_ n4_ n5_
                  refine start_ (n := 14) (S := fun w' => True) (ds := []) #[false, false, false, false, false, false, false, false, false, false, false, false, false, false] (by kernel_rfl) rfl rfl trivial (fun hHeld => ?_); refine with_tabW jettisonlaw08_feed_truth.tab8 jettisonlaw08_feed_truth.bits8 (fun HT_ HW_ => ?_)
                  generalize w63.drew = w64 at HO289 BK241 BK291 HI0 HK HB hHeld ⊢
                  refine pure_ (i := 1) (N := some 62) (v := ?_) (a' := ?_) #[false, true, false, false, false, false, false, false, false, false, false, false, false, false] rfl rfl (any_of HT_.out (by kernel_rfl)) (fun _ _ _ h => h) (Or.inl ⟨by rfl, ?_⟩) ?_ ?_
                  rotate_left
                  · intro w'
                    go_simp
                    with_reducible rfl
                  rotate_left
                  · simp only [Act.put, List.setIfInBounds_toArray, List.set_cons_zero, List.set_cons_succ, i64_w, i32_w]
                    rfl
                  refine pure_ (i := 7) (N := some 68) (v := ?_) (a' := ?_) #[false, true, false, false, false, false, false, true, false, false, false, false, false, false] rfl rfl (any_of HT_.out (by kernel_rfl)) (fun _ _ _ h => h) (Or.inl ⟨by rfl, ?_⟩) ?_ ?_
                  rotate_left
                  · intro w'
                    go_simp
                    with_reducible rfl
                  rotate_left
                  · simp only [Act.put, List.setIfInBounds_toArray, List.set_cons_zero, List.set_cons_succ, i64_w, i32_w]
                    rfl
                  refine pure_ (i := 8) (N := some 69) (v := ?_) (a' := ?_) #[false, true, false, false, false, false, false, true, true, false, false, false, false, false] rfl rfl (any_of HT_.out (by kernel_rfl)) (fun _ _ _ h => h) (Or.inl ⟨by rfl, ?_⟩) ?_ ?_
                  rotate_left
                  · intro w'
                    go_simp
                    with_reducible rfl
                  rotate_left
                  · simp only [Act.put, List.setIfInBounds_toArray, List.set_cons_zero, List.set_cons_succ, i64_w, i32_w]
                    rfl
                  refine pure_ (i := 9) (N := some 70) (v := ?_) (a' := ?_) #[false, true, false, false, false, false, false, true, true, true, false, false, false, false] rfl rfl (any_of HT_.out (by kernel_rfl)) (fun _ _ _ h => h) (Or.inl ⟨by rfl, ?_⟩) ?_ ?_
                  rotate_left
                  · intro w'
                    go_simp
                    with_reducible rfl
                  rotate_left
                  · simp only [Act.put, List.setIfInBounds_toArray, List.set_cons_zero, List.set_cons_succ, i64_w, i32_w]
                    rfl
                  refine inv_at [0, 2, 3, 4, 5, 6, 10, 11, 12, 13] (fun a0_ b a w' => ∃ (v293 : Value) (adz_v293 : Addr) (v302 : Value) (v306 : Value) (m4_ : Value) (m10_ : Value) (m12_ : Value), a = putSel a0_ b [(0, 61, v293), (2, 63, .int .i64 (wrap64 (Int.tdiv t242 8))), (3, 64, .int .i64 ji53), (4, 65, m4_), (5, 66, .string (rdOf ByteArray.empty y292 (ji53))), (6, 67, .agg #[.int .i64 t282, .string t283, .int .i64 t284, .string t285, .string t286, .slice Ao62 t287.length co62]), (10, 71, m10_), (11, 72, v306), (12, 73, m12_)] ∧ (b 11 = false → Kd.N k24 24 w' w.heap.size (fun k_ => (w.heap.size ≤ k_) ∧ k_ ≠ g ∧ k_ ≠ gb241 ∧ k_ ≠ gb291) (.slice Ao62 t287.length co62) t287) ∧ (b 13 = false → w'.heap[gb241]? = some (.cells #[.int .i64 0, .string (⟨#[]⟩ : ByteArray), .int .i64 0, .string (⟨#[]⟩ : ByteArray), .string (⟨#[]⟩ : ByteArray), .slice none 0 0] 24 (0, 0))) ∧ (w'.heap[gb291]? = some (.cells #[.int .i64 t282, .string t283, .int .i64 t284, .string t285, .string t286, .slice Ao62 t287.length co62] 24 (0, 0))) ∧ (b 10 = false → IsS32 w0 w' g s0_0 t290 s0_2 s0_3) ∧ (KeepBut w w' g none) ∧ (Below w0.heap.size w0 w') ∧ (b 0 = true → Kd.R Kd.string 9 w' w.heap.size (fun k_ => (w.heap.size ≤ k_)) v293 y292) ∧ (b 0 = true → ∃ c_, (v293 : Value) = .slice (some adz_v293) y292.length c_) ∧ (b 10 = true → b 11 = false → Kd.N k24 24 w' w.heap.size (fun k_ => (w.heap.size ≤ k_) ∧ some k_ ≠ (.slice Ao62 t287.length co62 : Value).ownBlock ∧ k_ ≠ g ∧ k_ ≠ gb241 ∧ k_ ≠ gb291) v302 t301) ∧ (b 10 = true → IsS32 w0 w' g s0_0 t304 s0_2 s0_3) ∧ (b 11 = true → Kd.N k24 24 w' w.heap.size (fun k_ => (w.heap.size ≤ k_) ∧ k_ ≠ g ∧ k_ ≠ gb241 ∧ k_ ≠ gb291) v306 y305) ∧ (b 13 = true → w'.heap[gb241]? = some (.cells #[.int .i64 3, .string (rdOf ByteArray.empty y292 (ji53)), .int .i64 0, .string (⟨#[]⟩ : ByteArray), .string (⟨#[]⟩ : ByteArray), v306] 24 (0, 0))) ∧ (b 4 = true → (m4_ : Value) = .pointer (some (adz_v293.add ((ji53)).toNat))) ∧ (b 10 = true → (m10_ : Value) = .agg #[.int .i64 t296, .string t297, .int .i64 t298, .string t299, .string t300, v302]) ∧ (b 12 = true → (m12_ : Value) = .agg #[.int .i64 3, .string (rdOf ByteArray.empty y292 (ji53)), .int .i64 0, .string (⟨#[]⟩ : ByteArray), .string (⟨#[]⟩ : ByteArray), v306])) HT_.out HW_.out (by kernel_rfl) (by kernel_rfl) ?_ ?_ ?_
                  · exact ⟨.bool false, ⟨0, 0, none⟩, .bool false, .bool false, .bool false, .bool false, .bool false, by simp only [putSel, Bool.false_eq_true, if_false], fun _ => Kd.N_mono HO289.out (fun _ hk_ => (by first | omega | (dsimp only at *; omega) | (simp_all; done))), fun _ => BK241.out, BK291.out, fun _ => HI0.out, HK.out, HB.out, fun h_ => absurd h_ (by decide), fun h_ => absurd h_ (by decide), fun h_ => absurd h_ (by decide), fun h_ => absurd h_ (by decide), fun h_ => absurd h_ (by decide), fun h_ => absurd h_ (by decide), fun h_ => absurd h_ (by decide), fun h_ => absurd h_ (by decide), fun h_ => absurd h_ (by decide)⟩
                  · skip
                    clear BK241 BK291 HB HI0 HK HO289
                    refine steps_cons ?_ ?_
                    · rintro b a w' ⟨v293, adz_v293, v302, v306, m4_, m10_, m12_, ha, Q_HO289, Q_BK241, Q_BK291, Q_HI0, Q_HK, Q_HB, Q_HO294, Q_HA_HO294, Q_HO303, Q_HI0_e10, Q_HO307, Q_BK241_e13, Q_X4_, Q_X10_, Q_X12_⟩ hb_ hon hoff
                      refine ⟨_, rfl, fun K hK => ?_⟩
                      replace ha := Aside0.mk ha
                      have BK241 := Aside0.mk (Q_BK241 (hoff 13 (by kernel_rfl)))
                      have BK291 := Aside0.mk Q_BK291
                      have HK := Aside0.mk Q_HK
                      have HB := Aside0.mk Q_HB
                      refine Kd.R_lit_step Kd.string _ 9 ?hg (N := 61) ?hd (xs := ([(⟨#[61, 61]⟩ : ByteArray), (⟨#[33, 61]⟩ : ByteArray), (⟨#[60]⟩ : ByteArray), (⟨#[60, 61]⟩ : ByteArray), (⟨#[62]⟩ : ByteArray), (⟨#[62, 61]⟩ : ByteArray), (⟨#[60, 61]⟩ : ByteArray), (⟨#[62, 61]⟩ : ByteArray)] : List ByteArray)) (inner := [.string (⟨#[61, 61]⟩ : ByteArray), .string (⟨#[33, 61]⟩ : ByteArray), .string (⟨#[60]⟩ : ByteArray), .string (⟨#[60, 61]⟩ : ByteArray), .string (⟨#[62]⟩ : ByteArray), .string (⟨#[62, 61]⟩ : ByteArray), .string (⟨#[60, 61]⟩ : ByteArray), .string (⟨#[62, 61]⟩ : ByteArray)]) (ok := fun _ => True) (okp := fun _ => True) ?hr ?hp (fun _ hk => hk) trivial (Below.refl _ _) (Nat.le_refl _) (by simp) ?_; (case hd => rfl); (case hg => rfl); (case hr => first | (go_simp; done) | (go_simp; rfl)); (case hp => exact (Reps.one (show Kd.M Kd.string _ _ _ (⟨#[61, 61]⟩ : ByteArray) [.string (⟨#[61, 61]⟩ : ByteArray)] from rfl) (Reps.one (show Kd.M Kd.string _ _ _ (⟨#[33, 61]⟩ : ByteArray) [.string (⟨#[33, 61]⟩ : ByteArray)] from rfl) (Reps.one (show Kd.M Kd.string _ _ _ (⟨#[60]⟩ : ByteArray) [.string (⟨#[60]⟩ : ByteArray)] from rfl) (Reps.one (show Kd.M Kd.string _ _ _ (⟨#[60, 61]⟩ : ByteArray) [.string (⟨#[60, 61]⟩ : ByteArray)] from rfl) (Reps.one (show Kd.M Kd.string _ _ _ (⟨#[62]⟩ : ByteArray) [.string (⟨#[62]⟩ : ByteArray)] from rfl) (Reps.one (show Kd.M Kd.string _ _ _ (⟨#[62, 61]⟩ : ByteArray) [.string (⟨#[62, 61]⟩ : ByteArray)] from rfl) (Reps.one (show Kd.M Kd.string _ _ _ (⟨#[60, 61]⟩ : ByteArray) [.string (⟨#[60, 61]⟩ : ByteArray)] from rfl) (Reps.one (show Kd.M Kd.string _ _ _ (⟨#[62, 61]⟩ : ByteArray) [.string (⟨#[62, 61]⟩ : ByteArray)] from rfl) (Reps.none _ _))))))))))
                      intro v293 w65 ho66 hb hg_ hnew_
                      clear hg_ hnew_
                      (first | rw [← Ny292.out] at ho66 | (simp only [Int.reduceToNat] at ho66; rw [← Ny292.out] at ho66))
                      have n1_ := Aside0.mk (Kd.R_lower (Kd.R_newM (M := fun k_ => (w.heap.size ≤ k_)) ho66 (keep_size (w := w) (g := g) (row := none) (by repeat (first | (with_reducible first | exact HK.out | apply KeepBut.set_ | apply keep_drewN | apply keep_drew | apply keep_alloc | refine keep_far ?_ GW241.out _ | refine keep_far ?_ GW291.out _) | exact HK.out))) (fun k_ h_ => h_)) (keep_size (w := w) (g := g) (row := none) (by repeat (first | (with_reducible first | exact HK.out | apply KeepBut.set_ | apply keep_drewN | apply keep_drew | apply keep_alloc | refine keep_far ?_ GW241.out _ | refine keep_far ?_ GW291.out _) | exact HK.out))))
                      have n2_ := Aside0.mk (blk_below (g := gb241) (o := .cells #[.int .i64 0, .string (⟨#[]⟩ : ByteArray), .int .i64 0, .string (⟨#[]⟩ : ByteArray), .string (⟨#[]⟩ : ByteArray), .slice none 0 0] 24 (0, 0)) (by (with_reducible repeat (first | refine blk_drewN ?_ _ | refine blk_drew ?_ | refine blk_alloc ?_ _)); exact BK241.out) hb)
                      have n4_ := Aside0.mk (blk_below (g := gb291) (o := .cells #[.int .i64 t282, .string t283, .int .i64 t284, .string t285, .string t286, .slice Ao62 t287.length co62] 24 (0, 0)) (by (with_reducible repeat (first | refine blk_drewN ?_ _ | refine blk_drew ?_ | refine blk_alloc ?_ _)); exact BK291.out) hb)
                      have n5_ := Aside0.mk (KeepBut.trans (by repeat (first | (with_reducible first | exact HK.out | apply KeepBut.set_ | apply keep_drewN | apply keep_drew | apply keep_alloc | refine keep_far ?_ GW241.out _ | refine keep_far ?_ GW291.out _) | exact HK.out)) (KeepBut.of_below hb g none) (.inl rfl))
                      have n6_ := Aside0.mk (below_step (by repeat (first | (with_reducible first | exact HB.out | apply below_alloc | apply pw_below_drewN | apply below_drew1 | refine below_set ?_ GE241.out | refine below_set ?_ GE291.out) | exact HB.out)) hb)
                      have z_HO289 := fun (h0_ : b 11 = false) => (show Kd.N k24 24 w65 w.heap.size (fun k_ => (w.heap.size ≤ k_) ∧ k_ ≠ g ∧ k_ ≠ gb241 ∧ k_ ≠ gb291) (.slice Ao62 t287.length co62) t287 from by first | exact (Kd.N_elder' (by (with_reducible repeat (first | apply Kd.N_alloc | apply Kd.N_drewN | apply Kd.N_drew)); exact (Q_HO289 h0_)) (Kd.R_base ho66) hb) | exact Kd.N_mono (Kd.N_elder' (by (with_reducible repeat (first | apply Kd.N_alloc | apply Kd.N_drewN | apply Kd.N_drew)); exact (Q_HO289 h0_)) (Kd.R_base ho66) hb) (fun _ h_ => by first | trivial | exact h_ | exact h_.1))
                      have z_HI0 := fun (h0_ : b 10 = false) => (show IsS32 w0 w65 g s0_0 t290 s0_2 s0_3 from by first | exact (IsS32.below (by repeat (first | (with_reducible first | exact (Q_HI0 h0_) | apply IsS32.alloc | apply IsS32.drewN | apply IsS32.drew | apply IsS32.set_1 | refine IsS32.far ?_ NB0_241.out _ | refine IsS32.far ?_ NB0_291.out _) | exact (Q_HI0 h0_))) hb))
                      have z_HO303 := fun (h0_ : b 10 = true) (h1_ : b 11 = false) => (show Kd.N k24 24 w65 w.heap.size (fun k_ => (w.heap.size ≤ k_) ∧ some k_ ≠ (.slice Ao62 t287.length co62 : Value).ownBlock ∧ k_ ≠ g ∧ k_ ≠ gb241 ∧ k_ ≠ gb291) v302 t301 from by first | exact (Kd.N_elder' (by (with_reducible repeat (first | apply Kd.N_alloc | apply Kd.N_drewN | apply Kd.N_drew)); exact (Q_HO303 h0_ h1_)) (Kd.R_base ho66) hb) | exact Kd.N_mono (Kd.N_elder' (by (with_reducible repeat (first | apply Kd.N_alloc | apply Kd.N_drewN | apply Kd.N_drew)); exact (Q_HO303 h0_ h1_)) (Kd.R_base ho66) hb) (fun _ h_ => by first | trivial | exact h_ | exact h_.1))
                      have z_HI0_e10 := fun (h0_ : b 10 = true) => (show IsS32 w0 w65 g s0_0 t304 s0_2 s0_3 from by first | exact (IsS32.below (by repeat (first | (with_reducible first | exact (Q_HI0_e10 h0_) | apply IsS32.alloc | apply IsS32.drewN | apply IsS32.drew | apply IsS32.set_1 | refine IsS32.far ?_ NB0_241.out _ | refine IsS32.far ?_ NB0_291.out _) | exact (Q_HI0_e10 h0_))) hb))
                      have z_HO307 := fun (h0_ : b 11 = true) => (show Kd.N k24 24 w65 w.heap.size (fun k_ => (w.heap.size ≤ k_) ∧ k_ ≠ g ∧ k_ ≠ gb241 ∧ k_ ≠ gb291) v306 y305 from by first | exact (Kd.N_elder' (by (with_reducible repeat (first | apply Kd.N_alloc | apply Kd.N_drewN | apply Kd.N_drew)); exact (Q_HO307 h0_)) (Kd.R_base ho66) hb) | exact Kd.N_mono (Kd.N_elder' (by (with_reducible repeat (first | apply Kd.N_alloc | apply Kd.N_drewN | apply Kd.N_drew)); exact (Q_HO307 h0_)) (Kd.R_base ho66) hb) (fun _ h_ => by first | trivial | exact h_ | exact h_.1))
                      clear BK241
                      clear BK291
                      clear HK
                      clear HB
                      have HO294 := n1_
                      have BK241 := n2_
                      have BK291 := n4_
                      have HK := n5_
                      have HB := n6_
                      clear n1_ n2_ n4_ n5_ n6_
                      clear hb ho66
                      obtain ⟨Ao67, co67, eo67⟩ := Kd.R_slice HO294.out
                      subst eo67
                      obtain ⟨ado67, fo67, _⟩ := Kd.at_string (Kd.R_reads' HO294.out).2.2 0 (by decide) (by rw [Ny292.out]; simp)
                      cases fo67
                      refine hK.out _ _ ⟨.slice (some ado67) y292.length co67, ado67, v302, v306, m4_, m10_, m12_, (by rw [ha.out]; exact putSel_upk 0 hb_ rfl rfl rfl), z_HO289, fun _ => (by (with_reducible repeat (first | refine blk_drewN ?_ _ | refine blk_drew ?_ | refine blk_alloc ?_ _)); exact BK241.out), (by (with_reducible repeat (first | refine blk_drewN ?_ _ | refine blk_drew ?_ | refine blk_alloc ?_ _)); exact BK291.out), z_HI0, (by repeat (first | (with_reducible first | exact HK.out | apply KeepBut.set_ | apply keep_drewN | apply keep_drew | apply keep_alloc | refine keep_far ?_ GW241.out _ | refine keep_far ?_ GW291.out _) | exact HK.out)), (by repeat (first | (with_reducible first | exact HB.out | apply below_alloc | apply pw_below_drewN | apply below_drew1 | refine below_set ?_ GE241.out | refine below_set ?_ GE291.out) | exact HB.out)), fun _ => (by (with_reducible repeat (first | apply Kd.R_alloc | apply Kd.R_drewN | apply Kd.R_drew)); exact Kd.R_mono HO294.out (fun _ hk => hk.1)), fun _ => ⟨_, rfl⟩, z_HO303, z_HI0_e10, z_HO307, fun h0_ => absurd ((hoff 13 (by kernel_rfl)).symm.trans h0_) (by decide), fun h0_ => absurd ((hoff 4 (by kernel_rfl)).symm.trans h0_) (by decide), Q_X10_, fun h0_ => absurd ((hoff 12 (by kernel_rfl)).symm.trans h0_) (by decide)⟩
                    refine steps_cons ?_ ?_
                    · rintro b a w' ⟨v293, adz_v293, v302, v306, m4_, m10_, m12_, ha, Q_HO289, Q_BK241, Q_BK291, Q_HI0, Q_HK, Q_HB, Q_HO294, Q_HA_HO294, Q_HO303, Q_HI0_e10, Q_HO307, Q_BK241_e13, Q_X4_, Q_X10_, Q_X12_⟩ hb_ hon hoff
                      refine ⟨_, rfl, fun K hK => ?_⟩
                      have e62 : a.tmps[62]? = some (.int .i64 t242) := by rw [ha]; exact (putSel_off rfl).trans rfl
                      replace ha := Aside0.mk ha
                      have BK241 := Aside0.mk (Q_BK241 (hoff 13 (by kernel_rfl)))
                      have BK291 := Aside0.mk Q_BK291
                      have HK := Aside0.mk Q_HK
                      have HB := Aside0.mk Q_HB
                      refine value_ (w1 := w') (v := .int .i64 (wrap64 (Int.tdiv t242 8))) (by rfl) rfl ?_ ?_
                      · go_simp
                        (try simp only [i64_w])
                        try rfl
                      refine hK.out _ _ ⟨v293, adz_v293, v302, v306, m4_, m10_, m12_, (by rw [ha.out]; exact putSel_upk 1 hb_ rfl rfl rfl), Q_HO289, Q_BK241, Q_BK291, Q_HI0, Q_HK, Q_HB, Q_HO294, Q_HA_HO294, Q_HO303, Q_HI0_e10, Q_HO307, fun h0_ => absurd ((hoff 13 (by kernel_rfl)).symm.trans h0_) (by decide), fun h0_ => absurd ((hoff 4 (by kernel_rfl)).symm.trans h0_) (by decide), Q_X10_, fun h0_ => absurd ((hoff 12 (by kernel_rfl)).symm.trans h0_) (by decide)⟩
                    refine steps_cons ?_ ?_
                    · rintro b a w' ⟨v293, adz_v293, v302, v306, m4_, m10_, m12_, ha, Q_HO289, Q_BK241, Q_BK291, Q_HI0, Q_HK, Q_HB, Q_HO294, Q_HA_HO294, Q_HO303, Q_HI0_e10, Q_HO307, Q_BK241_e13, Q_X4_, Q_X10_, Q_X12_⟩ hb_ hon hoff
                      refine ⟨_, rfl, fun K hK => ?_⟩
                      have e63 : a.tmps[63]? = some (.int .i64 (wrap64 (Int.tdiv t242 8))) := by rw [ha]; exact putSel_on (e := (2, 63, .int .i64 (wrap64 (Int.tdiv t242 8)))) 1 rfl rfl (hon 2 (by kernel_rfl)) rfl
                      replace ha := Aside0.mk ha
                      have BK241 := Aside0.mk (Q_BK241 (hoff 13 (by kernel_rfl)))
                      have BK291 := Aside0.mk Q_BK291
                      have HK := Aside0.mk Q_HK
                      have HB := Aside0.mk Q_HB
                      refine value_ (w1 := w') (v := .int .i64 ji53) (by rfl) rfl ?_ ?_
                      · go_simp
                        (try simp only [i64_w])
                        try rfl
                      refine hK.out _ _ ⟨v293, adz_v293, v302, v306, m4_, m10_, m12_, (by rw [ha.out]; exact putSel_upk 2 hb_ rfl rfl rfl), Q_HO289, Q_BK241, Q_BK291, Q_HI0, Q_HK, Q_HB, Q_HO294, Q_HA_HO294, Q_HO303, Q_HI0_e10, Q_HO307, fun h0_ => absurd ((hoff 13 (by kernel_rfl)).symm.trans h0_) (by decide), fun h0_ => absurd ((hoff 4 (by kernel_rfl)).symm.trans h0_) (by decide), Q_X10_, fun h0_ => absurd ((hoff 12 (by kernel_rfl)).symm.trans h0_) (by decide)⟩
                    refine steps_cons ?_ ?_
                    · rintro b a w' ⟨v293, adz_v293, v302, v306, m4_, m10_, m12_, ha, Q_HO289, Q_BK241, Q_BK291, Q_HI0, Q_HK, Q_HB, Q_HO294, Q_HA_HO294, Q_HO303, Q_HI0_e10, Q_HO307, Q_BK241_e13, Q_X4_, Q_X10_, Q_X12_⟩ hb_ hon hoff
                      refine ⟨_, rfl, fun K hK => ?_⟩
                      have e61 : a.tmps[61]? = some (v293) := by rw [ha]; exact putSel_on (e := (0, 61, v293)) 0 rfl rfl (hon 0 (by kernel_rfl)) rfl
                      have e64 : a.tmps[64]? = some (.int .i64 ji53) := by rw [ha]; exact putSel_on (e := (3, 64, .int .i64 ji53)) 2 rfl rfl (hon 3 (by kernel_rfl)) rfl
                      replace ha := Aside0.mk ha
                      have BK241 := Aside0.mk (Q_BK241 (hoff 13 (by kernel_rfl)))
                      have BK291 := Aside0.mk Q_BK291
                      have HK := Aside0.mk Q_HK
                      have HB := Aside0.mk Q_HB
                      have HO294 := Aside0.mk (Q_HO294 (hon 0 (by kernel_rfl)))
                      have HA_HO294 := Aside0.mk (Q_HA_HO294 (hon 0 (by kernel_rfl)))
                      obtain ⟨c_, hv_⟩ := HA_HO294.out
                      rw [hv_] at e61
                      refine value_ (w1 := w') (v := .pointer (some (adz_v293.add ((ji53)).toNat))) (by rfl) rfl ?_ ?_
                      · go_simp
                        (try simp only [i64_w])
                        try rfl
                      refine hK.out _ _ ⟨v293, adz_v293, v302, v306, (.pointer (some (adz_v293.add ((ji53)).toNat))), m10_, m12_, (by rw [ha.out]; exact putSel_upk 3 hb_ rfl rfl rfl), Q_HO289, Q_BK241, Q_BK291, Q_HI0, Q_HK, Q_HB, Q_HO294, Q_HA_HO294, Q_HO303, Q_HI0_e10, Q_HO307, fun h0_ => absurd ((hoff 13 (by kernel_rfl)).symm.trans h0_) (by decide), fun _ => rfl, Q_X10_, fun h0_ => absurd ((hoff 12 (by kernel_rfl)).symm.trans h0_) (by decide)⟩
                    refine steps_cons ?_ ?_
                    · rintro b a w' ⟨v293, adz_v293, v302, v306, m4_, m10_, m12_, ha, Q_HO289, Q_BK241, Q_BK291, Q_HI0, Q_HK, Q_HB, Q_HO294, Q_HA_HO294, Q_HO303, Q_HI0_e10, Q_HO307, Q_BK241_e13, Q_X4_, Q_X10_, Q_X12_⟩ hb_ hon hoff
                      refine ⟨_, rfl, fun K hK => ?_⟩
                      have e65 : a.tmps[65]? = some (m4_) := by rw [ha]; exact putSel_on (e := (4, 65, m4_)) 3 rfl rfl (hon 4 (by kernel_rfl)) rfl
                      rw [Q_X4_ (hon 4 (by kernel_rfl))] at e65
                      replace ha := Aside0.mk ha
                      have BK241 := Aside0.mk (Q_BK241 (hoff 13 (by kernel_rfl)))
                      have BK291 := Aside0.mk Q_BK291
                      have HK := Aside0.mk Q_HK
                      have HB := Aside0.mk Q_HB
                      have HO294 := Aside0.mk (Q_HO294 (hon 0 (by kernel_rfl)))
                      have HA_HO294 := Aside0.mk (Q_HA_HO294 (hon 0 (by kernel_rfl)))
                      obtain ⟨c_, hv_⟩ := HA_HO294.out
                      have hF_ := HO294.out
                      rw [hv_] at hF_
                      obtain ⟨ad_, ea_, hx_⟩ := Kd.at_string (Kd.R_reads' hF_).2.2 (ji53) (of_eq_true pi295) (of_eq_true qi295)
                      cases ea_
                      refine value_ (w1 := w') (v := .string (rdOf ByteArray.empty y292 (ji53))) (by rfl) rfl ?_ ?_
                      · go_simp
                        (try simp only [i64_w])
                        try rfl
                      refine hK.out _ _ ⟨v293, adz_v293, v302, v306, m4_, m10_, m12_, (by rw [ha.out]; exact putSel_upk 4 hb_ rfl rfl rfl), Q_HO289, Q_BK241, Q_BK291, Q_HI0, Q_HK, Q_HB, Q_HO294, Q_HA_HO294, Q_HO303, Q_HI0_e10, Q_HO307, fun h0_ => absurd ((hoff 13 (by kernel_rfl)).symm.trans h0_) (by decide), Q_X4_, Q_X10_, fun h0_ => absurd ((hoff 12 (by kernel_rfl)).symm.trans h0_) (by decide)⟩
                    refine steps_cons ?_ ?_
                    · rintro b a w' ⟨v293, adz_v293, v302, v306, m4_, m10_, m12_, ha, Q_HO289, Q_BK241, Q_BK291, Q_HI0, Q_HK, Q_HB, Q_HO294, Q_HA_HO294, Q_HO303, Q_HI0_e10, Q_HO307, Q_BK241_e13, Q_X4_, Q_X10_, Q_X12_⟩ hb_ hon hoff
                      refine ⟨_, rfl, fun K hK => ?_⟩
                      have e11 : a.tmps[11]? = some (.pointer (some ⟨gb291, 0, none⟩)) := by rw [ha]; exact (putSel_off rfl).trans rfl
                      replace ha := Aside0.mk ha
                      have HO289 := Aside0.mk (Q_HO289 (hoff 11 (by kernel_rfl)))
                      have BK241 := Aside0.mk (Q_BK241 (hoff 13 (by kernel_rfl)))
                      have BK291 := Aside0.mk Q_BK291
                      have HK := Aside0.mk Q_HK
                      have HB := Aside0.mk Q_HB
                      have hc0_ : w'.cell? ⟨gb291, 0, none⟩ = some (.int .i64 t282) := (blk_cell BK291.out 0).trans rfl
                      have hc1_ : w'.cell? ⟨gb291, 1, none⟩ = some (.string t283) := (blk_cell BK291.out 1).trans rfl
                      have hc2_ : w'.cell? ⟨gb291, 2, none⟩ = some (.int .i64 t284) := (blk_cell BK291.out 2).trans rfl
                      have hc3_ : w'.cell? ⟨gb291, 3, none⟩ = some (.string t285) := (blk_cell BK291.out 3).trans rfl
                      have hc4_ : w'.cell? ⟨gb291, 4, none⟩ = some (.string t286) := (blk_cell BK291.out 4).trans rfl
                      have hc5_ : w'.cell? ⟨gb291, 5, none⟩ = some (.slice Ao62 t287.length co62) := (blk_cell BK291.out 5).trans rfl
                      refine value_ (w1 := w') (v := .agg #[.int .i64 t282, .string t283, .int .i64 t284, .string t285, .string t286, .slice Ao62 t287.length co62]) (by rfl) rfl ?_ ?_
                      · go_simp
                        (try simp only [i64_w])
                        try rfl
                      refine hK.out _ _ ⟨v293, adz_v293, v302, v306, m4_, m10_, m12_, (by rw [ha.out]; exact putSel_upk 5 hb_ rfl rfl rfl), Q_HO289, Q_BK241, Q_BK291, Q_HI0, Q_HK, Q_HB, Q_HO294, Q_HA_HO294, Q_HO303, Q_HI0_e10, fun h0_ => absurd ((hoff 11 (by kernel_rfl)).symm.trans h0_) (by decide), fun h0_ => absurd ((hoff 13 (by kernel_rfl)).symm.trans h0_) (by decide), Q_X4_, Q_X10_, fun h0_ => absurd ((hoff 12 (by kernel_rfl)).symm.trans h0_) (by decide)⟩
                    refine steps_cons ?_ ?_
                    · rintro b a w' ⟨v293, adz_v293, v302, v306, m4_, m10_, m12_, ha, Q_HO289, Q_BK241, Q_BK291, Q_HI0, Q_HK, Q_HB, Q_HO294, Q_HA_HO294, Q_HO303, Q_HI0_e10, Q_HO307, Q_BK241_e13, Q_X4_, Q_X10_, Q_X12_⟩ hb_ hon hoff
                      refine ⟨_, rfl, fun K hK => ?_⟩
                      have e68 : a.tmps[68]? = some (.pointer (some ⟨g, 0, none⟩)) := by rw [ha]; exact (putSel_off rfl).trans rfl
                      have e69 : a.tmps[69]? = some (.string a1) := by rw [ha]; exact (putSel_off rfl).trans rfl
                      have e70 : a.tmps[70]? = some (.string a2) := by rw [ha]; exact (putSel_off rfl).trans rfl
                      replace ha := Aside0.mk ha
                      have HO289 := Aside0.mk (Q_HO289 (hoff 11 (by kernel_rfl)))
                      have BK241 := Aside0.mk (Q_BK241 (hoff 13 (by kernel_rfl)))
                      have BK291 := Aside0.mk Q_BK291
                      have HI0 := Aside0.mk (Q_HI0 hb_)
                      have HK := Aside0.mk Q_HK
                      have HB := Aside0.mk Q_HB
                      refine goes_ Tryd.func33 (by kernel_rfl) rfl #[.pointer (some ⟨g, 0, none⟩), .string a1, .string a2, .int .i64 1] (by rfl) rfl rfl (by first | (simp only [List.map_toArray, List.map_cons, List.map_nil, Act.eval, Array.getD_eq_getD_getElem?, Option.getD_some, e68, e69, e70]; done) | (simp only [List.map_toArray, List.map_cons, List.map_nil, Act.eval, Array.getD_eq_getD_getElem?, Option.getD_some, e68, e69, e70]; rfl)) ?_
                      with_reducible refine (jettisonlaw08_feed_number.calls kj18 g s0_0 t290 s0_2 s0_3 a1 a2 1 t296 t297 t298 t299 t300 t301 t304 w0 _ ?side1 ?side2 A56.out).mono ?_
                      (case side1 => repeat (first | (with_reducible first | exact HI0.out | apply IsS32.alloc | apply IsS32.drewN | apply IsS32.drew | apply IsS32.set_1 | refine IsS32.far ?_ NB0_241.out _ | refine IsS32.far ?_ NB0_291.out _) | exact HI0.out))
                      (case side2 => repeat (first | (with_reducible first | exact HB.out | apply below_alloc | apply pw_below_drewN | apply below_drew1 | refine below_set ?_ (IsS32.ge HI0.out) | refine below_set ?_ GE241.out | refine below_set ?_ GE291.out) | exact HB.out))
                      rintro e w65 ⟨v302, rfl, ho0, hi, hb, hk⟩
                      refine ⟨_, rfl, ?_⟩
                      have n0_ := Aside0.mk (KeepBut.blk hk (g' := gb241) (o := .cells #[.int .i64 0, .string (⟨#[]⟩ : ByteArray), .int .i64 0, .string (⟨#[]⟩ : ByteArray), .string (⟨#[]⟩ : ByteArray), .slice none 0 0] 24 (0, 0)) (by (with_reducible repeat (first | refine blk_drewN ?_ _ | refine blk_drew ?_ | refine blk_alloc ?_ _)); exact BK241.out) NB241_0.out (by simp))
                      have n1_ := Aside0.mk (Kd.N_mono (Kd.N_told (Kd.N_oldK (Kd.N_mono (ok := fun k_ => (((w.heap.size ≤ k_)) ∧ (k_ ≠ gb241 ∧ (k_ ≠ g ∧ k_ ≠ gb291)))) (by (with_reducible repeat (first | apply Kd.N_alloc | apply Kd.N_drewN | apply Kd.N_drew)); exact Kd.N_mono HO289.out (fun _ hk_ => (by first | omega | (dsimp only at *; omega) | (simp_all; done)))) (fun k_ hk_ => (⟨hk_, hk_.2.2.1⟩ : _ ∧ k_ ≠ g))) hk) (Kd.N_base ho0)) (fun _ h_ => h_.1))
                      have n2_ := Aside0.mk (KeepBut.blk hk (g' := gb291) (o := .cells #[.int .i64 t282, .string t283, .int .i64 t284, .string t285, .string t286, .slice Ao62 t287.length co62] 24 (0, 0)) (by (with_reducible repeat (first | refine blk_drewN ?_ _ | refine blk_drew ?_ | refine blk_alloc ?_ _)); exact BK291.out) NB291_0.out (by simp))
                      have n3_ := Aside0.mk (Kd.N_lower (Kd.N_mono (ok' := fun k_ => (w.heap.size ≤ k_) ∧ some k_ ≠ (.slice Ao62 t287.length co62 : Value).ownBlock ∧ k_ ≠ gb241 ∧ k_ ≠ gb291 ∧ k_ ≠ g) ho0 (fun k_ hk_ => ⟨(Nat.le_trans (keep_size (w := w) (g := g) (row := none) (by repeat (first | (with_reducible first | exact HK.out | apply KeepBut.set_ | apply keep_drewN | apply keep_drew | apply keep_alloc | refine keep_far ?_ GW241.out _ | refine keep_far ?_ GW291.out _) | exact HK.out))) hk_), (Kd.fresh' (Kd.N_lt (by (with_reducible repeat (first | apply Kd.N_alloc | apply Kd.N_drewN | apply Kd.N_drew)); exact HO289.out)) k_ hk_), (Kd.freshB (g := gb241) (o := .cells #[.int .i64 0, .string (⟨#[]⟩ : ByteArray), .int .i64 0, .string (⟨#[]⟩ : ByteArray), .string (⟨#[]⟩ : ByteArray), .slice none 0 0] 24 (0, 0)) (by (with_reducible repeat (first | refine blk_drewN ?_ _ | refine blk_drew ?_ | refine blk_alloc ?_ _)); exact BK241.out) k_ hk_), (Kd.freshB (g := gb291) (o := .cells #[.int .i64 t282, .string t283, .int .i64 t284, .string t285, .string t286, .slice Ao62 t287.length co62] 24 (0, 0)) (by (with_reducible repeat (first | refine blk_drewN ?_ _ | refine blk_drew ?_ | refine blk_alloc ?_ _)); exact BK291.out) k_ hk_), (IsS32.fresh (by repeat (first | (with_reducible first | exact HI0.out | apply IsS32.alloc | apply IsS32.drewN | apply IsS32.drew | apply IsS32.set_1 | refine IsS32.far ?_ NB0_241.out _ | refine IsS32.far ?_ NB0_291.out _) | exact HI0.out)) k_ hk_)⟩)) (keep_size (w := w) (g := g) (row := none) (by repeat (first | (with_reducible first | exact HK.out | apply KeepBut.set_ | apply keep_drewN | apply keep_drew | apply keep_alloc | refine keep_far ?_ GW241.out _ | refine keep_far ?_ GW291.out _) | exact HK.out))))
                      have n4_ := Aside0.mk (KeepBut.trans (by repeat (first | (with_reducible first | exact HK.out | apply KeepBut.set_ | apply keep_drewN | apply keep_drew | apply keep_alloc | refine keep_far ?_ GW241.out _ | refine keep_far ?_ GW291.out _) | exact HK.out)) hk (.inl rfl))
                      have n5_ := Aside0.mk (hb)
                      have n6_ := Aside0.mk (hi)
                      have z_HO294 := fun (h0_ : b 0 = true) => (show Kd.R Kd.string 9 w65 w.heap.size (fun k_ => (w.heap.size ≤ k_)) v293 y292 from by first | exact (Kd.R_mono (Kd.R_keep (IsS32.apart (show IsS32 w0 _ g s0_0 t290 s0_2 s0_3 from by repeat (first | (with_reducible first | exact HI0.out | apply IsS32.alloc | apply IsS32.drewN | apply IsS32.drew | apply IsS32.set_1 | refine IsS32.far ?_ NB0_241.out _ | refine IsS32.far ?_ NB0_291.out _) | exact HI0.out)) (by (with_reducible repeat (first | apply Kd.R_alloc | apply Kd.R_drewN | apply Kd.R_drew)); exact (Q_HO294 h0_)) (by decide)) hk (fun _ h => h.2)) (fun _ h => h.1)) | exact Kd.R_mono (Kd.R_mono (Kd.R_keep (IsS32.apart (show IsS32 w0 _ g s0_0 t290 s0_2 s0_3 from by repeat (first | (with_reducible first | exact HI0.out | apply IsS32.alloc | apply IsS32.drewN | apply IsS32.drew | apply IsS32.set_1 | refine IsS32.far ?_ NB0_241.out _ | refine IsS32.far ?_ NB0_291.out _) | exact HI0.out)) (by (with_reducible repeat (first | apply Kd.R_alloc | apply Kd.R_drewN | apply Kd.R_drew)); exact (Q_HO294 h0_)) (by decide)) hk (fun _ h => h.2)) (fun _ h => h.1)) (fun _ h_ => by first | trivial | exact h_ | exact h_.1))
                      clear BK241
                      clear HO289
                      clear BK291
                      clear HK
                      clear HB
                      clear HI0
                      have BK241 := n0_
                      have HO289 := n1_
                      have BK291 := n2_
                      have HO303 := n3_
                      have HK := n4_
                      have HB := n5_
                      have HI0 := n6_
                      clear n0_ n1_ n2_ n3_ n4_ n5_ n6_
                      (try clear hb)
                      (try clear hb2)
                      (try clear hk)
                      (try clear hi)
                      (try clear ho0)
                      refine hK.out _ _ ⟨v293, adz_v293, v302, v306, m4_, (.agg #[.int .i64 t296, .string t297, .int .i64 t298, .string t299, .string t300, v302]), m12_, (by rw [ha.out]; exact putSel_upk 6 hb_ rfl rfl rfl), fun _ => (by (with_reducible repeat (first | apply Kd.N_alloc | apply Kd.N_drewN | apply Kd.N_drew)); exact Kd.N_mono HO289.out (fun _ hk => (by first | omega | (dsimp only at *; omega) | (simp_all; done)))), fun _ => (by (with_reducible repeat (first | refine blk_drewN ?_ _ | refine blk_drew ?_ | refine blk_alloc ?_ _)); exact BK241.out), (by (with_reducible repeat (first | refine blk_drewN ?_ _ | refine blk_drew ?_ | refine blk_alloc ?_ _)); exact BK291.out), fun h0_ => absurd ((up_self b 10).symm.trans h0_) (by decide), (by repeat (first | (with_reducible first | exact HK.out | apply KeepBut.set_ | apply keep_drewN | apply keep_drew | apply keep_alloc | refine keep_far ?_ GW241.out _ | refine keep_far ?_ GW291.out _) | exact HK.out)), (by repeat (first | (with_reducible first | exact HB.out | apply below_alloc | apply pw_below_drewN | apply below_drew1 | refine below_set ?_ (IsS32.ge HI0.out) | refine below_set ?_ GE241.out | refine below_set ?_ GE291.out) | exact HB.out)), z_HO294, Q_HA_HO294, fun _ _ => (by (with_reducible repeat (first | apply Kd.N_alloc | apply Kd.N_drewN | apply Kd.N_drew)); exact Kd.N_mono HO303.out (fun _ hk => (by first | omega | (dsimp only at *; omega) | (simp_all; done)))), fun _ => (by repeat (first | (with_reducible first | exact HI0.out | apply IsS32.alloc | apply IsS32.drewN | apply IsS32.drew | apply IsS32.set_1 | refine IsS32.far ?_ NB0_241.out _ | refine IsS32.far ?_ NB0_291.out _) | exact HI0.out)), fun h0_ => absurd ((hoff 11 (by kernel_rfl)).symm.trans h0_) (by decide), fun h0_ => absurd ((hoff 13 (by kernel_rfl)).symm.trans h0_) (by decide), Q_X4_, fun _ => rfl, fun h0_ => absurd ((hoff 12 (by kernel_rfl)).symm.trans h0_) (by decide)⟩
                    refine steps_cons ?_ ?_
                    · rintro b a w' ⟨v293, adz_v293, v302, v306, m4_, m10_, m12_, ha, Q_HO289, Q_BK241, Q_BK291, Q_HI0, Q_HK, Q_HB, Q_HO294, Q_HA_HO294, Q_HO303, Q_HI0_e10, Q_HO307, Q_BK241_e13, Q_X4_, Q_X10_, Q_X12_⟩ hb_ hon hoff
                      refine ⟨_, rfl, fun K hK => ?_⟩
                      have e67 : a.tmps[67]? = some (.agg #[.int .i64 t282, .string t283, .int .i64 t284, .string t285, .string t286, .slice Ao62 t287.length co62]) := by rw [ha]; exact putSel_on (e := (6, 67, .agg #[.int .i64 t282, .string t283, .int .i64 t284, .string t285, .string t286, .slice Ao62 t287.length co62])) 5 rfl rfl (hon 6 (by kernel_rfl)) rfl
                      have e71 : a.tmps[71]? = some (m10_) := by rw [ha]; exact putSel_on (e := (10, 71, m10_)) 6 rfl rfl (hon 10 (by kernel_rfl)) rfl
                      rw [Q_X10_ (hon 10 (by kernel_rfl))] at e71
                      replace ha := Aside0.mk ha
                      have HO289 := Aside0.mk (Q_HO289 hb_)
                      have BK241 := Aside0.mk (Q_BK241 (hoff 13 (by kernel_rfl)))
                      have BK291 := Aside0.mk Q_BK291
                      have HK := Aside0.mk Q_HK
                      have HB := Aside0.mk Q_HB
                      have HO303 := Aside0.mk (Q_HO303 (hon 10 (by kernel_rfl)) hb_)
                      have HI0 := Aside0.mk (Q_HI0_e10 (hon 10 (by kernel_rfl)))
                      obtain ⟨Ao67, co67, eo67⟩ := Kd.N_slice HO303.out
                      (first | subst eo67 | (injection eo67 with f1_ f2_ f3_; have f4_ := f1_.symm; have f5_ := f3_.symm; clear f1_ f2_ f3_; subst f4_; subst f5_))
                      refine Kd.N_lit_step k24 _ 24 ?hg (N' := 72) ?hd (xs := ([(⟨t282, t283, t284, t285, t286, t287⟩ : S24), (⟨t296, t297, t298, t299, t300, t301⟩ : S24)] : List (S24))) (inner := [.int .i64 t282, .string t283, .int .i64 t284, .string t285, .string t286, .slice Ao62 t287.length co62, .int .i64 t296, .string t297, .int .i64 t298, .string t299, .string t300, .slice Ao67 t301.length co67]) (ok := (fun k_ => (w.heap.size ≤ k_) ∧ k_ ≠ gb241 ∧ k_ ≠ gb291 ∧ k_ ≠ g)) (okp := (fun k_ => (w.heap.size ≤ k_) ∧ k_ ≠ gb241 ∧ k_ ≠ gb291 ∧ k_ ≠ g)) ?hr ?hp (fun _ hk => hk) ((show ∀ k_, w'.heap.size ≤ k_ → (fun k_ => (w.heap.size ≤ k_) ∧ k_ ≠ gb241 ∧ k_ ≠ gb291 ∧ k_ ≠ g) k_ from fun k_ hk => ⟨(Nat.le_trans (keep_size (w := w) (g := g) (row := none) (by repeat (first | (with_reducible first | exact HK.out | apply KeepBut.set_ | apply keep_drewN | apply keep_drew | apply keep_alloc | refine keep_far ?_ GW241.out _ | refine keep_far ?_ GW291.out _) | exact HK.out))) hk), Kd.freshB (g := gb241) (o := .cells #[.int .i64 0, .string (⟨#[]⟩ : ByteArray), .int .i64 0, .string (⟨#[]⟩ : ByteArray), .string (⟨#[]⟩ : ByteArray), .slice none 0 0] 24 (0, 0)) (by (with_reducible repeat (first | refine blk_drewN ?_ _ | refine blk_drew ?_ | refine blk_alloc ?_ _)); exact BK241.out) k_ hk, Kd.freshB (g := gb291) (o := .cells #[.int .i64 t282, .string t283, .int .i64 t284, .string t285, .string t286, .slice Ao62 t287.length co62] 24 (0, 0)) (by (with_reducible repeat (first | refine blk_drewN ?_ _ | refine blk_drew ?_ | refine blk_alloc ?_ _)); exact BK291.out) k_ hk, IsS32.fresh (by repeat (first | (with_reducible first | exact HI0.out | apply IsS32.alloc | apply IsS32.drewN | apply IsS32.drew | apply IsS32.set_1 | refine IsS32.far ?_ NB0_241.out _ | refine IsS32.far ?_ NB0_291.out _) | exact HI0.out)) k_ hk⟩) _ (Nat.le_refl _)) (Below.refl _ _) (Nat.le_refl _) (by simp) ?_; (case hd => rfl); (case hg => rfl); (case hr => first | (go_simp; done) | (go_simp; rfl)); (case hp => exact (Reps.c6 (show Kd.FK k24 _ _ (⟨t282, t283, t284, t285, t286, t287⟩ : S24) [.int .i64 t282, .string t283, .int .i64 t284, .string t285, .string t286, .slice Ao62 t287.length co62] from (k24_mkF _ _ (⟨t282, t283, t284, t285, t286, t287⟩ : S24) (Kd.N_reads' (Kd.N_mono (ok' := (fun k_ => (w.heap.size ≤ k_) ∧ k_ ≠ gb241 ∧ k_ ≠ gb291 ∧ k_ ≠ g)) (HO289.out) (fun k_ hk => (by first | omega | (dsimp only at *; omega) | (simp_all; done))))).2.1 (Kd.N_F (Kd.N_mono (ok' := (fun k_ => (w.heap.size ≤ k_) ∧ k_ ≠ gb241 ∧ k_ ≠ gb291 ∧ k_ ≠ g)) (HO289.out) (fun k_ hk => (by first | omega | (dsimp only at *; omega) | (simp_all; done))))))) (Reps.c6 (show Kd.FK k24 _ _ (⟨t296, t297, t298, t299, t300, t301⟩ : S24) [.int .i64 t296, .string t297, .int .i64 t298, .string t299, .string t300, .slice Ao67 t301.length co67] from (k24_mkF _ _ (⟨t296, t297, t298, t299, t300, t301⟩ : S24) (Kd.N_reads' (Kd.N_mono (ok' := (fun k_ => (w.heap.size ≤ k_) ∧ k_ ≠ gb241 ∧ k_ ≠ gb291 ∧ k_ ≠ g)) (HO303.out) (fun k_ hk => (by first | omega | (dsimp only at *; omega) | (simp_all; done))))).2.1 (Kd.N_F (Kd.N_mono (ok' := (fun k_ => (w.heap.size ≤ k_) ∧ k_ ≠ gb241 ∧ k_ ≠ gb291 ∧ k_ ≠ g)) (HO303.out) (fun k_ hk => (by first | omega | (dsimp only at *; omega) | (simp_all; done))))))) (Reps.none _ _))))
                      intro v306 w68 ho69 hb hg_ hnew_
                      clear hg_ hnew_
                      (first | rw [← Ny305.out] at ho69 | (simp only [Int.reduceToNat] at ho69; rw [← Ny305.out] at ho69))
                      have n0_ := Aside0.mk (Kd.N_lower ho69 (keep_size (w := w) (g := g) (row := none) (by repeat (first | (with_reducible first | exact HK.out | apply KeepBut.set_ | apply keep_drewN | apply keep_drew | apply keep_alloc | refine keep_far ?_ GW241.out _ | refine keep_far ?_ GW291.out _) | exact HK.out))))
                      have n1_ := Aside0.mk (blk_below (g := gb241) (o := .cells #[.int .i64 0, .string (⟨#[]⟩ : ByteArray), .int .i64 0, .string (⟨#[]⟩ : ByteArray), .string (⟨#[]⟩ : ByteArray), .slice none 0 0] 24 (0, 0)) (by (with_reducible repeat (first | refine blk_drewN ?_ _ | refine blk_drew ?_ | refine blk_alloc ?_ _)); exact BK241.out) hb)
                      have n2_ := Aside0.mk (IsS32.below (by repeat (first | (with_reducible first | exact HI0.out | apply IsS32.alloc | apply IsS32.drewN | apply IsS32.drew | apply IsS32.set_1 | refine IsS32.far ?_ NB0_241.out _ | refine IsS32.far ?_ NB0_291.out _) | exact HI0.out)) hb)
                      have n3_ := Aside0.mk (blk_below (g := gb291) (o := .cells #[.int .i64 t282, .string t283, .int .i64 t284, .string t285, .string t286, .slice Ao62 t287.length co62] 24 (0, 0)) (by (with_reducible repeat (first | refine blk_drewN ?_ _ | refine blk_drew ?_ | refine blk_alloc ?_ _)); exact BK291.out) hb)
                      have n4_ := Aside0.mk (KeepBut.trans (by repeat (first | (with_reducible first | exact HK.out | apply KeepBut.set_ | apply keep_drewN | apply keep_drew | apply keep_alloc | refine keep_far ?_ GW241.out _ | refine keep_far ?_ GW291.out _) | exact HK.out)) (KeepBut.of_below hb g none) (.inl rfl))
                      have n5_ := Aside0.mk (below_step (by repeat (first | (with_reducible first | exact HB.out | apply below_alloc | apply pw_below_drewN | apply below_drew1 | refine below_set ?_ (IsS32.ge HI0.out) | refine below_set ?_ GE241.out | refine below_set ?_ GE291.out) | exact HB.out)) hb)
                      have z_HO294 := fun (h0_ : b 0 = true) => (show Kd.R Kd.string 9 w68 w.heap.size (fun k_ => (w.heap.size ≤ k_)) v293 y292 from by first | exact (Kd.R_below (by (with_reducible repeat (first | apply Kd.R_alloc | apply Kd.R_drewN | apply Kd.R_drew)); exact (Q_HO294 h0_)) hb) | exact Kd.R_mono (Kd.R_below (by (with_reducible repeat (first | apply Kd.R_alloc | apply Kd.R_drewN | apply Kd.R_drew)); exact (Q_HO294 h0_)) hb) (fun _ h_ => by first | trivial | exact h_ | exact h_.1))
                      clear BK241
                      clear HI0
                      clear BK291
                      clear HK
                      clear HB
                      clear HO289
                      clear HO303
                      have HO307 := n0_
                      have BK241 := n1_
                      have HI0 := n2_
                      have BK291 := n3_
                      have HK := n4_
                      have HB := n5_
                      clear n0_ n1_ n2_ n3_ n4_ n5_
                      clear hb ho69
                      refine hK.out _ _ ⟨v293, adz_v293, .slice Ao67 t301.length co67, v306, m4_, m10_, m12_, (by rw [ha.out]; exact putSel_upk 7 hb_ rfl rfl rfl), fun h0_ => absurd ((up_self b 11).symm.trans h0_) (by decide), fun _ => (by (with_reducible repeat (first | refine blk_drewN ?_ _ | refine blk_drew ?_ | refine blk_alloc ?_ _)); exact BK241.out), (by (with_reducible repeat (first | refine blk_drewN ?_ _ | refine blk_drew ?_ | refine blk_alloc ?_ _)); exact BK291.out), fun h0_ => absurd ((hon 10 (by kernel_rfl)).symm.trans h0_) (by decide), (by repeat (first | (with_reducible first | exact HK.out | apply KeepBut.set_ | apply keep_drewN | apply keep_drew | apply keep_alloc | refine keep_far ?_ GW241.out _ | refine keep_far ?_ GW291.out _) | exact HK.out)), (by repeat (first | (with_reducible first | exact HB.out | apply below_alloc | apply pw_below_drewN | apply below_drew1 | refine below_set ?_ (IsS32.ge HI0.out) | refine below_set ?_ GE241.out | refine below_set ?_ GE291.out) | exact HB.out)), z_HO294, Q_HA_HO294, fun _ h1_ => absurd ((up_self b 11).symm.trans h1_) (by decide), fun _ => (by repeat (first | (with_reducible first | exact HI0.out | apply IsS32.alloc | apply IsS32.drewN | apply IsS32.drew | apply IsS32.set_1 | refine IsS32.far ?_ NB0_241.out _ | refine IsS32.far ?_ NB0_291.out _) | exact HI0.out)), fun _ => (by (with_reducible repeat (first | apply Kd.N_alloc | apply Kd.N_drewN | apply Kd.N_drew)); exact Kd.N_mono HO307.out (fun _ hk => ⟨hk.1, ⟨hk.2.2.2, ⟨hk.2.1, hk.2.2.1⟩⟩⟩)), fun h0_ => absurd ((hoff 13 (by kernel_rfl)).symm.trans h0_) (by decide), Q_X4_, Q_X10_, fun h0_ => absurd ((hoff 12 (by kernel_rfl)).symm.trans h0_) (by decide)⟩
                    refine steps_cons ?_ ?_
                    · rintro b a w' ⟨v293, adz_v293, v302, v306, m4_, m10_, m12_, ha, Q_HO289, Q_BK241, Q_BK291, Q_HI0, Q_HK, Q_HB, Q_HO294, Q_HA_HO294, Q_HO303, Q_HI0_e10, Q_HO307, Q_BK241_e13, Q_X4_, Q_X10_, Q_X12_⟩ hb_ hon hoff
                      refine ⟨_, rfl, fun K hK => ?_⟩
                      have e66 : a.tmps[66]? = some (.string (rdOf ByteArray.empty y292 (ji53))) := by rw [ha]; exact putSel_on (e := (5, 66, .string (rdOf ByteArray.empty y292 (ji53)))) 4 rfl rfl (hon 5 (by kernel_rfl)) rfl
                      have e72 : a.tmps[72]? = some (v306) := by rw [ha]; exact putSel_on (e := (11, 72, v306)) 7 rfl rfl (hon 11 (by kernel_rfl)) rfl
                      replace ha := Aside0.mk ha
                      have BK241 := Aside0.mk (Q_BK241 (hoff 13 (by kernel_rfl)))
                      have BK291 := Aside0.mk Q_BK291
                      have HK := Aside0.mk Q_HK
                      have HB := Aside0.mk Q_HB
                      have HO294 := Aside0.mk (Q_HO294 (hon 0 (by kernel_rfl)))
                      have HA_HO294 := Aside0.mk (Q_HA_HO294 (hon 0 (by kernel_rfl)))
                      have HI0 := Aside0.mk (Q_HI0_e10 (hon 10 (by kernel_rfl)))
                      have HO307 := Aside0.mk (Q_HO307 (hon 11 (by kernel_rfl)))
                      obtain ⟨Ao12_0, co12_0, eo_⟩ := Kd.N_slice HO307.out
                      subst eo_
                      refine value_ (w1 := w') (v := .agg #[.int .i64 3, .string (rdOf ByteArray.empty y292 (ji53)), .int .i64 0, .string (⟨#[]⟩ : ByteArray), .string (⟨#[]⟩ : ByteArray), .slice Ao12_0 y305.length co12_0]) (by rfl) rfl ?_ ?_
                      · go_simp
                        (try simp only [i64_w])
                        try rfl
                      refine hK.out _ _ ⟨v293, adz_v293, v302, .slice Ao12_0 y305.length co12_0, m4_, m10_, (.agg #[.int .i64 3, .string (rdOf ByteArray.empty y292 (ji53)), .int .i64 0, .string (⟨#[]⟩ : ByteArray), .string (⟨#[]⟩ : ByteArray), .slice Ao12_0 y305.length co12_0]), (by rw [ha.out]; exact putSel_upk 8 hb_ rfl rfl rfl), fun h0_ => absurd ((hon 11 (by kernel_rfl)).symm.trans h0_) (by decide), Q_BK241, Q_BK291, fun h0_ => absurd ((hon 10 (by kernel_rfl)).symm.trans h0_) (by decide), Q_HK, Q_HB, Q_HO294, Q_HA_HO294, fun _ h1_ => absurd ((hon 11 (by kernel_rfl)).symm.trans h1_) (by decide), Q_HI0_e10, Q_HO307, fun h0_ => absurd ((hoff 13 (by kernel_rfl)).symm.trans h0_) (by decide), Q_X4_, Q_X10_, fun _ => rfl⟩
                    refine steps_cons ?_ ?_
                    · rintro b a w' ⟨v293, adz_v293, v302, v306, m4_, m10_, m12_, ha, Q_HO289, Q_BK241, Q_BK291, Q_HI0, Q_HK, Q_HB, Q_HO294, Q_HA_HO294, Q_HO303, Q_HI0_e10, Q_HO307, Q_BK241_e13, Q_X4_, Q_X10_, Q_X12_⟩ hb_ hon hoff
                      refine ⟨_, rfl, fun K hK => ?_⟩
                      have e8 : a.tmps[8]? = some (.pointer (some ⟨gb241, 0, none⟩)) := by rw [ha]; exact (putSel_off rfl).trans rfl
                      have e73 : a.tmps[73]? = some (m12_) := by rw [ha]; exact putSel_on (e := (12, 73, m12_)) 8 rfl rfl (hon 12 (by kernel_rfl)) rfl
                      rw [Q_X12_ (hon 12 (by kernel_rfl))] at e73
                      replace ha := Aside0.mk ha
                      have BK241 := Aside0.mk (Q_BK241 hb_)
                      have BK291 := Aside0.mk Q_BK291
                      have HK := Aside0.mk Q_HK
                      have HB := Aside0.mk Q_HB
                      have HO294 := Aside0.mk (Q_HO294 (hon 0 (by kernel_rfl)))
                      have HA_HO294 := Aside0.mk (Q_HA_HO294 (hon 0 (by kernel_rfl)))
                      have HI0 := Aside0.mk (Q_HI0_e10 (hon 10 (by kernel_rfl)))
                      have HO307 := Aside0.mk (Q_HO307 (hon 11 (by kernel_rfl)))
                      obtain ⟨co74, eo74⟩ := HA_HO294.out
                      clear HA_HO294
                      subst eo74
                      obtain ⟨Ao75, co75, eo75⟩ := Kd.N_slice HO307.out
                      (first | subst eo75 | (injection eo75 with f1_ f2_ f3_; have f4_ := f1_.symm; have f5_ := f3_.symm; clear f1_ f2_ f3_; subst f4_; subst f5_))
                      have hs76 : w'.cell? ⟨gb241, 0, none⟩ = some (.int .i64 0) := (blk_cell BK241.out 0).trans rfl
                      have hfs76 := blk_frozen BK241.out 0
                      have hns76_1 := NB291_241.out
                      have hms76_1 := NB241_291.out
                      have hs77 : w'.cell? ⟨gb241, 1, none⟩ = some (.string (⟨#[]⟩ : ByteArray)) := (blk_cell BK241.out 1).trans rfl
                      have hfs77 := blk_frozen BK241.out 1
                      have hns77_1 := NB291_241.out
                      have hms77_1 := NB241_291.out
                      have hs78 : w'.cell? ⟨gb241, 2, none⟩ = some (.int .i64 0) := (blk_cell BK241.out 2).trans rfl
                      have hfs78 := blk_frozen BK241.out 2
                      have hns78_1 := NB291_241.out
                      have hms78_1 := NB241_291.out
                      have hs79 : w'.cell? ⟨gb241, 3, none⟩ = some (.string (⟨#[]⟩ : ByteArray)) := (blk_cell BK241.out 3).trans rfl
                      have hfs79 := blk_frozen BK241.out 3
                      have hns79_1 := NB291_241.out
                      have hms79_1 := NB241_291.out
                      have hs80 : w'.cell? ⟨gb241, 4, none⟩ = some (.string (⟨#[]⟩ : ByteArray)) := (blk_cell BK241.out 4).trans rfl
                      have hfs80 := blk_frozen BK241.out 4
                      have hns80_1 := NB291_241.out
                      have hms80_1 := NB241_291.out
                      have hs81 : w'.cell? ⟨gb241, 5, none⟩ = some (.slice none 0 0) := (blk_cell BK241.out 5).trans rfl
                      have hfs81 := blk_frozen BK241.out 5
                      have hns81_1 := NB291_241.out
                      have hms81_1 := NB241_291.out
                      refine skip_ (w1 := ?_) (by rfl) rfl ?_ ?_
                      rotate_left
                      · go_simp
                        rfl
                      refine hK.out _ _ ⟨.slice (some adz_v293) y292.length co74, adz_v293, v302, .slice Ao75 y305.length co75, m4_, m10_, m12_, (by rw [ha.out]; exact putSel_none (v := undef) rfl), fun h0_ => absurd ((hon 11 (by kernel_rfl)).symm.trans h0_) (by decide), fun h0_ => absurd ((up_self b 13).symm.trans h0_) (by decide), (by (with_reducible repeat (first | refine blk_drewN ?_ _ | refine blk_drew ?_ | refine blk_alloc ?_ _)); refine blk_far ?_ NB291_241.out _; (with_reducible repeat (first | refine blk_drewN ?_ _ | refine blk_drew ?_ | refine blk_alloc ?_ _)); refine blk_far ?_ NB291_241.out _; (with_reducible repeat (first | refine blk_drewN ?_ _ | refine blk_drew ?_ | refine blk_alloc ?_ _)); refine blk_far ?_ NB291_241.out _; (with_reducible repeat (first | refine blk_drewN ?_ _ | refine blk_drew ?_ | refine blk_alloc ?_ _)); refine blk_far ?_ NB291_241.out _; (with_reducible repeat (first | refine blk_drewN ?_ _ | refine blk_drew ?_ | refine blk_alloc ?_ _)); refine blk_far ?_ NB291_241.out _; (with_reducible repeat (first | refine blk_drewN ?_ _ | refine blk_drew ?_ | refine blk_alloc ?_ _)); refine blk_far ?_ NB291_241.out _; (with_reducible repeat (first | refine blk_drewN ?_ _ | refine blk_drew ?_ | refine blk_alloc ?_ _)); exact BK291.out), fun h0_ => absurd ((hon 10 (by kernel_rfl)).symm.trans h0_) (by decide), (by repeat (first | (with_reducible first | exact HK.out | apply KeepBut.set_ | apply keep_drewN | apply keep_drew | apply keep_alloc | refine keep_far ?_ GW241.out _ | refine keep_far ?_ GW291.out _) | exact HK.out)), (by repeat (first | (with_reducible first | exact HB.out | apply below_alloc | apply pw_below_drewN | apply below_drew1 | refine below_set ?_ (IsS32.ge HI0.out) | refine below_set ?_ GE241.out | refine below_set ?_ GE291.out) | exact HB.out)), fun _ => (by (with_reducible repeat (first | apply Kd.R_alloc | apply Kd.R_drewN | apply Kd.R_drew)); exact Kd.R_mono (Kd.R_far (p := ⟨gb241, 5, none⟩) (Kd.R_far (p := ⟨gb241, 4, none⟩) (Kd.R_far (p := ⟨gb241, 3, none⟩) (Kd.R_far (p := ⟨gb241, 2, none⟩) (Kd.R_far (p := ⟨gb241, 1, none⟩) (Kd.R_far (p := ⟨gb241, 0, none⟩) (Kd.R_types HO294.out BK241.out (by decide)) (fun _ hk => hk.2) (.int .i64 3)) (fun _ hk => hk.2) (.string (rdOf ByteArray.empty y292 (ji53)))) (fun _ hk => hk.2) (.int .i64 0)) (fun _ hk => hk.2) (.string (⟨#[]⟩ : ByteArray))) (fun _ hk => hk.2) (.string (⟨#[]⟩ : ByteArray))) (fun _ hk => hk.2) (.slice Ao75 y305.length co75)) (fun _ hk => hk.1)), fun _ => ⟨_, rfl⟩, fun _ h1_ => absurd ((hon 11 (by kernel_rfl)).symm.trans h1_) (by decide), fun _ => (by repeat (first | (with_reducible first | exact HI0.out | apply IsS32.alloc | apply IsS32.drewN | apply IsS32.drew | apply IsS32.set_1 | refine IsS32.far ?_ NB0_241.out _ | refine IsS32.far ?_ NB0_291.out _) | exact HI0.out)), fun _ => (by (with_reducible repeat (first | apply Kd.N_alloc | apply Kd.N_drewN | apply Kd.N_drew)); exact Kd.N_mono (Kd.N_far (p := ⟨gb241, 5, none⟩) (Kd.N_far (p := ⟨gb241, 4, none⟩) (Kd.N_far (p := ⟨gb241, 3, none⟩) (Kd.N_far (p := ⟨gb241, 2, none⟩) (Kd.N_far (p := ⟨gb241, 1, none⟩) (Kd.N_far (p := ⟨gb241, 0, none⟩) (Kd.N_mono HO307.out (fun k_ hk => (⟨hk, (by first | omega | (dsimp only at *; omega) | (simp_all; done))⟩ : _ ∧ k_ ≠ gb241))) (fun _ hk => hk.2) (.int .i64 3)) (fun _ hk => hk.2) (.string (rdOf ByteArray.empty y292 (ji53)))) (fun _ hk => hk.2) (.int .i64 0)) (fun _ hk => hk.2) (.string (⟨#[]⟩ : ByteArray))) (fun _ hk => hk.2) (.string (⟨#[]⟩ : ByteArray))) (fun _ hk => hk.2) (.slice Ao75 y305.length co75)) (fun _ hk => (by first | omega | (dsimp only at *; omega) | (simp_all; done)))), fun _ => (by (with_reducible repeat (first | refine blk_drewN ?_ _ | refine blk_drew ?_ | refine blk_alloc ?_ _)); refine blk_put (cs := #[.int .i64 3, .string (rdOf ByteArray.empty y292 (ji53)), .int .i64 0, .string (⟨#[]⟩ : ByteArray), .string (⟨#[]⟩ : ByteArray), .slice none 0 0]) ?_ 5 _ rfl; (with_reducible repeat (first | refine blk_drewN ?_ _ | refine blk_drew ?_ | refine blk_alloc ?_ _)); refine blk_put (cs := #[.int .i64 3, .string (rdOf ByteArray.empty y292 (ji53)), .int .i64 0, .string (⟨#[]⟩ : ByteArray), .string (⟨#[]⟩ : ByteArray), .slice none 0 0]) ?_ 4 _ rfl; (with_reducible repeat (first | refine blk_drewN ?_ _ | refine blk_drew ?_ | refine blk_alloc ?_ _)); refine blk_put (cs := #[.int .i64 3, .string (rdOf ByteArray.empty y292 (ji53)), .int .i64 0, .string (⟨#[]⟩ : ByteArray), .string (⟨#[]⟩ : ByteArray), .slice none 0 0]) ?_ 3 _ rfl; (with_reducible repeat (first | refine blk_drewN ?_ _ | refine blk_drew ?_ | refine blk_alloc ?_ _)); refine blk_put (cs := #[.int .i64 3, .string (rdOf ByteArray.empty y292 (ji53)), .int .i64 0, .string (⟨#[]⟩ : ByteArray), .string (⟨#[]⟩ : ByteArray), .slice none 0 0]) ?_ 2 _ rfl; (with_reducible repeat (first | refine blk_drewN ?_ _ | refine blk_drew ?_ | refine blk_alloc ?_ _)); refine blk_put (cs := #[.int .i64 3, .string (⟨#[]⟩ : ByteArray), .int .i64 0, .string (⟨#[]⟩ : ByteArray), .string (⟨#[]⟩ : ByteArray), .slice none 0 0]) ?_ 1 _ rfl; (with_reducible repeat (first | refine blk_drewN ?_ _ | refine blk_drew ?_ | refine blk_alloc ?_ _)); refine blk_put (cs := #[.int .i64 0, .string (⟨#[]⟩ : ByteArray), .int .i64 0, .string (⟨#[]⟩ : ByteArray), .string (⟨#[]⟩ : ByteArray), .slice none 0 0]) ?_ 0 _ rfl; (with_reducible repeat (first | refine blk_drewN ?_ _ | refine blk_drew ?_ | refine blk_alloc ?_ _)); exact BK241.out), Q_X4_, Q_X10_, Q_X12_⟩
                    exact steps_nil
                  rintro b a w79 hall ⟨v293, adz_v293, v302, v306, m4_, m10_, m12_, ha, Q_HO289, Q_BK241, Q_BK291, Q_HI0, Q_HK, Q_HB, Q_HO294, Q_HA_HO294, Q_HO303, Q_HI0_e10, Q_HO307, Q_BK241_e13, Q_X4_, Q_X10_, Q_X12_⟩
                  clear BK241 BK291 HB HI0 HK HO289
                  have hb0_ := hall 0 (by kernel_rfl)
                  have hb2_ := hall 2 (by kernel_rfl)
                  have hb3_ := hall 3 (by kernel_rfl)
                  have hb4_ := hall 4 (by kernel_rfl)
                  have hb5_ := hall 5 (by kernel_rfl)
                  have hb6_ := hall 6 (by kernel_rfl)
                  have hb10_ := hall 10 (by kernel_rfl)
                  have hb11_ := hall 11 (by kernel_rfl)
                  have hb12_ := hall 12 (by kernel_rfl)
                  have hb13_ := hall 13 (by kernel_rfl)
                  subst ha
                  obtain rfl := Q_X4_ hb4_
                  obtain rfl := Q_X10_ hb10_
                  obtain rfl := Q_X12_ hb12_
                  simp only [putSel, hb0_, hb2_, hb3_, hb4_, hb5_, hb6_, hb10_, hb11_, hb12_, hb13_, if_true, Act.put, List.setIfInBounds_toArray, List.set_cons_zero, List.set_cons_succ]
                  clear Q_HO289
                  clear Q_BK241
                  have BK291 := Aside0.mk Q_BK291
                  clear Q_BK291
                  clear Q_HI0
                  have HK := Aside0.mk Q_HK
                  clear Q_HK
                  have HB := Aside0.mk Q_HB
                  clear Q_HB
                  have HO294 := Aside0.mk (Q_HO294 hb0_)
                  clear Q_HO294
                  have HA_HO294 := Aside0.mk (Q_HA_HO294 hb0_)
                  clear Q_HA_HO294
                  clear Q_HO303
                  have HI0 := Aside0.mk (Q_HI0_e10 hb10_)
                  clear Q_HI0_e10
                  have HO307 := Aside0.mk (Q_HO307 hb11_)
                  clear Q_HO307
                  have BK241 := Aside0.mk (Q_BK241_e13 hb13_)
                  clear Q_BK241_e13
                  clear hall hb0_ hb2_ hb3_ hb4_ hb5_ hb6_ hb10_ hb11_ hb12_ hb13_
                  obtain ⟨co80, eo80⟩ := HA_HO294.out
                  clear HA_HO294
                  subst eo80
                  obtain ⟨Ao81, co81, eo81⟩ := Kd.N_slice HO307.out
                  (first | subst eo81 | (injection eo81 with f1_ f2_ f3_; have f4_ := f1_.symm; have f5_ := f3_.symm; clear f1_ f2_ f3_; subst f4_; subst f5_))
                  try go_wp2
                  refine bodyPost_ret (results_cell_row rfl _ _ gb241 24 #[.int .i64 3, .string (rdOf ByteArray.empty y292 (ji53)), .int .i64 0, .string (⟨#[]⟩ : ByteArray), .string (⟨#[]⟩ : ByteArray), .slice Ao81 y305.length co81] (0, 0) _ rfl (by (with_reducible repeat (first | refine blk_drewN ?_ _ | refine blk_drew ?_ | refine blk_alloc ?_ _)); exact BK241.out) Tryd.underlying24 rfl (by kernel_rfl)) rfl ?_
                  exact ⟨_, by first | rfl | (simp [errW_none, errW_some] <;> rfl) | (simp only [← hji53]; first | rfl | (simp [errW_none, errW_some] <;> rfl)) | (simp [*, errW_none, errW_some] <;> rfl), by (with_reducible repeat (first | apply Kd.N_alloc | apply Kd.N_drewN | apply Kd.N_drew)); exact Kd.N_mono HO307.out (fun _ hk => hk.1), by repeat (first | (with_reducible first | exact HI0.out | apply IsS32.alloc | apply IsS32.drewN | apply IsS32.drew | apply IsS32.set_1 | refine IsS32.far ?_ NB0_241.out _ | refine IsS32.far ?_ NB0_291.out _) | exact HI0.out), by repeat (first | (with_reducible first | exact HB.out | apply below_alloc | apply pw_below_drewN | apply below_drew1 | refine below_set ?_ (IsS32.ge HI0.out) | refine below_set ?_ GE241.out | refine below_set ?_ GE291.out) | exact HB.out), by repeat (first | (with_reducible first | exact HK.out | apply KeepBut.set_ | apply keep_drewN | apply keep_drew | apply keep_alloc | refine keep_far ?_ GW241.out _ | refine keep_far ?_ GW291.out _) | exact HK.out)⟩
                · rw [if_neg c55] at H
                  exact absurd H (by simp)
              · rw [if_neg c54] at H
                exact absurd H (by simp)
end Go.Proofs.YtimmomhgljofnaaDoor.PValueBad
end
