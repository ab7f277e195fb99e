/- Chapter 5: WireTells. -/
import Derived.Test.YthckcbacmonihaaF9
import Derived.OpenShut
import Derived.Deep.DeepCutAuto
import Derived.Deep.RegionHeld3
set_option linter.unusedVariables false
set_option linter.unusedSimpArgs false
namespace Go.Proofs.Ythckcbacmonihaa.Hand
open Go.RowKit Go.Proofs.Ythckcbacmonihaa.PWireTells Go.Proofs.YthckcbacmonihaaW.PrintWords Go.Proofs.YthckcbacmonihaaW.PrintLast Go.Proofs.YthckcbacmonihaaW.PrintMore

theorem rput_n (k t : Int) (l : List Int) (n : Nat) (A : Option Addr) (c : Nat) (s : ByteArray) (b : Bool) (w : World) (hr : Kd.C (Kd.int .i64) w A n l) (hc : n ≤ c) (h : putE k t l = (s, b)) :
    Calls Try.prog 10 #[.agg #[.int .i64 k, .int .i64 t, .slice A n c]] w fun e w' => e = .returned (.tuple #[.string s, .bool b]) ∧ Below w.heap.size w w' := by
  obtain rfl := hr.1
  exact rput05_c k t A c l s b w hr hc h
theorem rsame_n (k t : Int) (A : Option Addr) (n c : Nat) (l : List Int) (k' t' : Int) (A' : Option Addr) (n' c' : Nat) (l' : List Int) (b : Bool) (w : World) (h1 : Kd.C (Kd.int .i64) w A n l) (h2 : n ≤ c) (h3 : Kd.C (Kd.int .i64) w A' n' l') (h4 : n' ≤ c') (h : sameE k t l k' t' l' = b) :
    Calls Try.prog 14 #[.agg #[.int .i64 k, .int .i64 t, .slice A n c], .agg #[.int .i64 k', .int .i64 t', .slice A' n' c']] w fun e w' => e = .returned (.bool b) ∧ Below w.heap.size w w' := by
  obtain rfl := h1.1
  obtain rfl := h3.1
  exact rsame_c k t A c l k' t' A' c' l' b w h1 h2 h3 h4 h
theorem rsize_n (k t : Int) (A : Option Addr) (m c : Nat) (l : List Int) (n : Int) (w : World) (hr : Kd.C (Kd.int .i64) w A m l) (hc : m ≤ c) (h : ((putE k t l).1.size : Int) = n) :
    Calls Try.prog 17 #[.agg #[.int .i64 k, .int .i64 t, .slice A m c]] w fun e w' => e = .returned (.int .i64 n) ∧ Below w.heap.size w w' := by
  obtain rfl := hr.1
  exact rsize05_c k t A c l n w hr hc h
theorem rfits_n (A0 : Option Addr) (n0 c0 : Nat) (l0 : List S77) (ls : List Nat) (k t : Int) (A : Option Addr) (n c : Nat) (l : List Int) (x : Int) (w : World) (h0 : Kd.C k77 w A0 n0 l0) (hc0 : n0 ≤ c0) (h1 : Kd.C (Kd.int .i64) w A n l) (h2 : n ≤ c) (hl : l0.map (fun x => x.f1.length) = ls) (h : fitsE ls k n = x) :
    Calls Try.prog 20 #[.slice A0 n0 c0, .agg #[.int .i64 k, .int .i64 t, .slice A n c]] w fun e w' => e = .returned (.int .i64 x) ∧ Below w.heap.size w w' := by
  obtain rfl := h0.1
  obtain rfl := h1.1
  exact rfits_c A0 c0 l0 ls k t A c l x w h0 hc0 h1 h2 hl h
def Cells6 (W : World) (g g' : Nat) (a b c a' b' c' : Value) : Prop := W.cell? ⟨g, 0, none⟩ = some a ∧ W.cell? ⟨g, 1, none⟩ = some b ∧ W.cell? ⟨g, 2, none⟩ = some c ∧ W.cell? ⟨g', 0, none⟩ = some a' ∧ W.cell? ⟨g', 1, none⟩ = some b' ∧ W.cell? ⟨g', 2, none⟩ = some c'
theorem Cells6.keep {W W1 : World} {g g' : Nat} {a b c a' b' c' : Value} (hb : Below W.heap.size W W1) (h : Cells6 W g g' a b c a' b' c') : Cells6 W1 g g' a b c a' b' c' :=
  ⟨pw_cell_below hb h.1, pw_cell_below hb h.2.1, pw_cell_below hb h.2.2.1, pw_cell_below hb h.2.2.2.1, pw_cell_below hb h.2.2.2.2.1, pw_cell_below hb h.2.2.2.2.2⟩
/-- A row of bytes that may be written. -/
def Row8 (W : World) (g : Nat) (xs : List Int) : Prop := ∀ j : Nat, j < xs.length → W.cell? ⟨g, j, none⟩ = some (.int .u8 (rd xs (j : Int))) ∧ W.frozen? ⟨g, j, none⟩ = false
theorem Row8.bytes (W : World) (s : ByteArray) (hs : s.size ≤ 9223372036854775807) : Row8 (Lib.bytesWorld W 5 s) W.heap.size (bytesOf s) := by
  intro j hj
  rw [bytesOf_length] at hj
  constructor
  · obtain ⟨ad, e, hc⟩ := (bytes_reads W 5 s hs).2.2 (by omega)
    injection e with e
    subst e
    have := hc j hj
    rw [add_plain] at this
    rw [this]
    unfold rd
    rw [Int.toNat_natCast]
  · have hc := Lib.bytesWorld_cell W 5 s j hj
    have hn := Lib.bytesWorld_at_new W 5 s
    have hlt : j < (Lib.bytesCells W 5 s).size := by
      rw [cell_of_row _ _ j _ _ _ hn] at hc
      exact (Array.getElem?_eq_some_iff.1 hc).1
    simp [World.frozen?, hn]
    intro _
    omega
theorem Row8.set {W : World} {g : Nat} {xs : List Int} (h : Row8 W g xs) (i : Nat) (hi : i < xs.length) (v : Int) : Row8 (W.setCell ⟨g, i, none⟩ (.int .u8 v)) g (xs.set i v) := by
  intro j hj
  rw [List.length_set] at hj
  refine ⟨?_, (World.frozen?_setCell _ _ _ _).trans (h j hj).2⟩
  have hrd : rd (xs.set i v) (j : Int) = if i = j then v else rd xs (j : Int) := by
    unfold rd
    rw [List.getD_eq_getElem?_getD, List.getD_eq_getElem?_getD, Int.toNat_natCast, List.getElem?_set]
    split
    · rename_i e; subst e; simp [hi]
    · rfl
  rw [hrd]
  by_cases e : i = j
  · subst e
    rw [if_pos rfl]
    exact World.cell?_setCell_same _ _ _ (h i hi).1
  · rw [if_neg e]
    exact (World.cell?_setCell_other _ _ _ _ (by first | (simp; done) | (simp; omega))).trans (h j hj).1
theorem Row8.conv {W : World} {g : Nat} {xs : List Int} (h : Row8 W g xs) (q cap : Nat) (hq : q ≤ xs.length) : (convert 34 9 (.slice (some ⟨g, 0, none⟩) q cap)).run Try.prog W = .ok (.string (strOfNums (xs.take q))) W := by
  refine run_convert_bytes_arg (P := Try.prog) (w := W) 34 5 Try.underlying34 Try.underlying5 g 0 q cap (xs.take q) (by rw [List.length_take]; omega) (fun i hi => ?_) 9 Try.underlying9
  rw [Nat.zero_add, (h i (by omega)).1]
  unfold rd
  rw [List.getD_eq_getElem?_getD, List.getD_eq_getElem?_getD, Int.toNat_natCast, List.getElem?_take, if_pos hi]
/-- What stands when the event has been cut: its kind, how many numbers it has. -/
def TA (w wx : World) (k t : Int) (l : List Int) (A : Option Addr) (c : Nat) (k' t' : Int) (n' : Nat) (A' : Option Addr) (c' : Nat) (K : Int) (m : Nat) : Prop :=
  m ≤ l.length ∧ Below w.heap.size w wx ∧ wx.heap[w.heap.size]? = some (.cells #[.int .i64 K, .int .i64 t, .slice A m c] 24 (0, 0)) ∧ wx.heap[w.heap.size + 1]? = some (.cells #[.int .i64 k', .int .i64 t', .slice A' n' c'] 24 (0, 0))
theorem TA.keep {w wx wy : World} {k t : Int} {l : List Int} {A : Option Addr} {c : Nat} {k' t' : Int} {n' : Nat} {A' : Option Addr} {c' : Nat} {K : Int} {m : Nat} (h : TA w wx k t l A c k' t' n' A' c' K m) (hb : Below wx.heap.size wx wy) : TA w wy k t l A c k' t' n' A' c' K m :=
  ⟨h.1, below_step h.2.1 hb, blk_below h.2.2.1 hb, blk_below h.2.2.2 hb⟩
set_option maxHeartbeats 4000000 in
set_option maxRecDepth 100000 in
theorem tells_core (k t : Int) (l : List Int) (A : Option Addr) (c : Nat) (k' t' : Int) (l' : List Int) (A' : Option Addr) (c' : Nat) (near : Bool) (how : Int) (s : ByteArray) (at_ by_ : Int) (ks : List S75) (A7 : Option Addr) (c7 : Nat) (w : World) (how0 : 0 ≤ how) (how1 : how ≤ 255) (hs : s.size ≤ 140737488351232) (at0 : 0 ≤ at_) (at1 : at_ ≤ 65535) (by0 : 0 ≤ by_) (by1 : by_ ≤ 255) (hc : l.length ≤ c) (hC : ∀ W', Has w W' → Kd.C (Kd.int .i64) W' A l.length l) (hc' : l'.length ≤ c') (hC' : ∀ W', Has w W' → Kd.C (Kd.int .i64) W' A' l'.length l') (hc7 : ks.length ≤ c7) (hC7 : ∀ W', Has w W' → Kd.C k75 W' A7 ks.length ks) (hks : ks.length ≤ 3518437208780) :
    Calls Try.prog 3 #[.agg #[.int .i64 k, .int .i64 t, .slice A l.length c], .agg #[.int .i64 k', .int .i64 t', .slice A' l'.length c'], .bool near, .int .u8 how, .string s, .int .u16 at_, .int .u8 by_, .slice A7 ks.length c7] w fun e w' => e = .returned (.bool true) ∧ Below w.heap.size w w' := by
  have HB := Aside0.mk (Below.refl w.heap.size w)
  have HL := Aside0.mk (Below.refl w.heap.size w)
  have hmax := (hC w (Has.refl w)).2.1
  have HC := Aside0.mk hC
  have HC' := Aside0.mk hC'
  have HC7 := Aside0.mk hC7
  clear hC hC' hC7
  go_enter Try.func3, Try.ntmps3
  go_upto_if 31 with (first | (go_at_call 8; (with_reducible refine (examples_c _).mono ?_); rintro e w1 ⟨rfl, hb⟩; have n0_ := Aside0.mk (below_step (by repeat (first | (with_reducible first | exact HB.out | apply below_alloc | apply pw_below_drewN | apply below_drew1) | exact HB.out)) hb); clear HB; have HB := n0_; clear n0_; have hs_ := below_step (by repeat (first | (with_reducible first | exact HL.out | apply below_alloc | apply pw_below_drewN | apply below_drew1) | exact HL.out)) hb; have B8 := Aside0.mk ((show _ from blk_below (o := .cells #[.int .i64 k, .int .i64 t, .slice A l.length c] 24 (0, 0)) (g := w.heap.size) (by repeat (first | exact blk_new' (by first | rfl | simp) | refine blk_alloc ?_ _ | exact blk_drew ?_ | exact blk_drewN ?_ _)) hb)); have qB8_0 := blk_cell B8.out 0; (try simp only [List.getElem?_toArray, List.getElem?_cons_zero, List.getElem?_cons_succ] at qB8_0); have qB8_1 := blk_cell B8.out 1; (try simp only [List.getElem?_toArray, List.getElem?_cons_zero, List.getElem?_cons_succ] at qB8_1); have qB8_2 := blk_cell B8.out 2; (try simp only [List.getElem?_toArray, List.getElem?_cons_zero, List.getElem?_cons_succ] at qB8_2); have lB8 := blk_lt B8.out; have B9 := Aside0.mk ((show _ from blk_below (o := .cells #[.int .i64 k', .int .i64 t', .slice A' l'.length c'] 24 (0, 0)) (g := w.heap.size + 1) (by repeat (first | exact blk_new' (by first | rfl | simp) | refine blk_alloc ?_ _ | exact blk_drew ?_ | exact blk_drewN ?_ _)) hb)); have qB9_0 := blk_cell B9.out 0; (try simp only [List.getElem?_toArray, List.getElem?_cons_zero, List.getElem?_cons_succ] at qB9_0); have qB9_1 := blk_cell B9.out 1; (try simp only [List.getElem?_toArray, List.getElem?_cons_zero, List.getElem?_cons_succ] at qB9_1); have qB9_2 := blk_cell B9.out 2; (try simp only [List.getElem?_toArray, List.getElem?_cons_zero, List.getElem?_cons_succ] at qB9_2); have lB9 := blk_lt B9.out; have fB8_0 := blk_frozen B8.out 0; have fB8_2 := blk_frozen B8.out 2; clear HL hs_ hb; have HL := Aside0.mk (Below.refl w1.heap.size w1)))
  go_cut [] (fun wx => ∃ (K : Int) (m : Nat), Aside0 (TA w wx k t l A c k' t' l'.length A' c' K m))
  case first => as_aux_lemma =>
    cases near
    · go_wp2
      go_meet
      exact ⟨k, l.length, ⟨Nat.le_refl _, HB.out, B8.out, B9.out⟩⟩
    · rcases Nat.lt_or_ge 8 l.length with h8 | h8
      · have hmin : min (l.length : Int) 8 = 8 := by omega
        go_wp2
        go_meet
        exact ⟨_, 8, ⟨by omega, below_set (below_set HB.out (Nat.le_refl _)) (Nat.le_refl _), blk_put (blk_put B8.out 0 _ rfl) 2 _ rfl, blk_far (p := ⟨w.heap.size, 2, none⟩) (blk_far (p := ⟨w.heap.size, 0, none⟩) B9.out (show w.heap.size + 1 ≠ w.heap.size by omega) _) (show w.heap.size + 1 ≠ w.heap.size by omega) _⟩⟩
      · have hmin : min (l.length : Int) 8 = (l.length : Int) := by omega
        go_wp2
        go_meet
        exact ⟨_, l.length, ⟨by omega, below_set (below_set HB.out (Nat.le_refl _)) (Nat.le_refl _), blk_put (blk_put B8.out 0 _ rfl) 2 _ rfl, blk_far (p := ⟨w.heap.size, 2, none⟩) (blk_far (p := ⟨w.heap.size, 0, none⟩) B9.out (show w.heap.size + 1 ≠ w.heap.size by omega) _) (show w.heap.size + 1 ≠ w.heap.size by omega) _⟩⟩
  case rest => as_aux_lemma =>
    obtain ⟨K, m, hTA⟩ := hcut
    clear HB HL B8 B9 lB8 lB9 qB8_0 qB8_1 qB8_2 qB9_0 qB9_1 qB9_2 fB8_0 fB8_2
    obtain ⟨hm, hBw, hb8, hb9⟩ := hTA.out
    clear hTA
    have hcm : m ≤ c := by omega
    obtain ⟨p, b0, hp⟩ : ∃ p b0, putE K t (l.take m) = (p, b0) := ⟨_, _, rfl⟩
    have hp74 : p.size ≤ 74 := by have := putE_size K t (l.take m); rw [hp] at this; exact this
    have HP := Aside0.mk hp
    clear hp
    have HM := Aside0.mk (C_cut HC.out m hm)
    have HB := Aside0.mk hBw
    have HL := Aside0.mk (Below.refl wc.heap.size wc)
    have B8 := Aside0.mk hb8
    have B9 := Aside0.mk hb9
    clear hBw hb8 hb9
    have qB8_0 := blk_cell B8.out 0
    (try simp only [List.getElem?_toArray, List.getElem?_cons_zero, List.getElem?_cons_succ] at qB8_0)
    have qB8_1 := blk_cell B8.out 1
    (try simp only [List.getElem?_toArray, List.getElem?_cons_zero, List.getElem?_cons_succ] at qB8_1)
    have qB8_2 := blk_cell B8.out 2
    (try simp only [List.getElem?_toArray, List.getElem?_cons_zero, List.getElem?_cons_succ] at qB8_2)
    have lB8 := blk_lt B8.out
    have qB9_0 := blk_cell B9.out 0
    (try simp only [List.getElem?_toArray, List.getElem?_cons_zero, List.getElem?_cons_succ] at qB9_0)
    have qB9_1 := blk_cell B9.out 1
    (try simp only [List.getElem?_toArray, List.getElem?_cons_zero, List.getElem?_cons_succ] at qB9_1)
    have qB9_2 := blk_cell B9.out 2
    (try simp only [List.getElem?_toArray, List.getElem?_cons_zero, List.getElem?_cons_succ] at qB9_2)
    have lB9 := blk_lt B9.out
    go_upto_region 9 with (first | (go_at_call 9; (with_reducible refine (wput_n K t (l.take m) m A c p b0 _ (HM.out _ (Has.of_below (by repeat (first | (with_reducible first | exact HB.out | apply below_alloc | apply pw_below_drewN | apply below_drew1) | exact HB.out)))) HP.out).mono ?_); rintro e w2 ⟨rfl, hb⟩; have n0_ := Aside0.mk (below_step (by repeat (first | (with_reducible first | exact HB.out | apply below_alloc | apply pw_below_drewN | apply below_drew1) | exact HB.out)) hb); clear HB; have HB := n0_; clear n0_; have hs_ := below_step (by repeat (first | (with_reducible first | exact HL.out | apply below_alloc | apply pw_below_drewN | apply below_drew1) | exact HL.out)) hb; have n_ := Aside0.mk (blk_below B8.out hs_); clear lB8 qB8_0 qB8_1 qB8_2; clear B8; have B8 := n_; clear n_; have qB8_0 := blk_cell B8.out 0; (try simp only [List.getElem?_toArray, List.getElem?_cons_zero, List.getElem?_cons_succ] at qB8_0); have qB8_1 := blk_cell B8.out 1; (try simp only [List.getElem?_toArray, List.getElem?_cons_zero, List.getElem?_cons_succ] at qB8_1); have qB8_2 := blk_cell B8.out 2; (try simp only [List.getElem?_toArray, List.getElem?_cons_zero, List.getElem?_cons_succ] at qB8_2); have lB8 := blk_lt B8.out; have n_ := Aside0.mk (blk_below B9.out hs_); clear lB9 qB9_0 qB9_1 qB9_2; clear B9; have B9 := n_; clear n_; have qB9_0 := blk_cell B9.out 0; (try simp only [List.getElem?_toArray, List.getElem?_cons_zero, List.getElem?_cons_succ] at qB9_0); have qB9_1 := blk_cell B9.out 1; (try simp only [List.getElem?_toArray, List.getElem?_cons_zero, List.getElem?_cons_succ] at qB9_1); have qB9_2 := blk_cell B9.out 2; (try simp only [List.getElem?_toArray, List.getElem?_cons_zero, List.getElem?_cons_succ] at qB9_2); have lB9 := blk_lt B9.out; clear HL hs_ hb; have HL := Aside0.mk (Below.refl w2.heap.size w2)) | (go_at_call 11; (with_reducible refine (ref_c K t A m c _).mono ?_); rintro e w3 ⟨rfl, hb⟩; have n0_ := Aside0.mk (below_step (by repeat (first | (with_reducible first | exact HB.out | apply below_alloc | apply pw_below_drewN | apply below_drew1) | exact HB.out)) hb); clear HB; have HB := n0_; clear n0_; have hs_ := below_step (by repeat (first | (with_reducible first | exact HL.out | apply below_alloc | apply pw_below_drewN | apply below_drew1) | exact HL.out)) hb; have n_ := Aside0.mk (blk_below B8.out hs_); clear lB8 qB8_0 qB8_1 qB8_2; clear B8; have B8 := n_; clear n_; have qB8_0 := blk_cell B8.out 0; (try simp only [List.getElem?_toArray, List.getElem?_cons_zero, List.getElem?_cons_succ] at qB8_0); have qB8_1 := blk_cell B8.out 1; (try simp only [List.getElem?_toArray, List.getElem?_cons_zero, List.getElem?_cons_succ] at qB8_1); have qB8_2 := blk_cell B8.out 2; (try simp only [List.getElem?_toArray, List.getElem?_cons_zero, List.getElem?_cons_succ] at qB8_2); have lB8 := blk_lt B8.out; have n_ := Aside0.mk (blk_below B9.out hs_); clear lB9 qB9_0 qB9_1 qB9_2; clear B9; have B9 := n_; clear n_; have qB9_0 := blk_cell B9.out 0; (try simp only [List.getElem?_toArray, List.getElem?_cons_zero, List.getElem?_cons_succ] at qB9_0); have qB9_1 := blk_cell B9.out 1; (try simp only [List.getElem?_toArray, List.getElem?_cons_zero, List.getElem?_cons_succ] at qB9_1); have qB9_2 := blk_cell B9.out 2; (try simp only [List.getElem?_toArray, List.getElem?_cons_zero, List.getElem?_cons_succ] at qB9_2); have lB9 := blk_lt B9.out; clear HL hs_ hb; have HL := Aside0.mk (Below.refl w3.heap.size w3)) | (go_at_call 10; (with_reducible refine (rput_n K t (l.take m) m A c p b0 _ (HM.out _ (Has.of_below (by repeat (first | (with_reducible first | exact HB.out | apply below_alloc | apply pw_below_drewN | apply below_drew1) | exact HB.out)))) hcm HP.out).mono ?_); rintro e w4 ⟨rfl, hb⟩; have n0_ := Aside0.mk (below_step (by repeat (first | (with_reducible first | exact HB.out | apply below_alloc | apply pw_below_drewN | apply below_drew1) | exact HB.out)) hb); clear HB; have HB := n0_; clear n0_; have hs_ := below_step (by repeat (first | (with_reducible first | exact HL.out | apply below_alloc | apply pw_below_drewN | apply below_drew1) | exact HL.out)) hb; have n_ := Aside0.mk (blk_below B8.out hs_); clear lB8 qB8_0 qB8_1 qB8_2; clear B8; have B8 := n_; clear n_; have qB8_0 := blk_cell B8.out 0; (try simp only [List.getElem?_toArray, List.getElem?_cons_zero, List.getElem?_cons_succ] at qB8_0); have qB8_1 := blk_cell B8.out 1; (try simp only [List.getElem?_toArray, List.getElem?_cons_zero, List.getElem?_cons_succ] at qB8_1); have qB8_2 := blk_cell B8.out 2; (try simp only [List.getElem?_toArray, List.getElem?_cons_zero, List.getElem?_cons_succ] at qB8_2); have lB8 := blk_lt B8.out; have n_ := Aside0.mk (blk_below B9.out hs_); clear lB9 qB9_0 qB9_1 qB9_2; clear B9; have B9 := n_; clear n_; have qB9_0 := blk_cell B9.out 0; (try simp only [List.getElem?_toArray, List.getElem?_cons_zero, List.getElem?_cons_succ] at qB9_0); have qB9_1 := blk_cell B9.out 1; (try simp only [List.getElem?_toArray, List.getElem?_cons_zero, List.getElem?_cons_succ] at qB9_1); have qB9_2 := blk_cell B9.out 2; (try simp only [List.getElem?_toArray, List.getElem?_cons_zero, List.getElem?_cons_succ] at qB9_2); have lB9 := blk_lt B9.out; clear HL hs_ hb; have HL := Aside0.mk (Below.refl w4.heap.size w4)))
    go_cut [64] (fun v64 wx => ∃ B : Bool, v64 = .bool B ∧ (B = true → ¬ how % 3 = 0 ∧ 0 < p.size) ∧ wx = w4)
    case first => as_aux_lemma =>
      by_cases h1 : how % 3 = 0
      · go_wp2
        go_meet
        exact ⟨false, rfl, by simp, rfl⟩
      · have h2 : 0 < how % 3 := by omega
        rcases Nat.eq_zero_or_pos p.size with h3 | h3
        · go_wp2
          go_meet
          exact ⟨false, rfl, by simp, rfl⟩
        · go_wp2
          go_meet
          exact ⟨true, rfl, fun _ => ⟨h1, h3⟩, rfl⟩
    obtain ⟨B, rfl, hB, rfl⟩ := hcut
    go_upto_if 64 with fail
    go_cut [4] (fun v4 wx => ∃ S : ByteArray, v4 = .string S ∧ Aside0 (S.size ≤ 140737488351232) ∧ Aside0 (TA w wx k t l A c k' t' l'.length A' c' K m))
    case first => as_aux_lemma =>
      have hTA : TA w wc k t l A c k' t' l'.length A' c' K m := ⟨hm, HB.out, B8.out, B9.out⟩
      cases B with
      | false =>
        go_wp2
        go_meet
        exact ⟨s, rfl, ⟨hs⟩, ⟨hTA⟩⟩
      | true =>
        obtain ⟨h1, h3⟩ := hB rfl
        have kb := fun W => print_bytes (P := Try.prog) 9 34 5 Try.underlying9 Try.underlying34 Try.underlying5 p W
        have hR := Row8.bytes wc p (by omega)
        have hTA2 := Aside0.mk hTA
        clear hB hTA
        have h3i : (0 : Int) < (p.size : Int) := by omega
        obtain ⟨i, hi⟩ : ∃ i : Nat, at_ % (p.size : Int) = (i : Int) := Int.eq_ofNat_of_zero_le (Int.emod_nonneg _ (by omega))
        have hil : i < p.size := by have := Int.emod_lt_of_pos at_ h3i; omega
        have hri := hR i (by rw [bytesOf_length]; exact hil)
        obtain ⟨d, hd⟩ : ∃ d : Nat, how / 3 % 3 = (d : Int) := Int.eq_ofNat_of_zero_le (by omega)
        obtain ⟨d2, hd2⟩ : ∃ d2 : Nat, (d : Int) % (p.size : Int) = (d2 : Int) := Int.eq_ofNat_of_zero_le (Int.emod_nonneg _ (by omega))
        have hd2l : d2 < p.size := by have := Int.emod_lt_of_pos (d : Int) h3i; omega
        obtain ⟨q, hq⟩ : ∃ q : Nat, (p.size : Int) - (d2 : Int) = (q : Int) := Int.eq_ofNat_of_zero_le (by omega)
        have hql : q ≤ p.size := by omega
        have hcap : p.size ≤ grownCap wc p.size 0 5 := grownCap_ge wc p.size 0 5
        obtain ⟨ri, rf⟩ := hri
        generalize rd (bytesOf p) (i : Int) = x at ri
        rcases (show how % 3 = 1 ∨ how % 3 = 2 by omega) with h2 | h2
        · have hcv := fun V : Int => Row8.conv (hR.set i (by rw [bytesOf_length]; exact hil) V) q (grownCap wc p.size 0 5) (by rw [List.length_set, bytesOf_length]; exact hql)
          clear hR
          go_wp2
          go_meet
          exact ⟨_, rfl, ⟨by rw [str_size, List.length_take, List.length_set, bytesOf_length]; omega⟩, ⟨hTA2.out.keep (below_set (bytes_below (Below.refl wc.heap.size wc) (Nat.le_refl _) 5 p) (Nat.le_refl _))⟩⟩
        · have hcv := Row8.conv hR q (grownCap wc p.size 0 5) (by rw [bytesOf_length]; exact hql)
          clear hR
          go_wp2
          go_meet
          exact ⟨_, rfl, ⟨by rw [str_size, List.length_take, bytesOf_length]; omega⟩, ⟨hTA2.out.keep (bytes_below (Below.refl wc.heap.size wc) (Nat.le_refl _) 5 p)⟩⟩
    case rest => as_aux_lemma =>
      obtain ⟨S, rfl, hS, hTA⟩ := hcut
      clear HB HL B8 B9 lB8 lB9 qB8_0 qB8_1 qB8_2 qB9_0 qB9_1 qB9_2 hB
      have B8 := Aside0.mk hTA.out.2.2.1
      have B9 := Aside0.mk hTA.out.2.2.2
      have HB := Aside0.mk hTA.out.2.1
      have HL := Aside0.mk (Below.refl wc.heap.size wc)
      have hSz := hS.out
      clear hTA hS
      have qB8_0 := blk_cell B8.out 0
      (try simp only [List.getElem?_toArray, List.getElem?_cons_zero, List.getElem?_cons_succ] at qB8_0)
      have qB8_1 := blk_cell B8.out 1
      (try simp only [List.getElem?_toArray, List.getElem?_cons_zero, List.getElem?_cons_succ] at qB8_1)
      have qB8_2 := blk_cell B8.out 2
      (try simp only [List.getElem?_toArray, List.getElem?_cons_zero, List.getElem?_cons_succ] at qB8_2)
      have lB8 := blk_lt B8.out
      have qB9_0 := blk_cell B9.out 0
      (try simp only [List.getElem?_toArray, List.getElem?_cons_zero, List.getElem?_cons_succ] at qB9_0)
      have qB9_1 := blk_cell B9.out 1
      (try simp only [List.getElem?_toArray, List.getElem?_cons_zero, List.getElem?_cons_succ] at qB9_1)
      have qB9_2 := blk_cell B9.out 2
      (try simp only [List.getElem?_toArray, List.getElem?_cons_zero, List.getElem?_cons_succ] at qB9_2)
      have lB9 := blk_lt B9.out
      obtain ⟨kg, tg, lg, xg, hg⟩ : ∃ kg tg lg xg, getE S = (kg, tg, lg, xg) := ⟨_, _, _, _, rfl⟩
      have HG := Aside0.mk hg
      clear hg
      go_upto_region 16 with (first | (go_at_call 12; (with_reducible refine (wget_c S _ (by omega) kg tg xg lg HG.out).mono ?_); rintro e w5 ⟨v5, rfl, hR5, hb⟩; have n0_ := Aside0.mk (below_step (by repeat (first | (with_reducible first | exact HB.out | apply below_alloc | apply pw_below_drewN | apply below_drew1) | exact HB.out)) hb); clear HB; have HB := n0_; clear n0_; have hs_ := below_step (by repeat (first | (with_reducible first | exact HL.out | apply below_alloc | apply pw_below_drewN | apply below_drew1) | exact HL.out)) hb; have n_ := Aside0.mk (blk_below B8.out hs_); clear lB8 qB8_0 qB8_1 qB8_2; clear B8; have B8 := n_; clear n_; have qB8_0 := blk_cell B8.out 0; (try simp only [List.getElem?_toArray, List.getElem?_cons_zero, List.getElem?_cons_succ] at qB8_0); have qB8_1 := blk_cell B8.out 1; (try simp only [List.getElem?_toArray, List.getElem?_cons_zero, List.getElem?_cons_succ] at qB8_1); have qB8_2 := blk_cell B8.out 2; (try simp only [List.getElem?_toArray, List.getElem?_cons_zero, List.getElem?_cons_succ] at qB8_2); have lB8 := blk_lt B8.out; have n_ := Aside0.mk (blk_below B9.out hs_); clear lB9 qB9_0 qB9_1 qB9_2; clear B9; have B9 := n_; clear n_; have qB9_0 := blk_cell B9.out 0; (try simp only [List.getElem?_toArray, List.getElem?_cons_zero, List.getElem?_cons_succ] at qB9_0); have qB9_1 := blk_cell B9.out 1; (try simp only [List.getElem?_toArray, List.getElem?_cons_zero, List.getElem?_cons_succ] at qB9_1); have qB9_2 := blk_cell B9.out 2; (try simp only [List.getElem?_toArray, List.getElem?_cons_zero, List.getElem?_cons_succ] at qB9_2); have lB9 := blk_lt B9.out; have R5 := Aside0.mk (hR5); clear hR5; obtain ⟨A5, c5, e5⟩ := Kd.R_slice R5.out; subst e5; clear HL hs_ hb; have HL := Aside0.mk (Below.refl w5.heap.size w5)) | (go_at_call 13; (with_reducible refine (rget05_c S _ (by omega) kg tg xg lg HG.out).mono ?_); rintro e w6 ⟨v6, rfl, hR6, hb⟩; have n0_ := Aside0.mk (below_step (by repeat (first | (with_reducible first | exact HB.out | apply below_alloc | apply pw_below_drewN | apply below_drew1) | exact HB.out)) hb); clear HB; have HB := n0_; clear n0_; have hs_ := below_step (by repeat (first | (with_reducible first | exact HL.out | apply below_alloc | apply pw_below_drewN | apply below_drew1) | exact HL.out)) hb; have n_ := Aside0.mk (blk_below B8.out hs_); clear lB8 qB8_0 qB8_1 qB8_2; clear B8; have B8 := n_; clear n_; have qB8_0 := blk_cell B8.out 0; (try simp only [List.getElem?_toArray, List.getElem?_cons_zero, List.getElem?_cons_succ] at qB8_0); have qB8_1 := blk_cell B8.out 1; (try simp only [List.getElem?_toArray, List.getElem?_cons_zero, List.getElem?_cons_succ] at qB8_1); have qB8_2 := blk_cell B8.out 2; (try simp only [List.getElem?_toArray, List.getElem?_cons_zero, List.getElem?_cons_succ] at qB8_2); have lB8 := blk_lt B8.out; have n_ := Aside0.mk (blk_below B9.out hs_); clear lB9 qB9_0 qB9_1 qB9_2; clear B9; have B9 := n_; clear n_; have qB9_0 := blk_cell B9.out 0; (try simp only [List.getElem?_toArray, List.getElem?_cons_zero, List.getElem?_cons_succ] at qB9_0); have qB9_1 := blk_cell B9.out 1; (try simp only [List.getElem?_toArray, List.getElem?_cons_zero, List.getElem?_cons_succ] at qB9_1); have qB9_2 := blk_cell B9.out 2; (try simp only [List.getElem?_toArray, List.getElem?_cons_zero, List.getElem?_cons_succ] at qB9_2); have lB9 := blk_lt B9.out; have n_ := Aside0.mk (Kd.R_below R5.out hs_); clear R5; have R5 := n_; clear n_; have R6 := Aside0.mk (hR6); have B23 := Aside0.mk ((show _ from blk_below (o := .cells #[.int .i64 kg, .int .i64 tg, .slice A5 lg.length c5] 24 (0, 0)) (g := w5.heap.size) (by repeat (first | exact blk_new' (by first | rfl | simp) | refine blk_alloc ?_ _ | exact blk_drew ?_ | exact blk_drewN ?_ _)) hb)); have qB23_0 := blk_cell B23.out 0; (try simp only [List.getElem?_toArray, List.getElem?_cons_zero, List.getElem?_cons_succ] at qB23_0); have qB23_1 := blk_cell B23.out 1; (try simp only [List.getElem?_toArray, List.getElem?_cons_zero, List.getElem?_cons_succ] at qB23_1); have qB23_2 := blk_cell B23.out 2; (try simp only [List.getElem?_toArray, List.getElem?_cons_zero, List.getElem?_cons_succ] at qB23_2); have lB23 := blk_lt B23.out; clear hR6; obtain ⟨A6, c6, e6⟩ := Kd.R_slice R6.out; subst e6; clear HL hs_ hb; have HL := Aside0.mk (Below.refl w6.heap.size w6)))
      have CR5 := Aside0.mk (Kd.R_reads' R5.out)
      have CR6 := Aside0.mk (Kd.R_reads' R6.out)
      go_region_held3 (fun w' => w'.cell? ⟨w5.heap.size, 0, none⟩ = some (.int .i64 kg) ∧ w'.cell? ⟨w5.heap.size, 1, none⟩ = some (.int .i64 tg) ∧ w'.cell? ⟨w5.heap.size, 2, none⟩ = some (.slice A5 lg.length c5) ∧ w'.cell? ⟨w6.heap.size, 0, none⟩ = some (.int .i64 kg) ∧ w'.cell? ⟨w6.heap.size, 1, none⟩ = some (.int .i64 tg) ∧ w'.cell? ⟨w6.heap.size, 2, none⟩ = some (.slice A6 lg.length c6)) (first | (exact Cells6.keep hb (by assumption)) | (refine ⟨?_, ?_, ?_, ?_, ?_, ?_⟩ <;> go_simp) | go_keep) (first | (go_at_call 11; (with_reducible refine (ref_c kg tg A5 lg.length c5 _).mono ?_); rintro e w9 ⟨rfl, hb⟩; have n0_ := Aside0.mk (below_step (by repeat (first | (with_reducible first | exact HB.out | apply below_alloc | apply pw_below_drewN | apply below_drew1) | exact HB.out)) hb); clear HB; have HB := n0_; clear n0_; have n0_ := Aside0.mk (below_step (by repeat (first | (with_reducible first | exact HL.out | apply below_alloc | apply pw_below_drewN | apply below_drew1) | exact HL.out)) hb); clear HL; have HL := n0_; clear n0_) | (go_at_call 14; (with_reducible refine (rsame_n kg tg A5 lg.length c5 lg kg tg A6 lg.length c6 lg true _ (Kd.C_below CR5.out.2.2 (by repeat (first | (with_reducible first | exact HL.out | apply below_alloc | apply pw_below_drewN | apply below_drew1) | exact HL.out))) CR5.out.2.1 (Kd.C_below CR6.out.2.2 (by repeat (first | (with_reducible first | exact HL.out | apply below_alloc | apply pw_below_drewN | apply below_drew1) | exact HL.out))) CR6.out.2.1 (sameE_refl _ _ _)).mono ?_); rintro e w9 ⟨rfl, hb⟩; have n0_ := Aside0.mk (below_step (by repeat (first | (with_reducible first | exact HB.out | apply below_alloc | apply pw_below_drewN | apply below_drew1) | exact HB.out)) hb); clear HB; have HB := n0_; clear n0_; have n0_ := Aside0.mk (below_step (by repeat (first | (with_reducible first | exact HL.out | apply below_alloc | apply pw_below_drewN | apply below_drew1) | exact HL.out)) hb); clear HL; have HL := n0_; clear n0_))
      clear CR5 CR6 R5 R6 B23 lB23 qB23_0 qB23_1 qB23_2
      have B8' := Aside0.mk (blk_below B8.out HL.out)
      have B9' := Aside0.mk (blk_below B9.out HL.out)
      clear B8 B9 lB8 lB9 qB8_0 qB8_1 qB8_2 qB9_0 qB9_1 qB9_2 HL
      have B8 := B8'
      have B9 := B9'
      have HL := Aside0.mk (Below.refl w9.heap.size w9)
      clear B8' B9'
      have qB8_0 := blk_cell B8.out 0
      (try simp only [List.getElem?_toArray, List.getElem?_cons_zero, List.getElem?_cons_succ] at qB8_0)
      have qB8_1 := blk_cell B8.out 1
      (try simp only [List.getElem?_toArray, List.getElem?_cons_zero, List.getElem?_cons_succ] at qB8_1)
      have qB8_2 := blk_cell B8.out 2
      (try simp only [List.getElem?_toArray, List.getElem?_cons_zero, List.getElem?_cons_succ] at qB8_2)
      have lB8 := blk_lt B8.out
      have qB9_0 := blk_cell B9.out 0
      (try simp only [List.getElem?_toArray, List.getElem?_cons_zero, List.getElem?_cons_succ] at qB9_0)
      have qB9_1 := blk_cell B9.out 1
      (try simp only [List.getElem?_toArray, List.getElem?_cons_zero, List.getElem?_cons_succ] at qB9_1)
      have qB9_2 := blk_cell B9.out 2
      (try simp only [List.getElem?_toArray, List.getElem?_cons_zero, List.getElem?_cons_succ] at qB9_2)
      have lB9 := blk_lt B9.out
      go_upto_if 108 with fail
      go_cut [7] (fun v7 wx => ∃ (A0 : Option Addr) (c0 : Nat) (l0 : List S75), v7 = .slice A0 l0.length c0 ∧ Aside0 (l0.length ≤ c0 ∧ l0.length ≤ 3518437208780 ∧ Kd.V k75 75 wx 0 (fun _ => True) (.slice A0 l0.length c0) l0) ∧ Aside0 (Below w9.heap.size w9 wx))
      case first => as_aux_lemma =>
        cases near
        · go_wp2
          go_meet
          exact ⟨A7, c7, ks, rfl, ⟨hc7, hks, ⟨A7, c7, rfl, hc7, fun W' hW => HC7.out W' (fun j hj => (hW j trivial (Nat.lt_of_lt_of_le hj (below_size HB.out))).trans (HB.out.block j hj))⟩⟩, ⟨Below.refl _ _⟩⟩
        · go_wp2_with (first | (go_at_call 15; (with_reducible refine (kinds_c _).mono ?_); rintro e w10 ⟨A0, c0, rfl, hl0, hV0, hb⟩))
          go_meet
          exact ⟨A0, c0, kindsE, rfl, ⟨hl0, by decide, hV0⟩, ⟨hb⟩⟩
      case rest => as_aux_lemma =>
        obtain ⟨A0, c0, l0, rfl, hF, hBx⟩ := hcut
        obtain ⟨hF1, hF2, hF3⟩ := hF.out
        have HV := Aside0.mk hF3
        have B8' := Aside0.mk (blk_below B8.out hBx.out)
        have B9' := Aside0.mk (blk_below B9.out hBx.out)
        have HB' := Aside0.mk (below_step HB.out hBx.out)
        clear B8 B9 lB8 lB9 qB8_0 qB8_1 qB8_2 qB9_0 qB9_1 qB9_2 HL HB hF hF3 hBx
        have B8 := B8'
        have B9 := B9'
        have HB := HB'
        have HL := Aside0.mk (Below.refl wc.heap.size wc)
        clear B8' B9' HB'
        have qB8_0 := blk_cell B8.out 0
        (try simp only [List.getElem?_toArray, List.getElem?_cons_zero, List.getElem?_cons_succ] at qB8_0)
        have qB8_1 := blk_cell B8.out 1
        (try simp only [List.getElem?_toArray, List.getElem?_cons_zero, List.getElem?_cons_succ] at qB8_1)
        have qB8_2 := blk_cell B8.out 2
        (try simp only [List.getElem?_toArray, List.getElem?_cons_zero, List.getElem?_cons_succ] at qB8_2)
        have lB8 := blk_lt B8.out
        have qB9_0 := blk_cell B9.out 0
        (try simp only [List.getElem?_toArray, List.getElem?_cons_zero, List.getElem?_cons_succ] at qB9_0)
        have qB9_1 := blk_cell B9.out 1
        (try simp only [List.getElem?_toArray, List.getElem?_cons_zero, List.getElem?_cons_succ] at qB9_1)
        have qB9_2 := blk_cell B9.out 2
        (try simp only [List.getElem?_toArray, List.getElem?_cons_zero, List.getElem?_cons_succ] at qB9_2)
        have lB9 := blk_lt B9.out
        obtain ⟨b1, hb1⟩ : ∃ b, sameE K t (l.take m) k' t' l' = b := ⟨_, rfl⟩
        obtain ⟨x1, hx1⟩ : ∃ x, fitsE (l0.map fun x => x.f1.length) K m = x := ⟨_, rfl⟩
        have HE := Aside0.mk hb1
        have HX := Aside0.mk hx1
        have HZ : Aside0 (((putE K t (l.take m)).1.size : Int) = (p.size : Int)) := ⟨by rw [HP.out]⟩
        clear hb1 hx1
        have hV8 := Aside0.mk (Kd.V_reads' HV.out)
        have hrl : Aside0 ((toRef l0).map (fun x => x.f1.length) = l0.map fun x => x.f1.length) := ⟨by unfold toRef; rw [List.map_map]; rfl⟩
        go_upto_region 19 with fail
        refine start_ (n := 55) (S := fun w' => w'.cell? ⟨w.heap.size, 0, none⟩ = some (.int .i64 K) ∧ w'.cell? ⟨w.heap.size, 1, none⟩ = some (.int .i64 t) ∧ w'.cell? ⟨w.heap.size, 2, none⟩ = some (.slice A m c) ∧ w'.cell? ⟨w.heap.size + 1, 0, none⟩ = some (.int .i64 k') ∧ w'.cell? ⟨w.heap.size + 1, 1, none⟩ = some (.int .i64 t') ∧ w'.cell? ⟨w.heap.size + 1, 2, none⟩ = some (.slice A' l'.length c')) (ds := []) #[false, false, false, false, false, false, false, false, false, false, false, false, false, false, false, false, false, false, false, false, false, false, false, false, false, false, false, false, false, false, false, false, false, false, false, false, false, false, false, false, false, false, false, false, false, false, false, false, false, false, false, false, false, false, false] (by kernel_rfl) rfl rfl ⟨qB8_0, qB8_1, qB8_2, qB9_0, qB9_1, qB9_2⟩ (fun hHeld => ?_)
        refine pure_ (i := 0) (N := some 110) (v := ?_) (a' := ?_) #[true, false, false, false, false, false, false, false, false, false, false, false, false, false, false, false, false, false, false, false, false, false, false, false, false, false, false, false, false, false, false, false, false, false, false, false, false, false, false, false, false, false, false, false, false, false, false, false, false, false, false, false, false, false, false] rfl rfl (by kernel_rfl) (fun _ _ _ h => h) (Or.inl ⟨by rfl, ?_⟩) ?_ ?_
        rotate_left
        · intro w'
          go_simp
          with_reducible rfl
        rotate_left
        · simp only [Act.put, List.setIfInBounds_toArray, List.set_cons_zero, List.set_cons_succ, i64_w, i32_w]
          rfl
        refine pure_ (i := 1) (N := some 111) (v := ?_) (a' := ?_) #[true, true, false, false, false, false, false, false, false, false, false, false, false, false, false, false, false, false, false, false, false, false, false, false, false, false, false, false, false, false, false, false, false, false, false, false, false, false, false, false, false, false, false, false, false, false, false, false, false, false, false, false, false, false, false] rfl rfl (by kernel_rfl) (fun _ _ _ h => h) (Or.inl ⟨by rfl, ?_⟩) ?_ ?_
        rotate_left
        · intro w'
          go_simp
          with_reducible rfl
        rotate_left
        · simp only [Act.put, List.setIfInBounds_toArray, List.set_cons_zero, List.set_cons_succ, i64_w, i32_w]
          rfl
        refine pure_ (i := 2) (N := some 112) (v := ?_) (a' := ?_) #[true, true, true, false, false, false, false, false, false, false, false, false, false, false, false, false, false, false, false, false, false, false, false, false, false, false, false, false, false, false, false, false, false, false, false, false, false, false, false, false, false, false, false, false, false, false, false, false, false, false, false, false, false, false, false] rfl rfl (by kernel_rfl) (fun _ _ _ h => h) (Or.inl ⟨by rfl, ?_⟩) ?_ ?_
        rotate_left
        · intro w'
          go_simp
          with_reducible rfl
        rotate_left
        · simp only [Act.put, List.setIfInBounds_toArray, List.set_cons_zero, List.set_cons_succ, i64_w, i32_w]
          rfl
        refine pure_ (i := 3) (N := some 113) (v := ?_) (a' := ?_) #[true, true, true, true, false, false, false, false, false, false, false, false, false, false, false, false, false, false, false, false, false, false, false, false, false, false, false, false, false, false, false, false, false, false, false, false, false, false, false, false, false, false, false, false, false, false, false, false, false, false, false, false, false, false, false] rfl rfl (by kernel_rfl) (fun _ _ _ h => h) (Or.inl ⟨by rfl, ?_⟩) ?_ ?_
        rotate_left
        · intro w'
          go_simp
          with_reducible rfl
        rotate_left
        · simp only [Act.put, List.setIfInBounds_toArray, List.set_cons_zero, List.set_cons_succ, i64_w, i32_w]
          rfl
        refine pure_ (i := 4) (N := some 114) (v := ?_) (a' := ?_) #[true, true, true, true, true, false, false, false, false, false, false, false, false, false, false, false, false, false, false, false, false, false, false, false, false, false, false, false, false, false, false, false, false, false, false, false, false, false, false, false, false, false, false, false, false, false, false, false, false, false, false, false, false, false, false] rfl rfl (by kernel_rfl) (fun _ _ _ h => h) (Or.inl ⟨by rfl, ?_⟩) ?_ ?_
        rotate_left
        · intro w'
          go_simp
          with_reducible rfl
        rotate_left
        · simp only [Act.put, List.setIfInBounds_toArray, List.set_cons_zero, List.set_cons_succ, i64_w, i32_w]
          rfl
        refine pure_ (i := 5) (N := some 115) (v := ?_) (a' := ?_) #[true, true, true, true, true, true, false, false, false, false, false, false, false, false, false, false, false, false, false, false, false, false, false, false, false, false, false, false, false, false, false, false, false, false, false, false, false, false, false, false, false, false, false, false, false, false, false, false, false, false, false, false, false, false, false] rfl rfl (by kernel_rfl) (fun _ _ _ h => h) (Or.inl ⟨by rfl, ?_⟩) ?_ ?_
        rotate_left
        · intro w'
          go_simp
          with_reducible rfl
        rotate_left
        · simp only [Act.put, List.setIfInBounds_toArray, List.set_cons_zero, List.set_cons_succ, i64_w, i32_w]
          rfl
        refine pure_ (i := 6) (N := some 116) (v := ?_) (a' := ?_) #[true, true, true, true, true, true, true, false, false, false, false, false, false, false, false, false, false, false, false, false, false, false, false, false, false, false, false, false, false, false, false, false, false, false, false, false, false, false, false, false, false, false, false, false, false, false, false, false, false, false, false, false, false, false, false] rfl rfl (by kernel_rfl) (fun _ _ _ h => h) (Or.inl ⟨by rfl, ?_⟩) ?_ ?_
        rotate_left
        · intro w'
          go_simp
          with_reducible rfl
        rotate_left
        · simp only [Act.put, List.setIfInBounds_toArray, List.set_cons_zero, List.set_cons_succ, i64_w, i32_w]
          rfl
        refine pure_ (i := 7) (N := some 117) (v := ?_) (a' := ?_) #[true, true, true, true, true, true, true, true, false, false, false, false, false, false, false, false, false, false, false, false, false, false, false, false, false, false, false, false, false, false, false, false, false, false, false, false, false, false, false, false, false, false, false, false, false, false, false, false, false, false, false, false, false, false, false] rfl rfl (by kernel_rfl) (fun _ _ _ h => h) (Or.inl ⟨by rfl, ?_⟩) ?_ ?_
        rotate_left
        · intro w'
          go_simp
          with_reducible rfl
        rotate_left
        · simp only [Act.put, List.setIfInBounds_toArray, List.set_cons_zero, List.set_cons_succ, i64_w, i32_w]
          rfl
        refine pure_ (i := 8) (N := some 118) (v := ?_) (a' := ?_) #[true, true, true, true, true, true, true, true, true, false, false, false, false, false, false, false, false, false, false, false, false, false, false, false, false, false, false, false, false, false, false, false, false, false, false, false, false, false, false, false, false, false, false, false, false, false, false, false, false, false, false, false, false, false, false] rfl rfl (by kernel_rfl) (fun _ _ _ h => h) (Or.inl ⟨by rfl, ?_⟩) ?_ ?_
        rotate_left
        · intro w'
          go_simp
          with_reducible rfl
        rotate_left
        · simp only [Act.put, List.setIfInBounds_toArray, List.set_cons_zero, List.set_cons_succ, i64_w, i32_w]
          rfl
        refine pure_ (i := 9) (N := some 119) (v := ?_) (a' := ?_) #[true, true, true, true, true, true, true, true, true, true, false, false, false, false, false, false, false, false, false, false, false, false, false, false, false, false, false, false, false, false, false, false, false, false, false, false, false, false, false, false, false, false, false, false, false, false, false, false, false, false, false, false, false, false, false] rfl rfl (by kernel_rfl) (fun _ _ _ h => h) (Or.inl ⟨by rfl, ?_⟩) ?_ ?_
        rotate_left
        · intro w'
          go_simp
          with_reducible rfl
        rotate_left
        · simp only [Act.put, List.setIfInBounds_toArray, List.set_cons_zero, List.set_cons_succ, i64_w, i32_w]
          rfl
        refine pure_ (i := 10) (N := some 120) (v := ?_) (a' := ?_) #[true, true, true, true, true, true, true, true, true, true, true, false, false, false, false, false, false, false, false, false, false, false, false, false, false, false, false, false, false, false, false, false, false, false, false, false, false, false, false, false, false, false, false, false, false, false, false, false, false, false, false, false, false, false, false] rfl rfl (by kernel_rfl) (fun _ _ _ h => h) (Or.inl ⟨by rfl, ?_⟩) ?_ ?_
        rotate_left
        · intro w'
          go_simp
          with_reducible rfl
        rotate_left
        · simp only [Act.put, List.setIfInBounds_toArray, List.set_cons_zero, List.set_cons_succ, i64_w, i32_w]
          rfl
        refine pure_ (i := 11) (N := some 121) (v := ?_) (a' := ?_) #[true, true, true, true, true, true, true, true, true, true, true, true, false, false, false, false, false, false, false, false, false, false, false, false, false, false, false, false, false, false, false, false, false, false, false, false, false, false, false, false, false, false, false, false, false, false, false, false, false, false, false, false, false, false, false] rfl rfl (by kernel_rfl) (fun _ _ _ h => h) (Or.inl ⟨by rfl, ?_⟩) ?_ ?_
        rotate_left
        · intro w'
          go_simp
          with_reducible rfl
        rotate_left
        · simp only [Act.put, List.setIfInBounds_toArray, List.set_cons_zero, List.set_cons_succ, i64_w, i32_w]
          rfl
        refine pure_ (i := 12) (N := some 122) (v := ?_) (a' := ?_) #[true, true, true, true, true, true, true, true, true, true, true, true, true, false, false, false, false, false, false, false, false, false, false, false, false, false, false, false, false, false, false, false, false, false, false, false, false, false, false, false, false, false, false, false, false, false, false, false, false, false, false, false, false, false, false] rfl rfl (by kernel_rfl) (fun _ _ _ h => h) (Or.inl ⟨by rfl, ?_⟩) ?_ ?_
        rotate_left
        · intro w'
          go_simp
          with_reducible rfl
        rotate_left
        · simp only [Act.put, List.setIfInBounds_toArray, List.set_cons_zero, List.set_cons_succ, i64_w, i32_w]
          rfl
        refine pure_ (i := 13) (N := some 123) (v := ?_) (a' := ?_) #[true, true, true, true, true, true, true, true, true, true, true, true, true, true, false, false, false, false, false, false, false, false, false, false, false, false, false, false, false, false, false, false, false, false, false, false, false, false, false, false, false, false, false, false, false, false, false, false, false, false, false, false, false, false, false] rfl rfl (by kernel_rfl) (fun _ _ _ h => h) (Or.inl ⟨by rfl, ?_⟩) ?_ ?_
        rotate_left
        · intro w'
          go_simp
          with_reducible rfl
        rotate_left
        · simp only [Act.put, List.setIfInBounds_toArray, List.set_cons_zero, List.set_cons_succ, i64_w, i32_w]
          rfl
        refine pure_ (i := 14) (N := some 124) (v := ?_) (a' := ?_) #[true, true, true, true, true, true, true, true, true, true, true, true, true, true, true, false, false, false, false, false, false, false, false, false, false, false, false, false, false, false, false, false, false, false, false, false, false, false, false, false, false, false, false, false, false, false, false, false, false, false, false, false, false, false, false] rfl rfl (by kernel_rfl) (fun _ _ _ h => h) (Or.inl ⟨by rfl, ?_⟩) ?_ ?_
        rotate_left
        · intro w'
          go_simp
          with_reducible rfl
        rotate_left
        · simp only [Act.put, List.setIfInBounds_toArray, List.set_cons_zero, List.set_cons_succ, i64_w, i32_w]
          rfl
        refine pure_ (i := 15) (N := some 125) (v := ?_) (a' := ?_) #[true, true, true, true, true, true, true, true, true, true, true, true, true, true, true, true, false, false, false, false, false, false, false, false, false, false, false, false, false, false, false, false, false, false, false, false, false, false, false, false, false, false, false, false, false, false, false, false, false, false, false, false, false, false, false] rfl rfl (by kernel_rfl) (fun _ _ _ h => h) (Or.inl ⟨by rfl, ?_⟩) ?_ ?_
        rotate_left
        · intro w'
          go_simp
          with_reducible rfl
        rotate_left
        · simp only [Act.put, List.setIfInBounds_toArray, List.set_cons_zero, List.set_cons_succ, i64_w, i32_w]
          rfl
        refine pure_ (i := 16) (N := some 126) (v := ?_) (a' := ?_) #[true, true, true, true, true, true, true, true, true, true, true, true, true, true, true, true, true, false, false, false, false, false, false, false, false, false, false, false, false, false, false, false, false, false, false, false, false, false, false, false, false, false, false, false, false, false, false, false, false, false, false, false, false, false, false] rfl rfl (by kernel_rfl) (fun _ _ _ h => h) (Or.inl ⟨by rfl, ?_⟩) ?_ ?_
        rotate_left
        · intro w'
          go_simp
          with_reducible rfl
        rotate_left
        · simp only [Act.put, List.setIfInBounds_toArray, List.set_cons_zero, List.set_cons_succ, i64_w, i32_w]
          rfl
        refine pure_ (i := 17) (N := some 127) (v := ?_) (a' := ?_) #[true, true, true, true, true, true, true, true, true, true, true, true, true, true, true, true, true, true, false, false, false, false, false, false, false, false, false, false, false, false, false, false, false, false, false, false, false, false, false, false, false, false, false, false, false, false, false, false, false, false, false, false, false, false, false] rfl rfl (by kernel_rfl) (fun _ _ _ h => h) (Or.inl ⟨by rfl, ?_⟩) ?_ ?_
        rotate_left
        · intro w'
          go_simp
          with_reducible rfl
        rotate_left
        · simp only [Act.put, List.setIfInBounds_toArray, List.set_cons_zero, List.set_cons_succ, i64_w, i32_w]
          rfl
        refine pure_ (i := 18) (N := some 128) (v := ?_) (a' := ?_) #[true, true, true, true, true, true, true, true, true, true, true, true, true, true, true, true, true, true, true, false, false, false, false, false, false, false, false, false, false, false, false, false, false, false, false, false, false, false, false, false, false, false, false, false, false, false, false, false, false, false, false, false, false, false, false] rfl rfl (by kernel_rfl) (fun _ _ _ h => h) (Or.inl ⟨by rfl, ?_⟩) ?_ ?_
        rotate_left
        · intro w'
          go_simp
          with_reducible rfl
        rotate_left
        · simp only [Act.put, List.setIfInBounds_toArray, List.set_cons_zero, List.set_cons_succ, i64_w, i32_w]
          rfl
        refine pure_ (i := 19) (N := some 129) (v := ?_) (a' := ?_) #[true, true, true, true, true, true, true, true, true, true, true, true, true, true, true, true, true, true, true, true, false, false, false, false, false, false, false, false, false, false, false, false, false, false, false, false, false, false, false, false, false, false, false, false, false, false, false, false, false, false, false, false, false, false, false] rfl rfl (by kernel_rfl) (fun _ _ _ h => h) (Or.inl ⟨by rfl, ?_⟩) ?_ ?_
        rotate_left
        · intro w'
          go_simp
          with_reducible rfl
        rotate_left
        · simp only [Act.put, List.setIfInBounds_toArray, List.set_cons_zero, List.set_cons_succ, i64_w, i32_w]
          rfl
        refine take_ (i := 20) (N := some 130) (v := ?_) (a' := ?_) #[true, true, true, true, true, true, true, true, true, true, true, true, true, true, true, true, true, true, true, true, true, false, false, false, false, false, false, false, false, false, false, false, false, false, false, false, false, false, false, false, false, false, false, false, false, false, false, false, false, false, false, false, false, false, false] rfl rfl (by kernel_rfl) (fun _ _ _ h => h) (Or.inl ⟨by rfl, ?_⟩) hHeld ?_ ?_
        rotate_left
        · rintro w' ⟨s0, s1, s2, s3, s4, s5⟩
          go_simp
          with_reducible rfl
        rotate_left
        · simp only [Act.put, List.setIfInBounds_toArray, List.set_cons_zero, List.set_cons_succ, i64_w, i32_w]
          rfl
        refine take_ (i := 22) (N := some 132) (v := ?_) (a' := ?_) #[true, true, true, true, true, true, true, true, true, true, true, true, true, true, true, true, true, true, true, true, true, false, true, false, false, false, false, false, false, false, false, false, false, false, false, false, false, false, false, false, false, false, false, false, false, false, false, false, false, false, false, false, false, false, false] rfl rfl (by kernel_rfl) (fun _ _ _ h => h) (Or.inl ⟨by rfl, ?_⟩) hHeld ?_ ?_
        rotate_left
        · rintro w' ⟨s0, s1, s2, s3, s4, s5⟩
          go_simp
          with_reducible rfl
        rotate_left
        · simp only [Act.put, List.setIfInBounds_toArray, List.set_cons_zero, List.set_cons_succ, i64_w, i32_w]
          rfl
        refine one_ (i := 21) (N := some 131) #[true, true, true, true, true, true, true, true, true, true, true, true, true, true, true, true, true, true, true, true, true, true, true, false, false, false, false, false, false, false, false, false, false, false, false, false, false, false, false, false, false, false, false, false, false, false, false, false, false, false, false, false, false, false, false] rfl rfl (by kernel_rfl) (by decide) (fun Kc hKc => ?_)
        refine goes_ Try.func16 (by kernel_rfl) rfl #[.agg #[.int .i64 K, .int .i64 t, .slice A m c]] (by rfl) rfl rfl (by simp only [List.map_toArray, List.map_cons, List.map_nil]; rfl) ?_
        with_reducible refine (wsize_n K t A m c (l.take m) (p.size : Int) _ (HM.out _ (Has.of_below (by repeat (first | (with_reducible first | exact HB.out | apply below_alloc | apply pw_below_drewN | apply below_drew1) | exact HB.out)))) HZ.out).mono ?_
        rintro e w9 ⟨rfl, hb⟩
        refine ⟨_, rfl, ?_⟩
        have n0_ := Aside0.mk (below_step (by repeat (first | (with_reducible first | exact HB.out | apply below_alloc | apply pw_below_drewN | apply below_drew1) | exact HB.out)) hb); clear HB; have HB := n0_; clear n0_; have n0_ := Aside0.mk (below_step (by repeat (first | (with_reducible first | exact HL.out | apply below_alloc | apply pw_below_drewN | apply below_drew1) | exact HL.out)) hb); clear HL; have HL := n0_; clear n0_
        refine hKc.out _ _ ⟨pw_cell_below hb hHeld.1, pw_cell_below hb hHeld.2.1, pw_cell_below hb hHeld.2.2.1, pw_cell_below hb hHeld.2.2.2.1, pw_cell_below hb hHeld.2.2.2.2.1, pw_cell_below hb hHeld.2.2.2.2.2⟩ (fun hHeld => ?_)
        clear hKc Kc
        refine norm_ (a' := ?_) ?_ ?_
        rotate_left
        · show Act.put _ (some 131) _ = _
          simp only [Act.put, List.setIfInBounds_toArray, List.set_cons_zero, List.set_cons_succ, i64_w, i32_w]
          rfl
        refine one_ (i := 23) (N := some 133) #[true, true, true, true, true, true, true, true, true, true, true, true, true, true, true, true, true, true, true, true, true, true, true, true, false, false, false, false, false, false, false, false, false, false, false, false, false, false, false, false, false, false, false, false, false, false, false, false, false, false, false, false, false, false, false] rfl rfl (by kernel_rfl) (by decide) (fun Kc hKc => ?_)
        refine goes_ Try.func11 (by kernel_rfl) rfl #[.agg #[.int .i64 K, .int .i64 t, .slice A m c]] (by rfl) rfl rfl (by simp only [List.map_toArray, List.map_cons, List.map_nil]; rfl) ?_
        with_reducible refine (ref_c K t A m c _).mono ?_
        rintro e w9 ⟨rfl, hb⟩
        refine ⟨_, rfl, ?_⟩
        have n0_ := Aside0.mk (below_step (by repeat (first | (with_reducible first | exact HB.out | apply below_alloc | apply pw_below_drewN | apply below_drew1) | exact HB.out)) hb); clear HB; have HB := n0_; clear n0_; have n0_ := Aside0.mk (below_step (by repeat (first | (with_reducible first | exact HL.out | apply below_alloc | apply pw_below_drewN | apply below_drew1) | exact HL.out)) hb); clear HL; have HL := n0_; clear n0_
        refine hKc.out _ _ ⟨pw_cell_below hb hHeld.1, pw_cell_below hb hHeld.2.1, pw_cell_below hb hHeld.2.2.1, pw_cell_below hb hHeld.2.2.2.1, pw_cell_below hb hHeld.2.2.2.2.1, pw_cell_below hb hHeld.2.2.2.2.2⟩ (fun hHeld => ?_)
        clear hKc Kc
        refine norm_ (a' := ?_) ?_ ?_
        rotate_left
        · show Act.put _ (some 133) _ = _
          simp only [Act.put, List.setIfInBounds_toArray, List.set_cons_zero, List.set_cons_succ, i64_w, i32_w]
          rfl
        refine one_ (i := 24) (N := some 134) #[true, true, true, true, true, true, true, true, true, true, true, true, true, true, true, true, true, true, true, true, true, true, true, true, true, false, false, false, false, false, false, false, false, false, false, false, false, false, false, false, false, false, false, false, false, false, false, false, false, false, false, false, false, false, false] rfl rfl (by kernel_rfl) (by decide) (fun Kc hKc => ?_)
        refine goes_ Try.func17 (by kernel_rfl) rfl #[.agg #[.int .i64 K, .int .i64 t, .slice A m c]] (by rfl) rfl rfl (by simp only [List.map_toArray, List.map_cons, List.map_nil]; rfl) ?_
        with_reducible refine (rsize_n K t A m c (l.take m) (p.size : Int) _ (HM.out _ (Has.of_below (by repeat (first | (with_reducible first | exact HB.out | apply below_alloc | apply pw_below_drewN | apply below_drew1) | exact HB.out)))) hcm HZ.out).mono ?_
        rintro e w9 ⟨rfl, hb⟩
        refine ⟨_, rfl, ?_⟩
        have n0_ := Aside0.mk (below_step (by repeat (first | (with_reducible first | exact HB.out | apply below_alloc | apply pw_below_drewN | apply below_drew1) | exact HB.out)) hb); clear HB; have HB := n0_; clear n0_; have n0_ := Aside0.mk (below_step (by repeat (first | (with_reducible first | exact HL.out | apply below_alloc | apply pw_below_drewN | apply below_drew1) | exact HL.out)) hb); clear HL; have HL := n0_; clear n0_
        refine hKc.out _ _ ⟨pw_cell_below hb hHeld.1, pw_cell_below hb hHeld.2.1, pw_cell_below hb hHeld.2.2.1, pw_cell_below hb hHeld.2.2.2.1, pw_cell_below hb hHeld.2.2.2.2.1, pw_cell_below hb hHeld.2.2.2.2.2⟩ (fun hHeld => ?_)
        clear hKc Kc
        refine norm_ (a' := ?_) ?_ ?_
        rotate_left
        · show Act.put _ (some 134) _ = _
          simp only [Act.put, List.setIfInBounds_toArray, List.set_cons_zero, List.set_cons_succ, i64_w, i32_w]
          rfl
        refine pure_ (i := 25) (N := some 135) (v := ?_) (a' := ?_) #[true, true, true, true, true, true, true, true, true, true, true, true, true, true, true, true, true, true, true, true, true, true, true, true, true, true, false, false, false, false, false, false, false, false, false, false, false, false, false, false, false, false, false, false, false, false, false, false, false, false, false, false, false, false, false] rfl rfl (by kernel_rfl) (fun _ _ _ h => h) (Or.inl ⟨by rfl, ?_⟩) ?_ ?_
        rotate_left
        · intro w'
          go_simp
          with_reducible rfl
        rotate_left
        · simp only [Act.put, List.setIfInBounds_toArray, List.set_cons_zero, List.set_cons_succ, i64_w, i32_w]
          rfl
        refine pure_ (i := 26) (N := some 136) (v := ?_) (a' := ?_) #[true, true, true, true, true, true, true, true, true, true, true, true, true, true, true, true, true, true, true, true, true, true, true, true, true, true, true, false, false, false, false, false, false, false, false, false, false, false, false, false, false, false, false, false, false, false, false, false, false, false, false, false, false, false, false] rfl rfl (by kernel_rfl) (fun _ _ _ h => h) (Or.inl ⟨by rfl, ?_⟩) ?_ ?_
        rotate_left
        · intro w'
          go_simp
          with_reducible rfl
        rotate_left
        · simp only [Act.put, List.setIfInBounds_toArray, List.set_cons_zero, List.set_cons_succ, i64_w, i32_w]
          rfl
        refine pure_ (i := 27) (N := some 137) (v := ?_) (a' := ?_) #[true, true, true, true, true, true, true, true, true, true, true, true, true, true, true, true, true, true, true, true, true, true, true, true, true, true, true, true, false, false, false, false, false, false, false, false, false, false, false, false, false, false, false, false, false, false, false, false, false, false, false, false, false, false, false] rfl rfl (by kernel_rfl) (fun _ _ _ h => h) (Or.inl ⟨by rfl, ?_⟩) ?_ ?_
        rotate_left
        · intro w'
          go_simp
          with_reducible rfl
        rotate_left
        · simp only [Act.put, List.setIfInBounds_toArray, List.set_cons_zero, List.set_cons_succ, i64_w, i32_w]
          rfl
        refine take_ (i := 28) (N := some 138) (v := ?_) (a' := ?_) #[true, true, true, true, true, true, true, true, true, true, true, true, true, true, true, true, true, true, true, true, true, true, true, true, true, true, true, true, true, false, false, false, false, false, false, false, false, false, false, false, false, false, false, false, false, false, false, false, false, false, false, false, false, false, false] rfl rfl (by kernel_rfl) (fun _ _ _ h => h) (Or.inl ⟨by rfl, ?_⟩) hHeld ?_ ?_
        rotate_left
        · rintro w' ⟨s0, s1, s2, s3, s4, s5⟩
          go_simp
          with_reducible rfl
        rotate_left
        · simp only [Act.put, List.setIfInBounds_toArray, List.set_cons_zero, List.set_cons_succ, i64_w, i32_w]
          rfl
        refine take_ (i := 29) (N := some 139) (v := ?_) (a' := ?_) #[true, true, true, true, true, true, true, true, true, true, true, true, true, true, true, true, true, true, true, true, true, true, true, true, true, true, true, true, true, true, false, false, false, false, false, false, false, false, false, false, false, false, false, false, false, false, false, false, false, false, false, false, false, false, false] rfl rfl (by kernel_rfl) (fun _ _ _ h => h) (Or.inl ⟨by rfl, ?_⟩) hHeld ?_ ?_
        rotate_left
        · rintro w' ⟨s0, s1, s2, s3, s4, s5⟩
          go_simp
          with_reducible rfl
        rotate_left
        · simp only [Act.put, List.setIfInBounds_toArray, List.set_cons_zero, List.set_cons_succ, i64_w, i32_w]
          rfl
        refine take_ (i := 31) (N := some 141) (v := ?_) (a' := ?_) #[true, true, true, true, true, true, true, true, true, true, true, true, true, true, true, true, true, true, true, true, true, true, true, true, true, true, true, true, true, true, false, true, false, false, false, false, false, false, false, false, false, false, false, false, false, false, false, false, false, false, false, false, false, false, false] rfl rfl (by kernel_rfl) (fun _ _ _ h => h) (Or.inl ⟨by rfl, ?_⟩) hHeld ?_ ?_
        rotate_left
        · rintro w' ⟨s0, s1, s2, s3, s4, s5⟩
          go_simp
          with_reducible rfl
        rotate_left
        · simp only [Act.put, List.setIfInBounds_toArray, List.set_cons_zero, List.set_cons_succ, i64_w, i32_w]
          rfl
        refine take_ (i := 33) (N := some 143) (v := ?_) (a' := ?_) #[true, true, true, true, true, true, true, true, true, true, true, true, true, true, true, true, true, true, true, true, true, true, true, true, true, true, true, true, true, true, false, true, false, true, false, false, false, false, false, false, false, false, false, false, false, false, false, false, false, false, false, false, false, false, false] rfl rfl (by kernel_rfl) (fun _ _ _ h => h) (Or.inl ⟨by rfl, ?_⟩) hHeld ?_ ?_
        rotate_left
        · rintro w' ⟨s0, s1, s2, s3, s4, s5⟩
          go_simp
          with_reducible rfl
        rotate_left
        · simp only [Act.put, List.setIfInBounds_toArray, List.set_cons_zero, List.set_cons_succ, i64_w, i32_w]
          rfl
        refine one_ (i := 30) (N := some 140) #[true, true, true, true, true, true, true, true, true, true, true, true, true, true, true, true, true, true, true, true, true, true, true, true, true, true, true, true, true, true, true, true, false, true, false, false, false, false, false, false, false, false, false, false, false, false, false, false, false, false, false, false, false, false, false] rfl rfl (by kernel_rfl) (by decide) (fun Kc hKc => ?_)
        refine goes_ Try.func18 (by kernel_rfl) rfl #[.agg #[.int .i64 K, .int .i64 t, .slice A m c], .agg #[.int .i64 k', .int .i64 t', .slice A' l'.length c']] (by rfl) rfl rfl (by simp only [List.map_toArray, List.map_cons, List.map_nil]; rfl) ?_
        with_reducible refine (wsame_n K t A m c (l.take m) k' t' A' l'.length c' l' b1 _ (HM.out _ (Has.of_below (by repeat (first | (with_reducible first | exact HB.out | apply below_alloc | apply pw_below_drewN | apply below_drew1) | exact HB.out)))) hcm (HC'.out _ (Has.of_below (by repeat (first | (with_reducible first | exact HB.out | apply below_alloc | apply pw_below_drewN | apply below_drew1) | exact HB.out)))) hc' HE.out).mono ?_
        rintro e w9 ⟨rfl, hb⟩
        refine ⟨_, rfl, ?_⟩
        have n0_ := Aside0.mk (below_step (by repeat (first | (with_reducible first | exact HB.out | apply below_alloc | apply pw_below_drewN | apply below_drew1) | exact HB.out)) hb); clear HB; have HB := n0_; clear n0_; have n0_ := Aside0.mk (below_step (by repeat (first | (with_reducible first | exact HL.out | apply below_alloc | apply pw_below_drewN | apply below_drew1) | exact HL.out)) hb); clear HL; have HL := n0_; clear n0_
        refine hKc.out _ _ ⟨pw_cell_below hb hHeld.1, pw_cell_below hb hHeld.2.1, pw_cell_below hb hHeld.2.2.1, pw_cell_below hb hHeld.2.2.2.1, pw_cell_below hb hHeld.2.2.2.2.1, pw_cell_below hb hHeld.2.2.2.2.2⟩ (fun hHeld => ?_)
        clear hKc Kc
        refine norm_ (a' := ?_) ?_ ?_
        rotate_left
        · show Act.put _ (some 140) _ = _
          simp only [Act.put, List.setIfInBounds_toArray, List.set_cons_zero, List.set_cons_succ, i64_w, i32_w]
          rfl
        refine one_ (i := 32) (N := some 142) #[true, true, true, true, true, true, true, true, true, true, true, true, true, true, true, true, true, true, true, true, true, true, true, true, true, true, true, true, true, true, true, true, true, true, false, false, false, false, false, false, false, false, false, false, false, false, false, false, false, false, false, false, false, false, false] rfl rfl (by kernel_rfl) (by decide) (fun Kc hKc => ?_)
        refine goes_ Try.func11 (by kernel_rfl) rfl #[.agg #[.int .i64 K, .int .i64 t, .slice A m c]] (by rfl) rfl rfl (by simp only [List.map_toArray, List.map_cons, List.map_nil]; rfl) ?_
        with_reducible refine (ref_c K t A m c _).mono ?_
        rintro e w9 ⟨rfl, hb⟩
        refine ⟨_, rfl, ?_⟩
        have n0_ := Aside0.mk (below_step (by repeat (first | (with_reducible first | exact HB.out | apply below_alloc | apply pw_below_drewN | apply below_drew1) | exact HB.out)) hb); clear HB; have HB := n0_; clear n0_; have n0_ := Aside0.mk (below_step (by repeat (first | (with_reducible first | exact HL.out | apply below_alloc | apply pw_below_drewN | apply below_drew1) | exact HL.out)) hb); clear HL; have HL := n0_; clear n0_
        refine hKc.out _ _ ⟨pw_cell_below hb hHeld.1, pw_cell_below hb hHeld.2.1, pw_cell_below hb hHeld.2.2.1, pw_cell_below hb hHeld.2.2.2.1, pw_cell_below hb hHeld.2.2.2.2.1, pw_cell_below hb hHeld.2.2.2.2.2⟩ (fun hHeld => ?_)
        clear hKc Kc
        refine norm_ (a' := ?_) ?_ ?_
        rotate_left
        · show Act.put _ (some 142) _ = _
          simp only [Act.put, List.setIfInBounds_toArray, List.set_cons_zero, List.set_cons_succ, i64_w, i32_w]
          rfl
        refine one_ (i := 34) (N := some 144) #[true, true, true, true, true, true, true, true, true, true, true, true, true, true, true, true, true, true, true, true, true, true, true, true, true, true, true, true, true, true, true, true, true, true, true, false, false, false, false, false, false, false, false, false, false, false, false, false, false, false, false, false, false, false, false] rfl rfl (by kernel_rfl) (by decide) (fun Kc hKc => ?_)
        refine goes_ Try.func11 (by kernel_rfl) rfl #[.agg #[.int .i64 k', .int .i64 t', .slice A' l'.length c']] (by rfl) rfl rfl (by simp only [List.map_toArray, List.map_cons, List.map_nil]; rfl) ?_
        with_reducible refine (ref_c k' t' A' l'.length c' _).mono ?_
        rintro e w9 ⟨rfl, hb⟩
        refine ⟨_, rfl, ?_⟩
        have n0_ := Aside0.mk (below_step (by repeat (first | (with_reducible first | exact HB.out | apply below_alloc | apply pw_below_drewN | apply below_drew1) | exact HB.out)) hb); clear HB; have HB := n0_; clear n0_; have n0_ := Aside0.mk (below_step (by repeat (first | (with_reducible first | exact HL.out | apply below_alloc | apply pw_below_drewN | apply below_drew1) | exact HL.out)) hb); clear HL; have HL := n0_; clear n0_
        refine hKc.out _ _ ⟨pw_cell_below hb hHeld.1, pw_cell_below hb hHeld.2.1, pw_cell_below hb hHeld.2.2.1, pw_cell_below hb hHeld.2.2.2.1, pw_cell_below hb hHeld.2.2.2.2.1, pw_cell_below hb hHeld.2.2.2.2.2⟩ (fun hHeld => ?_)
        clear hKc Kc
        refine norm_ (a' := ?_) ?_ ?_
        rotate_left
        · show Act.put _ (some 144) _ = _
          simp only [Act.put, List.setIfInBounds_toArray, List.set_cons_zero, List.set_cons_succ, i64_w, i32_w]
          rfl
        refine one_ (i := 35) (N := some 145) #[true, true, true, true, true, true, true, true, true, true, true, true, true, true, true, true, true, true, true, true, true, true, true, true, true, true, true, true, true, true, true, true, true, true, true, true, false, false, false, false, false, false, false, false, false, false, false, false, false, false, false, false, false, false, false] rfl rfl (by kernel_rfl) (by decide) (fun Kc hKc => ?_)
        refine goes_ Try.func14 (by kernel_rfl) rfl #[.agg #[.int .i64 K, .int .i64 t, .slice A m c], .agg #[.int .i64 k', .int .i64 t', .slice A' l'.length c']] (by rfl) rfl rfl (by simp only [List.map_toArray, List.map_cons, List.map_nil]; rfl) ?_
        with_reducible refine (rsame_n K t A m c (l.take m) k' t' A' l'.length c' l' b1 _ (HM.out _ (Has.of_below (by repeat (first | (with_reducible first | exact HB.out | apply below_alloc | apply pw_below_drewN | apply below_drew1) | exact HB.out)))) hcm (HC'.out _ (Has.of_below (by repeat (first | (with_reducible first | exact HB.out | apply below_alloc | apply pw_below_drewN | apply below_drew1) | exact HB.out)))) hc' HE.out).mono ?_
        rintro e w9 ⟨rfl, hb⟩
        refine ⟨_, rfl, ?_⟩
        have n0_ := Aside0.mk (below_step (by repeat (first | (with_reducible first | exact HB.out | apply below_alloc | apply pw_below_drewN | apply below_drew1) | exact HB.out)) hb); clear HB; have HB := n0_; clear n0_; have n0_ := Aside0.mk (below_step (by repeat (first | (with_reducible first | exact HL.out | apply below_alloc | apply pw_below_drewN | apply below_drew1) | exact HL.out)) hb); clear HL; have HL := n0_; clear n0_
        refine hKc.out _ _ ⟨pw_cell_below hb hHeld.1, pw_cell_below hb hHeld.2.1, pw_cell_below hb hHeld.2.2.1, pw_cell_below hb hHeld.2.2.2.1, pw_cell_below hb hHeld.2.2.2.2.1, pw_cell_below hb hHeld.2.2.2.2.2⟩ (fun hHeld => ?_)
        clear hKc Kc
        refine norm_ (a' := ?_) ?_ ?_
        rotate_left
        · show Act.put _ (some 145) _ = _
          simp only [Act.put, List.setIfInBounds_toArray, List.set_cons_zero, List.set_cons_succ, i64_w, i32_w]
          rfl
        refine pure_ (i := 36) (N := some 146) (v := ?_) (a' := ?_) #[true, true, true, true, true, true, true, true, true, true, true, true, true, true, true, true, true, true, true, true, true, true, true, true, true, true, true, true, true, true, true, true, true, true, true, true, true, false, false, false, false, false, false, false, false, false, false, false, false, false, false, false, false, false, false] rfl rfl (by kernel_rfl) (fun _ _ _ h => h) (Or.inl ⟨by rfl, ?_⟩) ?_ ?_
        rotate_left
        · intro w'
          go_simp
          with_reducible rfl
        rotate_left
        · simp only [Act.put, List.setIfInBounds_toArray, List.set_cons_zero, List.set_cons_succ, i64_w, i32_w]
          rfl
        refine pure_ (i := 37) (N := some 147) (v := ?_) (a' := ?_) #[true, true, true, true, true, true, true, true, true, true, true, true, true, true, true, true, true, true, true, true, true, true, true, true, true, true, true, true, true, true, true, true, true, true, true, true, true, true, false, false, false, false, false, false, false, false, false, false, false, false, false, false, false, false, false] rfl rfl (by kernel_rfl) (fun _ _ _ h => h) (Or.inl ⟨by rfl, ?_⟩) ?_ ?_
        rotate_left
        · intro w'
          go_simp
          with_reducible rfl
        rotate_left
        · simp only [Act.put, List.setIfInBounds_toArray, List.set_cons_zero, List.set_cons_succ, i64_w, i32_w]
          rfl
        refine pure_ (i := 38) (N := some 148) (v := ?_) (a' := ?_) #[true, true, true, true, true, true, true, true, true, true, true, true, true, true, true, true, true, true, true, true, true, true, true, true, true, true, true, true, true, true, true, true, true, true, true, true, true, true, true, false, false, false, false, false, false, false, false, false, false, false, false, false, false, false, false] rfl rfl (by kernel_rfl) (fun _ _ _ h => h) (Or.inl ⟨by rfl, ?_⟩) ?_ ?_
        rotate_left
        · intro w'
          go_simp
          with_reducible rfl
        rotate_left
        · simp only [Act.put, List.setIfInBounds_toArray, List.set_cons_zero, List.set_cons_succ, i64_w, i32_w]
          rfl
        refine take_ (i := 39) (N := some 149) (v := ?_) (a' := ?_) #[true, true, true, true, true, true, true, true, true, true, true, true, true, true, true, true, true, true, true, true, true, true, true, true, true, true, true, true, true, true, true, true, true, true, true, true, true, true, true, true, false, false, false, false, false, false, false, false, false, false, false, false, false, false, false] rfl rfl (by kernel_rfl) (fun _ _ _ h => h) (Or.inl ⟨by rfl, ?_⟩) hHeld ?_ ?_
        rotate_left
        · rintro w' ⟨s0, s1, s2, s3, s4, s5⟩
          go_simp
          with_reducible rfl
        rotate_left
        · simp only [Act.put, List.setIfInBounds_toArray, List.set_cons_zero, List.set_cons_succ, i64_w, i32_w]
          rfl
        refine take_ (i := 40) (N := some 150) (v := ?_) (a' := ?_) #[true, true, true, true, true, true, true, true, true, true, true, true, true, true, true, true, true, true, true, true, true, true, true, true, true, true, true, true, true, true, true, true, true, true, true, true, true, true, true, true, true, false, false, false, false, false, false, false, false, false, false, false, false, false, false] rfl rfl (by kernel_rfl) (fun _ _ _ h => h) (Or.inl ⟨by rfl, ?_⟩) hHeld ?_ ?_
        rotate_left
        · rintro w' ⟨s0, s1, s2, s3, s4, s5⟩
          go_simp
          with_reducible rfl
        rotate_left
        · simp only [Act.put, List.setIfInBounds_toArray, List.set_cons_zero, List.set_cons_succ, i64_w, i32_w]
          rfl
        refine one_ (i := 41) (N := some 151) #[true, true, true, true, true, true, true, true, true, true, true, true, true, true, true, true, true, true, true, true, true, true, true, true, true, true, true, true, true, true, true, true, true, true, true, true, true, true, true, true, true, true, false, false, false, false, false, false, false, false, false, false, false, false, false] rfl rfl (by kernel_rfl) (by decide) (fun Kc hKc => ?_)
        refine goes_ Try.func18 (by kernel_rfl) rfl #[.agg #[.int .i64 K, .int .i64 t, .slice A m c], .agg #[.int .i64 K, .int .i64 t, .slice A m c]] (by rfl) rfl rfl (by simp only [List.map_toArray, List.map_cons, List.map_nil]; rfl) ?_
        with_reducible refine (wsame_n K t A m c (l.take m) K t A m c (l.take m) true _ (HM.out _ (Has.of_below (by repeat (first | (with_reducible first | exact HB.out | apply below_alloc | apply pw_below_drewN | apply below_drew1) | exact HB.out)))) hcm (HM.out _ (Has.of_below (by repeat (first | (with_reducible first | exact HB.out | apply below_alloc | apply pw_below_drewN | apply below_drew1) | exact HB.out)))) hcm (sameE_refl _ _ _)).mono ?_
        rintro e w9 ⟨rfl, hb⟩
        refine ⟨_, rfl, ?_⟩
        have n0_ := Aside0.mk (below_step (by repeat (first | (with_reducible first | exact HB.out | apply below_alloc | apply pw_below_drewN | apply below_drew1) | exact HB.out)) hb); clear HB; have HB := n0_; clear n0_; have n0_ := Aside0.mk (below_step (by repeat (first | (with_reducible first | exact HL.out | apply below_alloc | apply pw_below_drewN | apply below_drew1) | exact HL.out)) hb); clear HL; have HL := n0_; clear n0_
        refine hKc.out _ _ ⟨pw_cell_below hb hHeld.1, pw_cell_below hb hHeld.2.1, pw_cell_below hb hHeld.2.2.1, pw_cell_below hb hHeld.2.2.2.1, pw_cell_below hb hHeld.2.2.2.2.1, pw_cell_below hb hHeld.2.2.2.2.2⟩ (fun hHeld => ?_)
        clear hKc Kc
        refine norm_ (a' := ?_) ?_ ?_
        rotate_left
        · show Act.put _ (some 151) _ = _
          simp only [Act.put, List.setIfInBounds_toArray, List.set_cons_zero, List.set_cons_succ, i64_w, i32_w]
          rfl
        refine pure_ (i := 42) (N := some 152) (v := ?_) (a' := ?_) #[true, true, true, true, true, true, true, true, true, true, true, true, true, true, true, true, true, true, true, true, true, true, true, true, true, true, true, true, true, true, true, true, true, true, true, true, true, true, true, true, true, true, true, false, false, false, false, false, false, false, false, false, false, false, false] rfl rfl (by kernel_rfl) (fun _ _ _ h => h) (Or.inl ⟨by rfl, ?_⟩) ?_ ?_
        rotate_left
        · intro w'
          go_simp
          with_reducible rfl
        rotate_left
        · simp only [Act.put, List.setIfInBounds_toArray, List.set_cons_zero, List.set_cons_succ, i64_w, i32_w]
          rfl
        refine pure_ (i := 43) (N := some 153) (v := ?_) (a' := ?_) #[true, true, true, true, true, true, true, true, true, true, true, true, true, true, true, true, true, true, true, true, true, true, true, true, true, true, true, true, true, true, true, true, true, true, true, true, true, true, true, true, true, true, true, true, false, false, false, false, false, false, false, false, false, false, false] rfl rfl (by kernel_rfl) (fun _ _ _ h => h) (Or.inl ⟨by rfl, ?_⟩) ?_ ?_
        rotate_left
        · intro w'
          go_simp
          with_reducible rfl
        rotate_left
        · simp only [Act.put, List.setIfInBounds_toArray, List.set_cons_zero, List.set_cons_succ, i64_w, i32_w]
          rfl
        refine pure_ (i := 44) (N := some 154) (v := ?_) (a' := ?_) #[true, true, true, true, true, true, true, true, true, true, true, true, true, true, true, true, true, true, true, true, true, true, true, true, true, true, true, true, true, true, true, true, true, true, true, true, true, true, true, true, true, true, true, true, true, false, false, false, false, false, false, false, false, false, false] rfl rfl (by kernel_rfl) (fun _ _ _ h => h) (Or.inl ⟨by rfl, ?_⟩) ?_ ?_
        rotate_left
        · intro w'
          go_simp
          with_reducible rfl
        rotate_left
        · simp only [Act.put, List.setIfInBounds_toArray, List.set_cons_zero, List.set_cons_succ, i64_w, i32_w]
          rfl
        refine pure_ (i := 47) (N := some 157) (v := ?_) (a' := ?_) #[true, true, true, true, true, true, true, true, true, true, true, true, true, true, true, true, true, true, true, true, true, true, true, true, true, true, true, true, true, true, true, true, true, true, true, true, true, true, true, true, true, true, true, true, true, false, false, true, false, false, false, false, false, false, false] rfl rfl (by kernel_rfl) (fun _ _ _ h => h) (Or.inl ⟨by rfl, ?_⟩) ?_ ?_
        rotate_left
        · intro w'
          go_simp
          with_reducible rfl
        rotate_left
        · simp only [Act.put, List.setIfInBounds_toArray, List.set_cons_zero, List.set_cons_succ, i64_w, i32_w]
          rfl
        refine take_ (i := 45) (N := some 155) (v := ?_) (a' := ?_) #[true, true, true, true, true, true, true, true, true, true, true, true, true, true, true, true, true, true, true, true, true, true, true, true, true, true, true, true, true, true, true, true, true, true, true, true, true, true, true, true, true, true, true, true, true, true, false, true, false, false, false, false, false, false, false] rfl rfl (by kernel_rfl) (fun _ _ _ h => h) (Or.inl ⟨by rfl, ?_⟩) hHeld ?_ ?_
        rotate_left
        · rintro w' ⟨s0, s1, s2, s3, s4, s5⟩
          go_simp
          with_reducible rfl
        rotate_left
        · simp only [Act.put, List.setIfInBounds_toArray, List.set_cons_zero, List.set_cons_succ, i64_w, i32_w]
          rfl
        refine take_ (i := 49) (N := some 159) (v := ?_) (a' := ?_) #[true, true, true, true, true, true, true, true, true, true, true, true, true, true, true, true, true, true, true, true, true, true, true, true, true, true, true, true, true, true, true, true, true, true, true, true, true, true, true, true, true, true, true, true, true, true, false, true, false, true, false, false, false, false, false] rfl rfl (by kernel_rfl) (fun _ _ _ h => h) (Or.inl ⟨by rfl, ?_⟩) hHeld ?_ ?_
        rotate_left
        · rintro w' ⟨s0, s1, s2, s3, s4, s5⟩
          go_simp
          with_reducible rfl
        rotate_left
        · simp only [Act.put, List.setIfInBounds_toArray, List.set_cons_zero, List.set_cons_succ, i64_w, i32_w]
          rfl
        refine one_ (i := 46) (N := some 156) #[true, true, true, true, true, true, true, true, true, true, true, true, true, true, true, true, true, true, true, true, true, true, true, true, true, true, true, true, true, true, true, true, true, true, true, true, true, true, true, true, true, true, true, true, true, true, true, true, false, true, false, false, false, false, false] rfl rfl (by kernel_rfl) (by decide) (fun Kc hKc => ?_)
        refine goes_ Try.func19 (by kernel_rfl) rfl #[.slice A0 l0.length c0, .agg #[.int .i64 K, .int .i64 t, .slice A m c]] (by rfl) rfl rfl (by simp only [List.map_toArray, List.map_cons, List.map_nil]; rfl) ?_
        with_reducible refine (wfits_n A0 l0.length c0 l0 _ K t A m c (l.take m) x1 _ (Kd.C_below hV8.out.2.2 (by repeat (first | (with_reducible first | exact HL.out | apply below_alloc | apply pw_below_drewN | apply below_drew1) | exact HL.out))) hF1 (HM.out _ (Has.of_below (by repeat (first | (with_reducible first | exact HB.out | apply below_alloc | apply pw_below_drewN | apply below_drew1) | exact HB.out)))) hcm rfl HX.out).mono ?_
        rintro e w9 ⟨rfl, hb⟩
        refine ⟨_, rfl, ?_⟩
        have n0_ := Aside0.mk (below_step (by repeat (first | (with_reducible first | exact HB.out | apply below_alloc | apply pw_below_drewN | apply below_drew1) | exact HB.out)) hb); clear HB; have HB := n0_; clear n0_; have n0_ := Aside0.mk (below_step (by repeat (first | (with_reducible first | exact HL.out | apply below_alloc | apply pw_below_drewN | apply below_drew1) | exact HL.out)) hb); clear HL; have HL := n0_; clear n0_
        refine hKc.out _ _ ⟨pw_cell_below hb hHeld.1, pw_cell_below hb hHeld.2.1, pw_cell_below hb hHeld.2.2.1, pw_cell_below hb hHeld.2.2.2.1, pw_cell_below hb hHeld.2.2.2.2.1, pw_cell_below hb hHeld.2.2.2.2.2⟩ (fun hHeld => ?_)
        clear hKc Kc
        refine norm_ (a' := ?_) ?_ ?_
        rotate_left
        · show Act.put _ (some 156) _ = _
          simp only [Act.put, List.setIfInBounds_toArray, List.set_cons_zero, List.set_cons_succ, i64_w, i32_w]
          rfl
        refine one_ (i := 48) (N := some 158) #[true, true, true, true, true, true, true, true, true, true, true, true, true, true, true, true, true, true, true, true, true, true, true, true, true, true, true, true, true, true, true, true, true, true, true, true, true, true, true, true, true, true, true, true, true, true, true, true, true, true, false, false, false, false, false] rfl rfl (by kernel_rfl) (by decide) (fun Kc hKc => ?_)
        refine goes_ Try.func21 (by kernel_rfl) rfl #[.slice A0 l0.length c0] (by rfl) rfl rfl (by simp only [List.map_toArray, List.map_cons, List.map_nil]; rfl) ?_
        with_reducible refine (refKinds_c (fun _ => True) A0 c0 l0 _ 0 (Kd.V_below HV.out (by repeat (first | (with_reducible first | exact HL.out | apply below_alloc | apply pw_below_drewN | apply below_drew1) | exact HL.out))) hF2).mono ?_
        rintro e w9 ⟨A9, c9, rfl, hc9, hC9, hb⟩
        refine ⟨_, rfl, ?_⟩
        have n0_ := Aside0.mk (below_step (by repeat (first | (with_reducible first | exact HB.out | apply below_alloc | apply pw_below_drewN | apply below_drew1) | exact HB.out)) hb); clear HB; have HB := n0_; clear n0_; have n0_ := Aside0.mk (below_step (by repeat (first | (with_reducible first | exact HL.out | apply below_alloc | apply pw_below_drewN | apply below_drew1) | exact HL.out)) hb); clear HL; have HL := n0_; clear n0_
        have HC9 := Aside0.mk hC9; clear hC9; have HL2 := Aside0.mk (Below.refl w9.heap.size w9)
        refine hKc.out _ _ ⟨pw_cell_below hb hHeld.1, pw_cell_below hb hHeld.2.1, pw_cell_below hb hHeld.2.2.1, pw_cell_below hb hHeld.2.2.2.1, pw_cell_below hb hHeld.2.2.2.2.1, pw_cell_below hb hHeld.2.2.2.2.2⟩ (fun hHeld => ?_)
        clear hKc Kc
        refine norm_ (a' := ?_) ?_ ?_
        rotate_left
        · show Act.put _ (some 158) _ = _
          simp only [Act.put, List.setIfInBounds_toArray, List.set_cons_zero, List.set_cons_succ, i64_w, i32_w]
          rfl
        refine one_ (i := 50) (N := some 160) #[true, true, true, true, true, true, true, true, true, true, true, true, true, true, true, true, true, true, true, true, true, true, true, true, true, true, true, true, true, true, true, true, true, true, true, true, true, true, true, true, true, true, true, true, true, true, true, true, true, true, true, false, false, false, false] rfl rfl (by kernel_rfl) (by decide) (fun Kc hKc => ?_)
        refine goes_ Try.func11 (by kernel_rfl) rfl #[.agg #[.int .i64 K, .int .i64 t, .slice A m c]] (by rfl) rfl rfl (by simp only [List.map_toArray, List.map_cons, List.map_nil]; rfl) ?_
        with_reducible refine (ref_c K t A m c _).mono ?_
        rintro e w9 ⟨rfl, hb⟩
        refine ⟨_, rfl, ?_⟩
        have n0_ := Aside0.mk (below_step (by repeat (first | (with_reducible first | exact HB.out | apply below_alloc | apply pw_below_drewN | apply below_drew1) | exact HB.out)) hb); clear HB; have HB := n0_; clear n0_; have n0_ := Aside0.mk (below_step (by repeat (first | (with_reducible first | exact HL.out | apply below_alloc | apply pw_below_drewN | apply below_drew1) | exact HL.out)) hb); clear HL; have HL := n0_; clear n0_
        have n2_ := Aside0.mk (below_step (by repeat (first | (with_reducible first | exact HL2.out | apply below_alloc | apply pw_below_drewN | apply below_drew1) | exact HL2.out)) hb); clear HL2; have HL2 := n2_; clear n2_
        refine hKc.out _ _ ⟨pw_cell_below hb hHeld.1, pw_cell_below hb hHeld.2.1, pw_cell_below hb hHeld.2.2.1, pw_cell_below hb hHeld.2.2.2.1, pw_cell_below hb hHeld.2.2.2.2.1, pw_cell_below hb hHeld.2.2.2.2.2⟩ (fun hHeld => ?_)
        clear hKc Kc
        refine norm_ (a' := ?_) ?_ ?_
        rotate_left
        · show Act.put _ (some 160) _ = _
          simp only [Act.put, List.setIfInBounds_toArray, List.set_cons_zero, List.set_cons_succ, i64_w, i32_w]
          rfl
        refine one_ (i := 51) (N := some 161) #[true, true, true, true, true, true, true, true, true, true, true, true, true, true, true, true, true, true, true, true, true, true, true, true, true, true, true, true, true, true, true, true, true, true, true, true, true, true, true, true, true, true, true, true, true, true, true, true, true, true, true, true, false, false, false] rfl rfl (by kernel_rfl) (by decide) (fun Kc hKc => ?_)
        refine goes_ Try.func20 (by kernel_rfl) rfl #[.slice A9 l0.length c9, .agg #[.int .i64 K, .int .i64 t, .slice A m c]] (by rfl) rfl rfl (by simp only [List.map_toArray, List.map_cons, List.map_nil]; rfl) ?_
        with_reducible refine (rfits_n A9 l0.length c9 (toRef l0) _ K t A m c (l.take m) x1 _ (Kd.C_below HC9.out (by repeat (first | (with_reducible first | exact HL2.out | apply below_alloc | apply pw_below_drewN | apply below_drew1) | exact HL2.out))) hc9 (HM.out _ (Has.of_below (by repeat (first | (with_reducible first | exact HB.out | apply below_alloc | apply pw_below_drewN | apply below_drew1) | exact HB.out)))) hcm hrl.out HX.out).mono ?_
        rintro e w9 ⟨rfl, hb⟩
        refine ⟨_, rfl, ?_⟩
        have n0_ := Aside0.mk (below_step (by repeat (first | (with_reducible first | exact HB.out | apply below_alloc | apply pw_below_drewN | apply below_drew1) | exact HB.out)) hb); clear HB; have HB := n0_; clear n0_; have n0_ := Aside0.mk (below_step (by repeat (first | (with_reducible first | exact HL.out | apply below_alloc | apply pw_below_drewN | apply below_drew1) | exact HL.out)) hb); clear HL; have HL := n0_; clear n0_
        refine hKc.out _ _ ⟨pw_cell_below hb hHeld.1, pw_cell_below hb hHeld.2.1, pw_cell_below hb hHeld.2.2.1, pw_cell_below hb hHeld.2.2.2.1, pw_cell_below hb hHeld.2.2.2.2.1, pw_cell_below hb hHeld.2.2.2.2.2⟩ (fun hHeld => ?_)
        clear hKc Kc
        refine norm_ (a' := ?_) ?_ ?_
        rotate_left
        · show Act.put _ (some 161) _ = _
          simp only [Act.put, List.setIfInBounds_toArray, List.set_cons_zero, List.set_cons_succ, i64_w, i32_w]
          rfl
        refine pure_ (i := 52) (N := some 162) (v := ?_) (a' := ?_) #[true, true, true, true, true, true, true, true, true, true, true, true, true, true, true, true, true, true, true, true, true, true, true, true, true, true, true, true, true, true, true, true, true, true, true, true, true, true, true, true, true, true, true, true, true, true, true, true, true, true, true, true, true, false, false] rfl rfl (by kernel_rfl) (fun _ _ _ h => h) (Or.inl ⟨by rfl, ?_⟩) ?_ ?_
        rotate_left
        · intro w'
          go_simp
          with_reducible rfl
        rotate_left
        · simp only [Act.put, List.setIfInBounds_toArray, List.set_cons_zero, List.set_cons_succ, i64_w, i32_w]
          rfl
        refine pure_ (i := 53) (N := some 163) (v := ?_) (a' := ?_) #[true, true, true, true, true, true, true, true, true, true, true, true, true, true, true, true, true, true, true, true, true, true, true, true, true, true, true, true, true, true, true, true, true, true, true, true, true, true, true, true, true, true, true, true, true, true, true, true, true, true, true, true, true, true, false] rfl rfl (by kernel_rfl) (fun _ _ _ h => h) (Or.inl ⟨by rfl, ?_⟩) ?_ ?_
        rotate_left
        · intro w'
          go_simp
          with_reducible rfl
        rotate_left
        · simp only [Act.put, List.setIfInBounds_toArray, List.set_cons_zero, List.set_cons_succ, i64_w, i32_w]
          rfl
        refine pure_ (i := 54) (N := some 16) (v := ?_) (a' := ?_) #[true, true, true, true, true, true, true, true, true, true, true, true, true, true, true, true, true, true, true, true, true, true, true, true, true, true, true, true, true, true, true, true, true, true, true, true, true, true, true, true, true, true, true, true, true, true, true, true, true, true, true, true, true, true, true] rfl rfl (by kernel_rfl) (fun _ _ _ h => h) (Or.inl ⟨by rfl, ?_⟩) ?_ ?_
        rotate_left
        · intro w'
          go_simp
          with_reducible rfl
        rotate_left
        · simp only [Act.put, List.setIfInBounds_toArray, List.set_cons_zero, List.set_cons_succ, i64_w, i32_w]
          rfl
        refine done_ (by kernel_rfl) ?_

        go_wp2
        go_ret
        exact ⟨rfl, (by repeat (first | (with_reducible first | exact HB.out | apply below_alloc | apply pw_below_drewN | apply below_drew1) | exact HB.out))⟩
end Go.Proofs.Ythckcbacmonihaa.Hand
