/- StoreCounts: its walk. -/
import Derived.Test.YtibcbeibehaeeaaJL
import Derived.Test.YtibcbeibehaeeaaO0
import Derived.Deep.CutBlock
import Derived.Deep.DeepCutAuto
set_option linter.unusedVariables false
set_option linter.unusedSimpArgs false
namespace Go.Proofs.Ytibcbeibehaeeaa.Hand
open Go.RowKit Go.Proofs.Ytibcbeibehaeeaa.PStorePlays Go.Proofs.YtibcbeibehaeeaaW.PrintWords Go.Proofs.YtibcbeibehaeeaaW.PrintLast Go.Proofs.YtibcbeibehaeeaaW.PrintMore
theorem SX.event {W : World} {gs ga mb N : Nat} {L : List Kt} (h : SX W gs ga mb N L) {b : Nat} {cs : Array Value} (hb : W.heap[b]? = some (.cells cs 35 (0, 0))) (j : Nat) (v : Value) : SX (W.setCell ⟨b, j, none⟩ v) gs ga mb N L :=
  ⟨blk_far (p := ⟨b, j, none⟩) h.blk (blk_ne h.blk hb (by decide)) _, h.map.set hb _, fun x hx => blk_far (p := ⟨b, j, none⟩) (h.kept x hx) (blk_ne (h.kept x hx) hb (by decide)) _, h.keys, h.blks, h.low⟩
theorem SY.event {W : World} {gs ga mb N : Nat} {cap lim : Int} {bs : List S114} {l : List Kt} (h : SY W gs ga mb N cap lim bs l) {b : Nat} {cs : Array Value} (hb : W.heap[b]? = some (.cells cs 35 (0, 0))) (j : Nat) (v : Value) : SY (W.setCell ⟨b, j, none⟩ v) gs ga mb N cap lim bs l := by
  obtain ⟨⟨L, h, e⟩, ha⟩ := h
  exact ⟨⟨L, h.event hb j v, e⟩, ha.other hb (by unfold AT; decide) j v⟩
theorem round_b (n : Int) (r : Int) (hr : rnd n = r) (w : World) : Calls Try.prog 27 #[.int .i64 n] w fun e w' => e = .returned (.tuple #[.int .i64 r, .bool (fit n)]) ∧ Below w.heap.size w w' := by
  subst hr
  refine (round_c n w).mono ?_
  rintro e w' ⟨rfl, ⟨nd, rfl⟩⟩
  exact ⟨rfl, pw_below_drewN (Below.refl _ _) nd⟩
theorem mod256 (k : Int) : ∃ K, wrap64 ((IntKind.u64.wrap k).tmod 256) = K ∧ 0 ≤ K ∧ K ≤ 255 := by
  have h := wrapU k
  refine ⟨_, rfl, ?_⟩
  rw [Int.tmod_eq_emod_of_nonneg h.1, w_id (by omega) (by omega)]
  omega
/-- An event that came in. -/
theorem ev_open {w : World} {y : Int × Int × List Int} {l : Array Value} (h : ∀ W', Has w W' → (Kd.pair (Kd.int .i64) (Kd.pair (Kd.int .i64) (Kd.slice 2 (Kd.int .i64)))).K W' y l.toList) :
    ∃ A c, l = #[.int .i64 y.1, .int .i64 y.2.1, .slice A y.2.2.length c] ∧ y.2.2.length ≤ c ∧ ∀ W', Has w W' → Kd.C (Kd.int .i64) W' A y.2.2.length y.2.2 := by
  have open1 : ∀ W', Has w W' → ∃ A c, l.toList = [.int .i64 y.1, .int .i64 y.2.1, .slice A y.2.2.length c] ∧ y.2.2.length ≤ c ∧ Kd.C (Kd.int .i64) W' A y.2.2.length y.2.2 := by
    intro W' hW
    obtain ⟨_, _, e1, rfl, _, _, rfl, rfl, ⟨A, c, rfl, hl, hC⟩⟩ := h W' hW
    exact ⟨A, c, e1, hl, hC⟩
  obtain ⟨A, c, e, hl, _⟩ := open1 w (Has.refl w)
  refine ⟨A, c, by rw [← e], hl, fun W' hW => ?_⟩
  obtain ⟨A', c', e', _, hC⟩ := open1 W' hW
  rw [e] at e'
  injection e' with _ e'; injection e' with _ e'; injection e' with e' _; injection e' with e'
  rw [e']
  exact hC
theorem sameE_refl (k t : Int) (l : List Int) : sameE k t l k t l = true := by unfold sameE; simp
theorem C_cutm {w : World} {A : Option Addr} {l : List Int} (hk : ∀ W', Has w W' → Kd.C (Kd.int .i64) W' A l.length l) (m : Nat) (hm : m ≤ l.length) : ∀ W', Has w W' → Kd.C (Kd.int .i64) W' A m (l.take m) := by
  intro W' hW
  have := Kd.C_take (hk W' hW) hm
  rwa [List.length_take, Nat.min_eq_left hm] at this
def lc (k : Int) : Nat → List Kt
  | 0 => []
  | i + 1 => [⟨k, 0, 0, 1, ((i + 1 : Nat) : Int)⟩]
def bc (r : Int) (s : ByteArray) : Nat → List S114
  | 0 => [⟨2, 0, ⟨#[]⟩⟩]
  | i + 1 => [⟨1, r, s⟩]
theorem lc_find (k : Int) (i : Nat) : findK (lc k (i + 1)) k = some ⟨k, 0, 0, 1, ((i + 1 : Nat) : Int)⟩ := by simp [findK, lc]
theorem lc_has (k : Int) (i : Nat) : (findK (lc k (i + 1)) k).isSome = true := by rw [lc_find]; rfl
theorem lc_fine (k : Int) (i : Nat) (hi : i ≤ 1000) : Fine (lc k i) := by
  cases i with
  | zero => exact fine_nil
  | succ i =>
    refine ⟨fun x hx => ?_, fun x hx => ?_⟩
    · obtain rfl := List.mem_singleton.1 hx
      show 1 ≤ ((i + 1 : Nat) : Int) ∧ ((i + 1 : Nat) : Int) ≤ 1000000
      omega
    · obtain rfl := List.mem_singleton.1 hx
      show 0 ≤ 4294967295
      omega
theorem bc_good (r : Int) (s : ByteArray) (i : Nat) (h0 : 0 ≤ r) (h1 : r ≤ 1024) : Good (bc r s i) := by
  cases i with
  | zero => exact goodc20
  | succ i =>
    refine ⟨by simp [bc], fun b hb => ?_⟩
    obtain rfl := List.mem_singleton.1 hb
    exact ⟨h0, h1⟩
theorem lc_hold (k : Int) (i : Nat) : bump (lc k (i + 1)) k 1 = lc k (i + 2) := by simp [bump, lc]
theorem lc_drop (k : Int) (i : Nat) : dropL (lc k (i + 1)) k = lc k i := by
  unfold dropL
  rw [lc_find]
  dsimp only
  cases i with
  | zero => simp [dropK, lc]
  | succ i =>
    rw [if_neg (by omega)]
    simp [bump, lc]
    omega
theorem bc_drop (k r : Int) (s : ByteArray) (i : Nat) (hr : 0 < r) : dropS (bc r s (i + 1)) (lc k (i + 1)) k = bc r s i := by
  unfold dropS
  rw [lc_find]
  dsimp only
  cases i with
  | zero =>
    rw [if_pos (show (((0 + 1 : Nat) : Int)) = 1 by omega)]
    have : livesB (bc r s 1) 0 1 = true := by simp [livesB, bc, bk, hr]
    unfold freeB
    rw [this]
    rfl
  | succ i => rw [if_neg (by omega)]; rfl
theorem lc_count (k : Int) (i : Nat) : cntK (lc k (i + 1)) k = ((i + 1 : Nat) : Int) := by
  unfold cntK
  rw [lc_find]
theorem lc_get (k r : Int) (s : ByteArray) (i : Nat) (hr : 0 < r) (ek et : Int) (el : List Int) (hg : wgetE s = (ek, et, el, 0)) : getS (bc r s (i + 1)) (lc k (i + 1)) k = (ek, et, el, true) := by
  have : getE (bc r s (i + 1)) 0 1 = s := by simp [getE, livesB, bc, bk, hr]
  unfold getS
  rw [lc_find]
  dsimp only
  rw [this, hg]
  rfl
theorem lc_put (k : Int) (s : ByteArray) (ek et : Int) (el : List Int) (hp : putE ek et el = (s, true)) (hs : s.size ≤ 128) : putS 1000 [] [] k ek et el = (0, lc k 1, bc (rnd (s.size : Int)) s 1) := by
  have hf : fit (s.size : Int) = true := fit_yes _ (by omega) (by omega)
  have hr : rnd (s.size : Int) ≤ 128 := by have := rnd_mono (s.size : Int) 128 (by omega) (by decide) (by omega); exact this
  have h1 : ¬ (1000 < sumOf ([] : List S114) + rnd (s.size : Int)) := by simp only [sumOf]; omega
  unfold putS
  rw [hp, if_neg (by simp), if_neg (show ¬ (findK [] k).isSome = true by simp [findK])]
  dsimp only
  unfold allocE allocB
  rw [hf, if_neg (by simp), if_neg h1, if_neg (by simp), if_neg h1]
  rfl
set_option maxHeartbeats 4000000 in
set_option maxRecDepth 100000 in
theorem StoreCounts_walk (e : Int × Int × List Int) (le : Array Value) (many index : Int) (w : World) (hk : ∀ W', Has w W' → (Kd.pair (Kd.int .i64) (Kd.pair (Kd.int .i64) (Kd.slice 2 (Kd.int .i64)))).K W' e le.toList) (hg0 : (fun x : Int × Int × List Int => (Lit.int .i64 x.1).wf = true ∧ (Lit.int .i64 x.2.1).wf = true ∧ ShortRow (Try.prog.bytesOf 2) (fun n => (Lit.int .i64 n).wf = true) x.2.2) e) (w1_ : (Lit.int .u8 many).wf = true) (w2_ : (Lit.int .i64 index).wf = true) :
    Calls Try.prog 4 #[.agg le, .int .u8 many, .int .i64 index] w fun e w' => e = .returned (.bool true) ∧ Below w.heap.size w w' := by
  obtain ⟨k, t, l⟩ := e
  obtain ⟨A, c, rfl, hc, hC⟩ := ev_open hk
  obtain ⟨K, hK, Ka, Kb⟩ := mod256 k
  have ht : I64 t := Go.bounds_i64 hg0.2.1
  have hi : ∀ x ∈ l, I64 x := fun x hx => Go.bounds_i64 (hg0.2.2.2 x hx)
  have hix := Aside0.mk (show I64k index from Go.bounds_i64 w2_)
  have hmb := Go.bounds_u8 w1_
  dsimp only at hc hC
  clear hk hg0 w1_ w2_
  have hmax := (hC w (Has.refl w)).2.1
  obtain ⟨m, hm⟩ : ∃ m : Nat, m = min l.length 8 := ⟨_, rfl⟩
  have hml : m ≤ l.length := by omega
  have hm8 : m ≤ 8 := by omega
  have hmin : min (l.length : Int) 8 = (m : Int) := by omega
  have hlm : (l.take m).length = m := by rw [List.length_take]; omega
  have HC := Aside0.mk (C_cutm hC m hml)
  have it : ∀ x ∈ l.take m, I64 x := fun x hx => hi x (List.mem_of_mem_take hx)
  obtain ⟨el, hel⟩ : ∃ el, l.take m = el := ⟨_, rfl⟩
  rw [hel] at hlm HC it
  obtain ⟨s, hs⟩ : ∃ s, evI K t el el.length = s := ⟨_, rfl⟩
  have hp : putE K t el = (s, true) := by rw [putE_yes Ka Kb (by omega), hs]
  have hz : s.size = 10 + 8 * m := by rw [← hs, evI_size _ _ _ _ (Nat.le_refl _), hlm]
  have HG : Aside0 (wgetE s = (K, t, el, 0)) := ⟨by rw [← hs]; exact (get_put K t el Ka Kb (by omega) ht it).2⟩
  obtain ⟨r, hr⟩ : ∃ r, rnd (s.size : Int) = r := ⟨_, rfl⟩
  have hrb := rnd_facts (s.size : Int) (by omega) (by omega)
  have hr0 : 16 ≤ r ∧ r ≤ 1024 := by omega
  have E1 : Aside0 (putS 1000 [] [] index K t el = (0, lc index 1, bc r s 1)) := ⟨by rw [← hr]; exact lc_put index s K t el hp (by omega)⟩
  have hzi : (s.size : Int) = 10 + 8 * (m : Int) := by omega
  have HZ : Aside0 (((putE K t el).1.size : Int) = 10 + 8 * (m : Int)) := ⟨by rw [hp]; exact hzi⟩
  rw [hzi] at hr
  have HR := Aside0.mk hr
  have HLM := Aside0.mk hlm
  have HS2 : ∀ i, ∀ b ∈ bc r s i, b.f2.size ≤ 1000000000000000 := by
    intro i b hb
    cases i with
    | zero => obtain rfl := List.mem_singleton.1 hb; decide
    | succ i => obtain rfl := List.mem_singleton.1 hb; show s.size ≤ 1000000000000000; omega
  have HS := Aside0.mk HS2
  obtain ⟨n, hn⟩ := Int.eq_ofNat_of_zero_le (show 0 ≤ many % 20 by omega)
  have hn20 : n < 20 := by omega
  clear hp hs hr hrb hzi hz HS2 it hel hi hC ht hm
  have HB := Aside0.mk (Below.refl w.heap.size w)
  have HL := Aside0.mk (Below.refl w.heap.size w)
  go_enter Try.func4, Try.ntmps4
  go_upto_region 10 with (first | (go_at_call 7; (with_reducible refine (examples_c _).mono ?_); rintro e w1 ⟨rfl, hb⟩; have n0_ := Aside0.mk (below_step (by repeat (first | (with_reducible first | exact HB.out | apply below_alloc | apply pw_below_drewN | apply below_drew1) | exact HB.out)) hb); clear HB; have HB := n0_; clear n0_; have hs_ := below_step (by repeat (first | (with_reducible first | exact HL.out | apply below_alloc | apply pw_below_drewN | apply below_drew1) | exact HL.out)) hb; have BE := Aside0.mk (show _ from blk_below (o := .cells #[.int .i64 k, .int .i64 t, .slice A l.length c] 35 (0, 0)) (g := w.heap.size) (by repeat (first | exact blk_new' (by first | rfl | simp) | refine blk_alloc ?_ _ | exact blk_drew ?_ | exact blk_drewN ?_ _)) hb); have hg := below_size HB.out; have qBE_0 := blk_cell BE.out 0; have qBE_1 := blk_cell BE.out 1; have qBE_2 := blk_cell BE.out 2; have lBE := blk_lt BE.out; simp only [List.getElem?_toArray, List.getElem?_cons_zero, List.getElem?_cons_succ] at qBE_0 qBE_1 qBE_2; have fBE_0 := blk_frozen BE.out 0; have fBE_1 := blk_frozen BE.out 1; have fBE_2 := blk_frozen BE.out 2; clear HL hs_ hb; have HL := Aside0.mk (Below.refl w1.heap.size w1)) | (go_at_call 8; (with_reducible refine (x_new 1000 _ (by decide) (by decide)).mono ?_); rintro e w2 ⟨rfl, hA, hb⟩; have HA := Aside0.mk hA; clear hA; have n0_ := Aside0.mk (below_step (by repeat (first | (with_reducible first | exact HB.out | apply below_alloc | apply pw_below_drewN | apply below_drew1) | exact HB.out)) hb); clear HB; have HB := n0_; clear n0_; have hs_ := below_step (by repeat (first | (with_reducible first | exact HL.out | apply below_alloc | apply pw_below_drewN | apply below_drew1) | exact HL.out)) hb; clear fBE_0 fBE_1 fBE_2; have n_ := Aside0.mk (blk_below BE.out hs_); clear qBE_0 qBE_1 qBE_2 lBE; clear BE; have BE := n_; clear n_; have qBE_0 := blk_cell BE.out 0; have qBE_1 := blk_cell BE.out 1; have qBE_2 := blk_cell BE.out 2; have lBE := blk_lt BE.out; simp only [List.getElem?_toArray, List.getElem?_cons_zero, List.getElem?_cons_succ] at qBE_0 qBE_1 qBE_2; have fBE_0 := blk_frozen BE.out 0; have fBE_1 := blk_frozen BE.out 1; have fBE_2 := blk_frozen BE.out 2; clear HL hs_ hb; have HL := Aside0.mk (Below.refl w2.heap.size w2)) | (go_at_call 10; (with_reducible refine (y_new (HA.out.below (by repeat (first | (with_reducible first | exact HL.out | apply below_alloc | apply pw_below_drewN | apply below_drew1) | exact HL.out)))).mono ?_); rintro e w3 ⟨gs, mb, rfl, hA, hb⟩; clear HA; have HA := Aside0.mk hA; clear hA; have n0_ := Aside0.mk (below_step (by repeat (first | (with_reducible first | exact HB.out | apply below_alloc | apply pw_below_drewN | apply below_drew1) | exact HB.out)) hb); clear HB; have HB := n0_; clear n0_; have hs_ := below_step (by repeat (first | (with_reducible first | exact HL.out | apply below_alloc | apply pw_below_drewN | apply below_drew1) | exact HL.out)) hb; clear fBE_0 fBE_1 fBE_2; have n_ := Aside0.mk (blk_below BE.out hs_); clear qBE_0 qBE_1 qBE_2 lBE; clear BE; have BE := n_; clear n_; have qBE_0 := blk_cell BE.out 0; have qBE_1 := blk_cell BE.out 1; have qBE_2 := blk_cell BE.out 2; have lBE := blk_lt BE.out; simp only [List.getElem?_toArray, List.getElem?_cons_zero, List.getElem?_cons_succ] at qBE_0 qBE_1 qBE_2; have fBE_0 := blk_frozen BE.out 0; have fBE_1 := blk_frozen BE.out 1; have fBE_2 := blk_frozen BE.out 2; clear HL hs_ hb; have HL := Aside0.mk (Below.refl w3.heap.size w3)))
  have BE3 : Aside0 (((w3.setCell ⟨w.heap.size, 0, none⟩ (.int .i64 K)).setCell ⟨w.heap.size, 2, none⟩ (.slice A m c)).heap[w.heap.size]? = some (.cells #[.int .i64 K, .int .i64 t, .slice A m c] 35 (0, 0))) := ⟨blk_put (blk_put BE.out 0 (.int .i64 K) rfl) 2 (.slice A m c) rfl⟩
  have HB3 : Aside0 (Below w.heap.size w ((w3.setCell ⟨w.heap.size, 0, none⟩ (.int .i64 K)).setCell ⟨w.heap.size, 2, none⟩ (.slice A m c))) := ⟨by repeat (first | exact HB.out | (refine below_set ?_ (Nat.le_refl _)))⟩
  have HA3 : Aside0 (SY ((w3.setCell ⟨w.heap.size, 0, none⟩ (.int .i64 K)).setCell ⟨w.heap.size, 2, none⟩ (.slice A m c)) gs w1.heap.size mb 0 1000 1000 [] []) := ⟨(HA.out.event BE.out 0 _).event (blk_put BE.out 0 (.int .i64 K) rfl) 2 _⟩
  clear HB HL HA lBE qBE_0 qBE_1 qBE_2 fBE_0 fBE_1 fBE_2 BE
  have HB := HB3
  have HA := HA3
  have BE := BE3
  clear HB3 HA3 BE3
  generalize ((w3.setCell ⟨w.heap.size, 0, none⟩ (.int .i64 K)).setCell ⟨w.heap.size, 2, none⟩ (.slice A m c)) = w4 at *
  have HL := Aside0.mk (Below.refl w4.heap.size w4)
  have qBE_0 := blk_cell BE.out 0
  have qBE_1 := blk_cell BE.out 1
  have qBE_2 := blk_cell BE.out 2
  have lBE := blk_lt BE.out
  simp only [List.getElem?_toArray, List.getElem?_cons_zero, List.getElem?_cons_succ] at qBE_0 qBE_1 qBE_2
  go_wp2_with (first | (go_at_call 12; (with_reducible refine (y_put (HA.out.below (by repeat (first | (with_reducible first | exact HL.out | apply below_alloc | apply pw_below_drewN | apply below_drew1) | exact HL.out))) Good.nil (by decide) index hix.out K t el A m c (HC.out _ (Has.of_below (by repeat (first | (with_reducible first | exact HB.out | apply below_alloc | apply pw_below_drewN | apply below_drew1) | exact HB.out)))) 0 (lc index 1) (bc r s 1) E1.out).mono ?_); rintro e w5 ⟨rfl, hA, hF⟩; have hF0 := hF; have hF := FS.trans (FS.of_below (by repeat (first | (with_reducible first | exact HL.out | apply below_alloc | apply pw_below_drewN | apply below_drew1) | exact HL.out))) hF; have n0_ := Aside0.mk (FS.below hF HB.out hg (below_size HB.out)); clear HB; have HB := n0_; clear n0_; have n_ := Aside0.mk (hF.blk BE.out (by unfold ST AT; decide)); clear qBE_0 qBE_1 qBE_2 lBE; clear BE; have BE := n_; clear n_; have qBE_0 := blk_cell BE.out 0; have qBE_1 := blk_cell BE.out 1; have qBE_2 := blk_cell BE.out 2; have lBE := blk_lt BE.out; simp only [List.getElem?_toArray, List.getElem?_cons_zero, List.getElem?_cons_succ] at qBE_0 qBE_1 qBE_2; clear HA; have HA := Aside0.mk (show SY w5 gs w1.heap.size mb 1 1000 1000 (bc r s 1) (lc index 1) from hA); clear hA HL hF hF0; have HL := Aside0.mk (Below.refl w5.heap.size w5); clear E1))
  go_loopw [12] (fun v12 wr => ∃ i : Nat, v12 = .int .i64 (i : Int) ∧ i ≤ n ∧ Aside0 (Below w.heap.size w wr) ∧ Aside0 (SY wr gs w1.heap.size mb 1 1000 1000 (bc r s 1) (lc index (i + 1))) ∧ Aside0 (wr.heap[w.heap.size]? = some (.cells #[.int .i64 K, .int .i64 t, .slice A m c] 35 (0, 0)))) (fun v _ => n - (intOf v).toNat)
  case atStart => exact ⟨0, rfl, by omega, ⟨(by repeat (first | (with_reducible first | exact HB.out | apply below_alloc | apply pw_below_drewN | apply below_drew1) | exact HB.out))⟩, ⟨HA.out.below (by repeat (first | (with_reducible first | exact HL.out | apply below_alloc | apply pw_below_drewN | apply below_drew1) | exact HL.out))⟩, ⟨blk_below BE.out (by repeat (first | (with_reducible first | exact HL.out | apply below_alloc | apply pw_below_drewN | apply below_drew1) | exact HL.out))⟩⟩
  case round =>
    clear HB HA HL BE qBE_0 qBE_1 qBE_2 lBE
    obtain ⟨i, rfl, hi, HB, HA, BE⟩ := hrel
    have HL := Aside0.mk (Below.refl wr.heap.size wr)
    have qBE_0 := blk_cell BE.out 0
    have qBE_1 := blk_cell BE.out 1
    have qBE_2 := blk_cell BE.out 2
    have lBE := blk_lt BE.out
    simp only [List.getElem?_toArray, List.getElem?_cons_zero, List.getElem?_cons_succ] at qBE_0 qBE_1 qBE_2
    by_cases hlt : i < n
    · go_wp2_with (first | (go_at_call 14; (with_reducible refine (y_hold (HA.out.below (by repeat (first | (with_reducible first | exact HL.out | apply below_alloc | apply pw_below_drewN | apply below_drew1) | exact HL.out))) (lc_fine index (i + 1) (by omega)) index hix.out true (lc_has index i) (lc index (i + 2)) (lc_hold index i)).mono ?_); rintro e w6 ⟨rfl, hA, hF⟩; have hF0 := hF; have hF := FS.trans (FS.of_below (by repeat (first | (with_reducible first | exact HL.out | apply below_alloc | apply pw_below_drewN | apply below_drew1) | exact HL.out))) hF; have n0_ := Aside0.mk (FS.below hF HB.out hg (below_size HB.out)); clear HB; have HB := n0_; clear n0_; have n_ := Aside0.mk (hF.blk BE.out (by unfold ST AT; decide)); clear qBE_0 qBE_1 qBE_2 lBE; clear BE; have BE := n_; clear n_; have qBE_0 := blk_cell BE.out 0; have qBE_1 := blk_cell BE.out 1; have qBE_2 := blk_cell BE.out 2; have lBE := blk_lt BE.out; simp only [List.getElem?_toArray, List.getElem?_cons_zero, List.getElem?_cons_succ] at qBE_0 qBE_1 qBE_2; clear HA; have HA := Aside0.mk (show SY w6 gs w1.heap.size mb 1 1000 1000 (bc r s 1) (lc index (i + 2)) from hA); clear hA HL hF hF0; have HL := Aside0.mk (Below.refl w6.heap.size w6)))
      all_goals go_roundw
      all_goals (try (case rel => exact ⟨i + 1, by go_num, by omega, HB, HA, BE⟩))
      all_goals (try (case measure => (simp [intOf] <;> omega)))
    · obtain rfl : n = i := by omega
      clear hlt hi
      go_wp2_with (first | (go_at_call 28; (with_reducible refine (wsize_n K t A m c el (10 + 8 * (m : Int)) _ (HC.out _ (Has.of_below (by repeat (first | (with_reducible first | exact HB.out | apply below_alloc | apply pw_below_drewN | apply below_drew1) | exact HB.out)))) HZ.out).mono ?_); rintro e w6 ⟨rfl, hb⟩; have n0_ := Aside0.mk (below_step (by repeat (first | (with_reducible first | exact HB.out | apply below_alloc | apply pw_below_drewN | apply below_drew1) | exact HB.out)) hb); clear HB; have HB := n0_; clear n0_; have hs_ := below_step (by repeat (first | (with_reducible first | exact HL.out | apply below_alloc | apply pw_below_drewN | apply below_drew1) | exact HL.out)) hb; have n_ := Aside0.mk (SY.below HA.out hs_); clear HA; have HA := n_; clear n_; have n_ := Aside0.mk (blk_below BE.out hs_); clear qBE_0 qBE_1 qBE_2 lBE; clear BE; have BE := n_; clear n_; have qBE_0 := blk_cell BE.out 0; have qBE_1 := blk_cell BE.out 1; have qBE_2 := blk_cell BE.out 2; have lBE := blk_lt BE.out; simp only [List.getElem?_toArray, List.getElem?_cons_zero, List.getElem?_cons_succ] at qBE_0 qBE_1 qBE_2; clear HL hs_ hb; have HL := Aside0.mk (Below.refl w6.heap.size w6)) | (go_at_call 27; (with_reducible refine (round_b (10 + 8 * (m : Int)) r HR.out _).mono ?_); rintro e w7 ⟨rfl, hb⟩; have n0_ := Aside0.mk (below_step (by repeat (first | (with_reducible first | exact HB.out | apply below_alloc | apply pw_below_drewN | apply below_drew1) | exact HB.out)) hb); clear HB; have HB := n0_; clear n0_; have hs_ := below_step (by repeat (first | (with_reducible first | exact HL.out | apply below_alloc | apply pw_below_drewN | apply below_drew1) | exact HL.out)) hb; have n_ := Aside0.mk (SY.below HA.out hs_); clear HA; have HA := n_; clear n_; have n_ := Aside0.mk (blk_below BE.out hs_); clear qBE_0 qBE_1 qBE_2 lBE; clear BE; have BE := n_; clear n_; have qBE_0 := blk_cell BE.out 0; have qBE_1 := blk_cell BE.out 1; have qBE_2 := blk_cell BE.out 2; have lBE := blk_lt BE.out; simp only [List.getElem?_toArray, List.getElem?_cons_zero, List.getElem?_cons_succ] at qBE_0 qBE_1 qBE_2; clear HL hs_ hb; have HL := Aside0.mk (Below.refl w7.heap.size w7)))
      go_loopw [15, 16, 17] (fun v15 v16 v17 wq => ∃ (i : Nat), v15 = .int .i64 (i : Int) ∧ i ≤ n + 1 ∧ Aside0 (Below w.heap.size w wq) ∧ Aside0 (SY wq gs w1.heap.size mb 1 1000 1000 (bc r s i) (lc index i)) ∧ Aside0 (wq.heap[w.heap.size]? = some (.cells #[.int .i64 K, .int .i64 t, .slice A m c] 35 (0, 0)))) (fun v _ _ _ => (intOf v).toNat)
      case atStart => exact ⟨n + 1, by go_num, by omega, ⟨(by repeat (first | (with_reducible first | exact HB.out | apply below_alloc | apply pw_below_drewN | apply below_drew1) | exact HB.out))⟩, ⟨HA.out.below (by repeat (first | (with_reducible first | exact HL.out | apply below_alloc | apply pw_below_drewN | apply below_drew1) | exact HL.out))⟩, ⟨blk_below BE.out (by repeat (first | (with_reducible first | exact HL.out | apply below_alloc | apply pw_below_drewN | apply below_drew1) | exact HL.out))⟩⟩
      case round =>
        clear HB HA HL BE qBE_0 qBE_1 qBE_2 lBE
        obtain ⟨i, rfl, hi, HB, HA, BE⟩ := hrel
        have HL := Aside0.mk (Below.refl wr.heap.size wr)
        have qBE_0 := blk_cell BE.out 0
        have qBE_1 := blk_cell BE.out 1
        have qBE_2 := blk_cell BE.out 2
        have lBE := blk_lt BE.out
        simp only [List.getElem?_toArray, List.getElem?_cons_zero, List.getElem?_cons_succ] at qBE_0 qBE_1 qBE_2
        rcases i with _ | i
        · clear BE qBE_0 qBE_1 qBE_2 lBE
          have HA0 := Aside0.mk (show SY wr gs w1.heap.size mb 1 1000 1000 (bc r s 0) [] from HA.out)
          clear HA
          have HA := HA0
          clear HA0
          go_wp2_with (first | (go_at_call 18; (with_reducible refine (y_get (HA.out.below (by repeat (first | (with_reducible first | exact HL.out | apply below_alloc | apply pw_below_drewN | apply below_drew1) | exact HL.out))) fine_nil (bc_good r s 0 (by omega) hr0.2) (HS.out 0) index hix.out 0 0 [] false rfl).mono ?_); rintro e w8 ⟨v8, rfl, hR8, hb⟩; have n0_ := Aside0.mk (below_step (by repeat (first | (with_reducible first | exact HB.out | apply below_alloc | apply pw_below_drewN | apply below_drew1) | exact HB.out)) hb); clear HB; have HB := n0_; clear n0_; have hs_ := below_step (by repeat (first | (with_reducible first | exact HL.out | apply below_alloc | apply pw_below_drewN | apply below_drew1) | exact HL.out)) hb; have n_ := Aside0.mk (SY.below HA.out hs_); clear HA; have HA := n_; clear n_; obtain ⟨A8, c8, e8⟩ := Kd.R_slice hR8; subst e8; clear hR8; clear HL hs_ hb; have HL := Aside0.mk (Below.refl w8.heap.size w8)) | (go_at_call 21; (with_reducible refine (y_count (HA.out.below (by repeat (first | (with_reducible first | exact HL.out | apply below_alloc | apply pw_below_drewN | apply below_drew1) | exact HL.out))) index hix.out 0 rfl).mono ?_); rintro e w9 ⟨rfl, hb⟩; have n0_ := Aside0.mk (below_step (by repeat (first | (with_reducible first | exact HB.out | apply below_alloc | apply pw_below_drewN | apply below_drew1) | exact HB.out)) hb); clear HB; have HB := n0_; clear n0_; have hs_ := below_step (by repeat (first | (with_reducible first | exact HL.out | apply below_alloc | apply pw_below_drewN | apply below_drew1) | exact HL.out)) hb; have n_ := Aside0.mk (SY.below HA.out hs_); clear HA; have HA := n_; clear n_; clear HL hs_ hb; have HL := Aside0.mk (Below.refl w9.heap.size w9)) | (go_at_call 16; (with_reducible refine (y_drop (HA.out.below (by repeat (first | (with_reducible first | exact HL.out | apply below_alloc | apply pw_below_drewN | apply below_drew1) | exact HL.out))) fine_nil (bc_good r s 0 (by omega) hr0.2) index hix.out false rfl [] rfl (bc r s 0) rfl).mono ?_); rintro e w10 ⟨rfl, hA, hF⟩; have hF0 := hF; have hF := FS.trans (FS.of_below (by repeat (first | (with_reducible first | exact HL.out | apply below_alloc | apply pw_below_drewN | apply below_drew1) | exact HL.out))) hF; have n0_ := Aside0.mk (FS.below hF HB.out hg (below_size HB.out)); clear HB; have HB := n0_; clear n0_; clear HA; have HA := Aside0.mk (show SY w10 gs w1.heap.size mb 1 1000 1000 (bc r s 0) [] from hA); clear hA HL hF hF0; have HL := Aside0.mk (Below.refl w10.heap.size w10)) | (go_at_call 14; (with_reducible refine (y_hold (HA.out.below (by repeat (first | (with_reducible first | exact HL.out | apply below_alloc | apply pw_below_drewN | apply below_drew1) | exact HL.out))) fine_nil index hix.out false rfl [] rfl).mono ?_); rintro e w11 ⟨rfl, hA, hF⟩; have hF0 := hF; have hF := FS.trans (FS.of_below (by repeat (first | (with_reducible first | exact HL.out | apply below_alloc | apply pw_below_drewN | apply below_drew1) | exact HL.out))) hF; have n0_ := Aside0.mk (FS.below hF HB.out hg (below_size HB.out)); clear HB; have HB := n0_; clear n0_; clear HA; have HA := Aside0.mk (show SY w11 gs w1.heap.size mb 1 1000 1000 (bc r s 0) [] from hA); clear hA HL hF hF0; have HL := Aside0.mk (Below.refl w11.heap.size w11)) | (go_at_call 25; (with_reducible refine (y_charged (HA.out.below (by repeat (first | (with_reducible first | exact HL.out | apply below_alloc | apply pw_below_drewN | apply below_drew1) | exact HL.out))) 0 rfl).mono ?_); rintro e w12 ⟨rfl, hb⟩; have n0_ := Aside0.mk (below_step (by repeat (first | (with_reducible first | exact HB.out | apply below_alloc | apply pw_below_drewN | apply below_drew1) | exact HB.out)) hb); clear HB; have HB := n0_; clear n0_; have hs_ := below_step (by repeat (first | (with_reducible first | exact HL.out | apply below_alloc | apply pw_below_drewN | apply below_drew1) | exact HL.out)) hb; have n_ := Aside0.mk (SY.below HA.out hs_); clear HA; have HA := n_; clear n_; clear HL hs_ hb; have HL := Aside0.mk (Below.refl w12.heap.size w12)) | (go_at_call 23; (with_reducible refine (y_len (HA.out.below (by repeat (first | (with_reducible first | exact HL.out | apply below_alloc | apply pw_below_drewN | apply below_drew1) | exact HL.out))) 0 rfl).mono ?_); rintro e w13 ⟨rfl, hb⟩; have n0_ := Aside0.mk (below_step (by repeat (first | (with_reducible first | exact HB.out | apply below_alloc | apply pw_below_drewN | apply below_drew1) | exact HB.out)) hb); clear HB; have HB := n0_; clear n0_; have hs_ := below_step (by repeat (first | (with_reducible first | exact HL.out | apply below_alloc | apply pw_below_drewN | apply below_drew1) | exact HL.out)) hb; have n_ := Aside0.mk (SY.below HA.out hs_); clear HA; have HA := n_; clear n_; clear HL hs_ hb; have HL := Aside0.mk (Below.refl w13.heap.size w13)))
          all_goals go_ret
          all_goals exact ⟨rfl, (by repeat (first | (with_reducible first | exact HB.out | apply below_alloc | apply pw_below_drewN | apply below_drew1) | exact HB.out))⟩
        · go_wp2_with (first | (go_at_call 18; (with_reducible refine (y_get (HA.out.below (by repeat (first | (with_reducible first | exact HL.out | apply below_alloc | apply pw_below_drewN | apply below_drew1) | exact HL.out))) (lc_fine index (i + 1) (by omega)) (bc_good r s (i + 1) (by omega) hr0.2) (HS.out (i + 1)) index hix.out K t el true (lc_get index r s i (by omega) K t el HG.out)).mono ?_); rintro e w8 ⟨v8, rfl, hR8, hb⟩; have n0_ := Aside0.mk (below_step (by repeat (first | (with_reducible first | exact HB.out | apply below_alloc | apply pw_below_drewN | apply below_drew1) | exact HB.out)) hb); clear HB; have HB := n0_; clear n0_; have hs_ := below_step (by repeat (first | (with_reducible first | exact HL.out | apply below_alloc | apply pw_below_drewN | apply below_drew1) | exact HL.out)) hb; have n_ := Aside0.mk (SY.below HA.out hs_); clear HA; have HA := n_; clear n_; have n_ := Aside0.mk (blk_below BE.out hs_); clear qBE_0 qBE_1 qBE_2 lBE; clear BE; have BE := n_; clear n_; have qBE_0 := blk_cell BE.out 0; have qBE_1 := blk_cell BE.out 1; have qBE_2 := blk_cell BE.out 2; have lBE := blk_lt BE.out; simp only [List.getElem?_toArray, List.getElem?_cons_zero, List.getElem?_cons_succ] at qBE_0 qBE_1 qBE_2; obtain ⟨A8, c8, e8⟩ := Kd.R_slice hR8; rw [HLM.out] at e8; subst e8; have r8_ := Kd.R_reads' hR8; rw [HLM.out] at r8_; have C8 := Aside0.mk r8_.2.2; have c8l := Aside0.mk r8_.2.1; clear hR8 r8_; clear HL hs_ hb; have HL := Aside0.mk (Below.refl w8.heap.size w8)) | (go_at_call 21; (with_reducible refine (y_count (HA.out.below (by repeat (first | (with_reducible first | exact HL.out | apply below_alloc | apply pw_below_drewN | apply below_drew1) | exact HL.out))) index hix.out ((i + 1 : Nat) : Int) (lc_count index i)).mono ?_); rintro e w9 ⟨rfl, hb⟩; have n0_ := Aside0.mk (below_step (by repeat (first | (with_reducible first | exact HB.out | apply below_alloc | apply pw_below_drewN | apply below_drew1) | exact HB.out)) hb); clear HB; have HB := n0_; clear n0_; have hs_ := below_step (by repeat (first | (with_reducible first | exact HL.out | apply below_alloc | apply pw_below_drewN | apply below_drew1) | exact HL.out)) hb; have n_ := Aside0.mk (SY.below HA.out hs_); clear HA; have HA := n_; clear n_; have n_ := Aside0.mk (blk_below BE.out hs_); clear qBE_0 qBE_1 qBE_2 lBE; clear BE; have BE := n_; clear n_; have qBE_0 := blk_cell BE.out 0; have qBE_1 := blk_cell BE.out 1; have qBE_2 := blk_cell BE.out 2; have lBE := blk_lt BE.out; simp only [List.getElem?_toArray, List.getElem?_cons_zero, List.getElem?_cons_succ] at qBE_0 qBE_1 qBE_2; have n_ := Aside0.mk (Kd.C_below C8.out hs_); clear C8; have C8 := n_; clear n_; have BX := Aside0.mk (blk_below (o := .cells #[.int .i64 K, .int .i64 t, .slice A8 m c8] 35 (0, 0)) (g := w8.heap.size) (by repeat (first | (with_reducible refine blk_drewN ?_ _) | (with_reducible refine blk_drew ?_) | exact blk_new' (by first | rfl | simp) | (with_reducible refine blk_alloc ?_ _))) hb); have qBX_0 := blk_cell BX.out 0; have qBX_1 := blk_cell BX.out 1; have qBX_2 := blk_cell BX.out 2; have lBX := blk_lt BX.out; simp only [List.getElem?_toArray, List.getElem?_cons_zero, List.getElem?_cons_succ] at qBX_0 qBX_1 qBX_2; clear HL hs_ hb; have HL := Aside0.mk (Below.refl w9.heap.size w9)) | (go_at_call 29; (with_reducible refine (wsame_n K t A8 m c8 el K t A m c el true _ (Kd.C_below C8.out (by repeat (first | (with_reducible first | exact HL.out | apply below_alloc | apply pw_below_drewN | apply below_drew1) | exact HL.out))) c8l.out (HC.out _ (Has.of_below (by repeat (first | (with_reducible first | exact HB.out | apply below_alloc | apply pw_below_drewN | apply below_drew1) | exact HB.out)))) (by omega) (sameE_refl _ _ _)).mono ?_); rintro e w10 ⟨rfl, hb⟩; have n0_ := Aside0.mk (below_step (by repeat (first | (with_reducible first | exact HB.out | apply below_alloc | apply pw_below_drewN | apply below_drew1) | exact HB.out)) hb); clear HB; have HB := n0_; clear n0_; have hs_ := below_step (by repeat (first | (with_reducible first | exact HL.out | apply below_alloc | apply pw_below_drewN | apply below_drew1) | exact HL.out)) hb; have n_ := Aside0.mk (SY.below HA.out hs_); clear HA; have HA := n_; clear n_; have n_ := Aside0.mk (blk_below BE.out hs_); clear qBE_0 qBE_1 qBE_2 lBE; clear BE; have BE := n_; clear n_; have qBE_0 := blk_cell BE.out 0; have qBE_1 := blk_cell BE.out 1; have qBE_2 := blk_cell BE.out 2; have lBE := blk_lt BE.out; simp only [List.getElem?_toArray, List.getElem?_cons_zero, List.getElem?_cons_succ] at qBE_0 qBE_1 qBE_2; have n_ := Aside0.mk (blk_below BX.out hs_); clear qBX_0 qBX_1 qBX_2 lBX; clear BX; have BX := n_; clear n_; have qBX_0 := blk_cell BX.out 0; have qBX_1 := blk_cell BX.out 1; have qBX_2 := blk_cell BX.out 2; have lBX := blk_lt BX.out; simp only [List.getElem?_toArray, List.getElem?_cons_zero, List.getElem?_cons_succ] at qBX_0 qBX_1 qBX_2; clear C8 c8l; clear HL hs_ hb; have HL := Aside0.mk (Below.refl w10.heap.size w10)) | (go_at_call 25; (with_reducible refine (y_charged (HA.out.below (by repeat (first | (with_reducible first | exact HL.out | apply below_alloc | apply pw_below_drewN | apply below_drew1) | exact HL.out))) r (by simp [bc, sumOf])).mono ?_); rintro e w11 ⟨rfl, hb⟩; have n0_ := Aside0.mk (below_step (by repeat (first | (with_reducible first | exact HB.out | apply below_alloc | apply pw_below_drewN | apply below_drew1) | exact HB.out)) hb); clear HB; have HB := n0_; clear n0_; have hs_ := below_step (by repeat (first | (with_reducible first | exact HL.out | apply below_alloc | apply pw_below_drewN | apply below_drew1) | exact HL.out)) hb; have n_ := Aside0.mk (SY.below HA.out hs_); clear HA; have HA := n_; clear n_; have n_ := Aside0.mk (blk_below BE.out hs_); clear qBE_0 qBE_1 qBE_2 lBE; clear BE; have BE := n_; clear n_; have qBE_0 := blk_cell BE.out 0; have qBE_1 := blk_cell BE.out 1; have qBE_2 := blk_cell BE.out 2; have lBE := blk_lt BE.out; simp only [List.getElem?_toArray, List.getElem?_cons_zero, List.getElem?_cons_succ] at qBE_0 qBE_1 qBE_2; have n_ := Aside0.mk (blk_below BX.out hs_); clear qBX_0 qBX_1 qBX_2 lBX; clear BX; have BX := n_; clear n_; have qBX_0 := blk_cell BX.out 0; have qBX_1 := blk_cell BX.out 1; have qBX_2 := blk_cell BX.out 2; have lBX := blk_lt BX.out; simp only [List.getElem?_toArray, List.getElem?_cons_zero, List.getElem?_cons_succ] at qBX_0 qBX_1 qBX_2; clear HL hs_ hb; have HL := Aside0.mk (Below.refl w11.heap.size w11)) | (go_at_call 23; (with_reducible refine (y_len (HA.out.below (by repeat (first | (with_reducible first | exact HL.out | apply below_alloc | apply pw_below_drewN | apply below_drew1) | exact HL.out))) 1 rfl).mono ?_); rintro e w12 ⟨rfl, hb⟩; have n0_ := Aside0.mk (below_step (by repeat (first | (with_reducible first | exact HB.out | apply below_alloc | apply pw_below_drewN | apply below_drew1) | exact HB.out)) hb); clear HB; have HB := n0_; clear n0_; have hs_ := below_step (by repeat (first | (with_reducible first | exact HL.out | apply below_alloc | apply pw_below_drewN | apply below_drew1) | exact HL.out)) hb; have n_ := Aside0.mk (SY.below HA.out hs_); clear HA; have HA := n_; clear n_; have n_ := Aside0.mk (blk_below BE.out hs_); clear qBE_0 qBE_1 qBE_2 lBE; clear BE; have BE := n_; clear n_; have qBE_0 := blk_cell BE.out 0; have qBE_1 := blk_cell BE.out 1; have qBE_2 := blk_cell BE.out 2; have lBE := blk_lt BE.out; simp only [List.getElem?_toArray, List.getElem?_cons_zero, List.getElem?_cons_succ] at qBE_0 qBE_1 qBE_2; have n_ := Aside0.mk (blk_below BX.out hs_); clear qBX_0 qBX_1 qBX_2 lBX; clear BX; have BX := n_; clear n_; have qBX_0 := blk_cell BX.out 0; have qBX_1 := blk_cell BX.out 1; have qBX_2 := blk_cell BX.out 2; have lBX := blk_lt BX.out; simp only [List.getElem?_toArray, List.getElem?_cons_zero, List.getElem?_cons_succ] at qBX_0 qBX_1 qBX_2; clear HL hs_ hb; have HL := Aside0.mk (Below.refl w12.heap.size w12)) | (go_at_call 16; (with_reducible refine (y_drop (HA.out.below (by repeat (first | (with_reducible first | exact HL.out | apply below_alloc | apply pw_below_drewN | apply below_drew1) | exact HL.out))) (lc_fine index (i + 1) (by omega)) (bc_good r s (i + 1) (by omega) hr0.2) index hix.out true (lc_has index i) (lc index i) (lc_drop index i) (bc r s i) (bc_drop index r s i (by omega))).mono ?_); rintro e w13 ⟨rfl, hA, hF⟩; have hF0 := hF; have hF := FS.trans (FS.of_below (by repeat (first | (with_reducible first | exact HL.out | apply below_alloc | apply pw_below_drewN | apply below_drew1) | exact HL.out))) hF; have n0_ := Aside0.mk (FS.below hF HB.out hg (below_size HB.out)); clear HB; have HB := n0_; clear n0_; have n_ := Aside0.mk (hF.blk BE.out (by unfold ST AT; decide)); clear qBE_0 qBE_1 qBE_2 lBE; clear BE; have BE := n_; clear n_; have qBE_0 := blk_cell BE.out 0; have qBE_1 := blk_cell BE.out 1; have qBE_2 := blk_cell BE.out 2; have lBE := blk_lt BE.out; simp only [List.getElem?_toArray, List.getElem?_cons_zero, List.getElem?_cons_succ] at qBE_0 qBE_1 qBE_2; have n_ := Aside0.mk (hF.blk BX.out (by unfold ST AT; decide)); clear qBX_0 qBX_1 qBX_2 lBX; clear BX; have BX := n_; clear n_; have qBX_0 := blk_cell BX.out 0; have qBX_1 := blk_cell BX.out 1; have qBX_2 := blk_cell BX.out 2; have lBX := blk_lt BX.out; simp only [List.getElem?_toArray, List.getElem?_cons_zero, List.getElem?_cons_succ] at qBX_0 qBX_1 qBX_2; clear HA; have HA := Aside0.mk (show SY w13 gs w1.heap.size mb 1 1000 1000 (bc r s i) (lc index i) from hA); clear hA HL hF hF0; have HL := Aside0.mk (Below.refl w13.heap.size w13)))
          all_goals go_roundw
          all_goals (try (case rel => exact ⟨i, by go_num, by omega, HB, HA, BE⟩))
          all_goals (try (case measure => (simp [intOf] <;> omega)))
end Go.Proofs.Ytibcbeibehaeeaa.Hand
